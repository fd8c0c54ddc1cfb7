/-
  OPERATIONS THAT MAKE OBJECTS OR TURN THEM.
-/
import Derived.Test.YtpablcpgdagijaaGreatXWgA
import Derived.Laws.MakeOwn
import Derived.Laws.Append
set_option linter.unusedVariables false
namespace Go.V
open Go
variable {K :bL}{D:aT K}{ρ:List Value}{S:Nat->Prop}{w:World}{H:List (Ob K)}
theorem aa9{X:Value}(h:nN X=true):X.oneCell'=true:=by cases X<;>simp[nN]at h<;>rfl
theorem one_cell{v:AV K}{X:Value}(h:Rep D ρ S w v X)(h1:v.one=true):X.oneCell'=true:=by
 cases h with
 |mp r=>cases X<;>first|rfl|cases r
 |sl hp hk=>exact aa9 hk
 |_=>first|rfl|cases h1
theorem nU{l:List (AV K)}{vs:List Value}(h:aI D ρ S w l vs)(h1:l.all AV.one=true):∀x∈vs,x.oneCell'=true:=fun x hx=>by
 obtain⟨i,hi,rfl⟩:=List.getElem_of_mem hx;have hl:i<l.length:=by rw[h.1];exact hi
 exact one_cell (h.2 i l[i] _ (List.getElem?_eq_getElem hl) (List.getElem?_eq_getElem hi)) (List.all_eq_true.1 h1 _ (List.getElem_mem hl))
theorem fc{v:AV K}{X:Value}(h:Rep D ρ S w v X)(hk:v.known=true):aI D ρ S w v.aZ X.cells.toList:=by
 cases h with
 |any=>cases hk
 |agg hl hr=>exact⟨hl,hr⟩
 |int k n=>exact .cons (.int k n) .nil
 |bool b=>exact .cons (.bool b) .nil
 |str s=>exact .cons (.str s) .nil
 |bN=>exact .cons .bN .nil
 |bO=>exact .cons .bO .nil
 |mp r=>cases X<;>first|exact .cons (.mp r) .nil|cases r
 |fn hl hr=>exact .cons (.fn hl hr) .nil
 |fU=>exact .cons .fU .nil
 |np hp=>exact .cons (.np hp) .nil
 |ptr hp=>exact .cons (.ptr hp) .nil
 |sl hp hk=>exact(by
   cases X<;>simp[nN]at hk<;>exact .cons (.sl hp rfl) .nil)
 |ep hp hi=>exact .cons (.ep hp hi) .nil
 |vw hp h1 h2 ha=>exact .cons (.vw hp h1 h2 ha) .nil
 |cK a cap=>exact .cons (.cK a cap) .nil
 |au val h1 h2 h3 h4 h5=>exact .cons (.au val h1 h2 h3 h4 h5) .nil
 |rp vs h1 h2 h3 h4=>exact .cons (.rp vs h1 h2 h3 h4) .nil
 |bc hl hr=>exact .cons (.bc hl hr) .nil
theorem uf{v:AV K}(h:v.aZ.all AV.one=true):v.known=true:=by
 cases v<;>first|rfl|simp[AV.aZ,AV.one]at h
theorem jj{w:World}{o:Obj}{k:Nat}(h:k<w.heap.size):(w.heap.push o)[k]?=w.heap[k]?:=by rw[Array.getElem?_push,if_neg (by omega)]
theorem nV(h:Array Obj)(o:Obj):(h.push o)[h.size]?=some o:=by rw[Array.getElem?_push,if_pos rfl]
def Does(D:aT K)(P:Program)(ρ:List Value)(S:Nat->Prop)(H:List (Ob K))(w:World)(s:Sem Next)(v:AV K)(H':List (Ob K)):Prop:=
 ∃n u w' ρ',s.run P w=.ok n w'/\((n=.value u)\/(n=.skip/\u=undef))/\aD D ρ' S w' H'/\Rep D ρ' S w' v u/\Step D H.length ρ S H w ρ' S H' w'
theorem jY{cx:Cx K}{e:TypeId}{c:K.U}(h:ja cx e=some c):eF cx.D c e 0:=by
 intro t ht;unfold ja at h;split at h
 ·split at h
  ·rename_i hel;simp only[Option.some.injEq]at h;subst h;unfold Nr at hel;rw[ht]at hel;exact⟨(beq_iff_eq.1 hel).symm,rfl⟩
  ·cases h
 ·cases h
theorem aba{T:TypeId}{h:Nat}{cs:List (AV K)}(hn:fm cs=false):B8 D (tU (D.jL==some T) h cs) T:=by
 intro hh;unfold tU at hh;split at hh
 ·cases hb:(D.jL==some T)
  ·rw[hb]at hh;cases hh
  ·simpa using hb
 ·rw[hn]at hh;cases hh
theorem abb{b:Bool}{h:Nat}{cs:List (AV K)}{vs:List Value}(hr:aI D ρ S w cs vs):aI D ρ S w (tU b h cs) vs:=by
 unfold tU;split
 ·obtain⟨u,t,rfl,h1,h2⟩:=hr.cS;cases h1;cases b
  ·exact .cons .bN h2
  ·exact .cons .fU h2
 ·exact hr
theorem CC{P:Program}(hs:aD D ρ S w H){cs:List (AV K)}{vs:Array Value}{T:TypeId}(hr:aI D ρ S w cs vs.toList)(hT:B8 D cs T){s:Sem Next}
 (hrun:s.run P w=.ok (.value (.pointer (some ⟨w.heap.size,0,none⟩))) (w.alloc (.cells vs T))):Does D P ρ S H w s (.ptr H.length 0) (H++[.box cs]):=by
 have hold:∀k,k<w.heap.size->(w.alloc (.cells vs T)).heap[k]?=w.heap[k]?:=fun k hk=>jj hk
 have hpre:∀(h:Nat) r,ρ[h]?=some r->(ρ++[.pointer (some ⟨w.heap.size,0,none⟩)])[h]?=some r:=fun _ _ h=>jh h
 refine⟨_,_,_,ρ++[.pointer (some ⟨w.heap.size,0,none⟩)],hrun,.inl rfl,hs.new (by simp) hold ?_ ?_,.ptr ?_,Step.new hs (by simp) hold ?_ rfl rfl rfl⟩
 ·exact⟨_,vs,T,rfl,nV _ _,hr.mono (fun _ h=>h) (fun b hb=>hold b (hs.slt b hb)) hpre,hT⟩
 ·intro b hb;simp[bj,dj]at hb;subst hb;simp
 ·rw[List.getElem?_append_right (by rw[hs.len];exact Nat.le_refl _)];simp[hs.len]
 ·intro b hb;simp[bj,dj]at hb;omega
def df(vs:List Value)(off:Nat):List Value->List Value
 |[]=>vs
 |v::r=>df (vs.set off v) (off+1) r
theorem iH(xs:List Value):∀(vs:List Value)(off:Nat),(df vs off xs).length=vs.length:=by
 induction xs with
 |nil=>intro vs off;rfl
 |cons x r ih=>intro vs off;simp[df,ih]
theorem aI.df{l:List (AV K)}{xs:List Value}(h:aI D ρ S w l xs):∀{cs:List (AV K)}{vs:List Value}(off:Nat),aI D ρ S w cs vs->aI D ρ S w (setCells cs off l) (V.df vs off xs):=by
 induction l generalizing xs with
 |nil=>intro cs vs off hc;rw[h.gR];exact hc
 |cons v r ih=>
  intro cs vs off hc;obtain⟨x,t,rfl,hx,ht⟩:=h.cS;exact ih ht (off+1) (hc.set hx)
theorem N5(xs:List Value):∀(vs:List Value)(off k:Nat),(k<off\/off+xs.length<=k)->(df vs off xs)[k]?=vs[k]?:=by
 induction xs with
 |nil=>intro vs off k _;rfl
 |cons x r ih=>
  intro vs off k h;simp only[List.length_cons]at h;rw[df,ih _ _ _ (by omega),List.getElem?_set,if_neg (by omega)]
theorem jZ{P:Program}{b o:Nat}{T:TypeId}{fr:Nat×Nat}:∀(xs:List Value)(i:Nat)(vs:Array Value)(w:World),w.heap[b]?=some (.cells vs T fr)->o+i+xs.length<=vs.size->
 (∀k,o+i<=k->k<o+i+xs.length->¬(fr.1<=k/\k<fr.2))->(∀x∈xs,x.oneCell'=true)->
 ∃w' vs',(storeCells ⟨b,o,none⟩ xs i).run P w=.ok () w'/\w'.heap[b]?=some (.cells vs' T fr)/\vs'.toList=df vs.toList (o+i) xs/\w'.heap.size=w.heap.size/\(∀k,k≠b->w'.heap[k]?=w.heap[k]?)/\
  w'.os=w.os/\w'.tape=w.tape/\w'.output=w.output
 |[],i,vs,w,hb,_,_,_=>⟨w,vs,rfl,hb,rfl,rfl,fun _ _=>rfl,rfl,rfl,rfl⟩
 |x::r,i,vs,w,hb,hsz,hfr,h1=>by
  simp only[List.length_cons]at hsz hfr;have hc:w.cell? ⟨b,o+i,none⟩=some vs[o+i]:=by simp[World.cell?,hb]
  have hf:w.frozen? ⟨b,o+i,none⟩=false:=by
   have:=hfr (o+i) (Nat.le_refl _) (by omega);simp only[World.frozen?,hb];simpa using this
  have hlt:b<w.heap.size:=(Array.getElem?_eq_some_iff.1 hb).1;have hset:(w.setCell ⟨b,o+i,none⟩ x).heap[b]?=some (.cells (vs.setIfInBounds (o+i) x) T fr):=by
   simp[World.setCell,Array.getElem?_modify,hb]
  have hst:(store ⟨b,o+i,none⟩ x).run P w=.ok () (w.setCell ⟨b,o+i,none⟩ x):=by
   rw[run_store P w _ x .plain (h1 x (by simp))];simp[hc,hf]
  obtain⟨w',vs',e1,e2,e3,e4,e5,e6,e7,e8⟩:=jZ (P:=P) (b:=b) (o:=o) (T:=T) (fr:=fr) r (i+1) _ _ hset (by simp;omega) (fun k hk hk'=>hfr k (by omega) (by omega)) (fun y hy=>h1 y (by simp[hy]));refine⟨w',vs',?_,e2,?_,?_,fun k hk=>?_,e6,e7,e8⟩
  ·simp only[storeCells,Sem.run_bind,add_plain,hst,Result.andThen_ok,e1]
  ·rw[e3,df];simp[Nat.add_assoc]
  ·rw[e4];simp[World.setCell]
  ·rw[e5 k hk];simp[World.setCell,Array.getElem?_modify,Ne.symm hk]
theorem xi{P:Program}{t:TypeId}{n:Nat}{a:Addr}{X:Value}(hn:bY P t=some n)(hX:X.cells.size=n):(storeVar t a X).run P w=(storeCells a X.cells.toList).run P w:=by
 simp[storeVar,eK hn,hX]
theorem gC(xs:List Value):∀(vs:List Value)(off k:Nat),off+xs.length<=vs.length->(df vs off xs)[k]?=if off<=k/\k<off+xs.length then xs[k-off]? else vs[k]?:=by
 induction xs with
 |nil=>intro vs off k _;rw[if_neg (by first|omega|simp)];rfl
 |cons x r ih=>
  intro vs off k h;simp only[List.length_cons]at h;rw[df,ih _ _ _ (by simp;omega)];by_cases h1:off+1<=k/\k<off+1+r.length
  ·rw[if_pos h1,if_pos (by simp;omega)];rw[show k-off=(k-(off+1))+1 by omega];rfl
  ·rw[if_neg h1];by_cases h2:k=off
   ·subst h2;rw[if_pos (by simp)];rw[List.getElem?_set];simp;omega
   ·rw[if_neg (by simp;omega),List.getElem?_set,if_neg (by omega)]
theorem abd{vs':Array Value}{vs:Array Value}{p off n:Nat}{xs:List Value}(h:vs'.toList=df vs.toList (p+off) xs)(h1:off+xs.length<=n)(h2:p+n<=vs.size):
 bz vs' p n=df (bz vs p n) off xs:=by
 apply List.ext_getElem?;intro k;have hl:(bz vs p n).length=n:=by simp[bz];omega
 rw[gC _ _ _ _ (by rw[hl];exact h1)];simp only[bz,List.getElem?_take,List.getElem?_drop,h];rw[gC _ _ _ _ (by simp;omega)];by_cases hk:k<n
 ·rw[if_pos hk,if_pos hk];by_cases hc:off<=k/\k<off+xs.length
  ·rw[if_pos (by omega),if_pos hc];congr 1;omega
  ·rw[if_neg (by omega),if_neg hc]
 ·rw[if_neg hk,if_neg hk,if_neg (by omega)]
theorem nW{vs':Array Value}{vs:Array Value}{p q n:Nat}{xs:List Value}(h:vs'.toList=df vs.toList q xs)(h1:p+n<=q\/q+xs.length<=p):bz vs' p n=bz vs p n:=by
 apply List.ext_getElem?;intro k;simp only[bz,List.getElem?_take,List.getElem?_drop,h];by_cases hk:k<n
 ·rw[if_pos hk,if_pos hk,N5 _ _ _ _ (by omega)]
 ·rw[if_neg hk,if_neg hk]
theorem Does.behind{P:Program}{ρ1:List Value}{H1 H':List (Ob K)}(h:Step D H.length ρ S H w ρ1 S H1 w)(hl:H.length<=H1.length){s:Sem Next}{v:AV K}(d:Does D P ρ1 S H1 w s v H'):Does D P ρ S H w s v H':=by
 obtain⟨n,u,w',ρ',e1,e2,e3,e4,e5⟩:=d;exact⟨n,u,w',ρ',e1,e2,e3,e4,h.trans (e5.weaken hl)⟩
theorem abe{P:Program}(hs:aD D ρ S w H){t:TypeId}{n h off:Nat}{cs xs:List (AV K)}{X A:Value}(hn:bY P t=some n)(ft:xs.length=n)(h1:∀x∈X.cells.toList,x.oneCell'=true)
 (ho:H[h]?=some (.box cs)) (hoff:off+n<=cs.length) (hc:aI D ρ S w xs X.cells.toList) (hA:Rep D ρ S w (.ptr h off) A) (fW:fm (setCells cs off xs)=true->fm cs=true):
 Does D P ρ S H w (do Instr.storeAt t A X;pure .skip) .any (H.set h (.box (setCells cs off xs))):=by
 obtain⟨b,rfl,hb⟩:=rR hA;obtain⟨b',vs,T,e,hblk,xe,hbT⟩:=hs.ob _ _ _ ho hb;simp only[Value.pointer.injEq,Option.some.injEq,Addr.mk.injEq]at e;obtain⟨rfl,-,-⟩:=e;have hlen:X.cells.toList.length=n:=by rw[<-hc.1,ft]
 have hvs:cs.length=vs.size:=by simpa using xe.1
 obtain⟨w',vs',e1,e2,e3,e4,e5,e6,e7,e8⟩:=jZ (P:=P) (b:=b) (o:=off) X.cells.toList 0 vs w hblk (by omega) (fun k _ _ hh=>by have:=hh.2;simp at this) h1;rw[Nat.add_zero]at e3;have hnS:¬S b:=(hs.lt b ⟨h,_,_,ho,rfl,hb,rfl⟩).2;refine⟨.skip,undef,w',ρ,?_,.inr ⟨rfl,rfl⟩,hs.turn ho rfl hb rfl e4 e5 (fun _ h=>h) ?_,.any _,Step.turn hs ho rfl hb rfl e4 e5 (fun _ h=>h) e6 e7 e8⟩
 ·have:(storeVar t ⟨b,off,none⟩ X).run P w=.ok () w':=by rw[xi hn (by simpa using hlen)];exact e1
  simp[Instr.storeAt,Instr.sureAddr,this]
 ·refine⟨b,vs',T,rfl,e2,?_,fun h=>hbT (fW h)⟩;rw[e3];exact(hc.df off xe).mono (fun _ h=>h) (fun k hk=>e5 k (fun e=>by subst e;exact hnS hk)) (fun _ _ h=>h)
theorem abg{P:Program}(hD:aX D)(hs:aD D ρ S w H){t:TypeId}{n h i off:Nat}{c:K.U}{l:List (K.El c)}{y:K.El c}{x:AV K}{X A:Value}(hn:bY P t=some n)(ft:x.aZ.length=n)
 (h1:x.aZ.all AV.one=true) (ho:H[h]?=some (.arr c l)) (hoff:off+n<=K.sz c) (hcl:dz x.aZ=true) (hdec:D.dec c (setCells (D.cells c (l.getD i (K.zero c))) off x.aZ)=some (y,true))
 (hx:Rep D ρ S w x X) (hA:Rep D ρ S w (.ep h (K.sz c) i off) A):Does D P ρ S H w (do Instr.storeAt t A X;pure .skip) .any (H.set h (.arr c (l.set i y))):=by
 obtain⟨b,o,m,cp,rfl,hb,hi⟩:=iF hA;rcases nR hs ho hb with⟨e,-⟩|⟨b',o',cap,vs,T,fr,e,hblk,⟨hcap,bZ⟩,hsz,hfr,hall⟩
 ·cases e
 ·simp only[Value.slice.injEq,Option.some.injEq,Addr.mk.injEq]at e;obtain⟨⟨rfl,rfl,-⟩,rfl,rfl⟩:=e;have hc:=fc hx (uf h1);have hlen:X.cells.toList.length=n:=by rw[<-hc.1,ft]
  have hmul:(i+1)*K.sz c<=cp*K.sz c:=Nat.mul_le_mul_right _ (by omega);rw[Nat.add_mul,Nat.one_mul]at hmul;obtain⟨w',vs',e1,e2,e3,e4,e5,e6,e7,e8⟩:=jZ (P:=P) (b:=b) (o:=o+i*K.sz c+off) X.cells.toList 0 vs w hblk (by omega) (fun k hk hk'=>hfr k (by omega) (by omega)) (nU hc h1);rw[Nat.add_zero]at e3;have hnS:¬S b:=(hs.lt b ⟨h,_,_,ho,rfl,hb,rfl⟩).2;refine⟨.skip,undef,w',ρ,?_,.inr ⟨rfl,rfl⟩,hs.turn ho rfl hb rfl e4 e5 (fun _ h=>h) ?_,.any _,Step.turn hs ho rfl hb rfl e4 e5 (fun _ h=>h) e6 e7 e8⟩
  ·have:(storeVar t ⟨b,o+i*K.sz c+off,none⟩ X).run P w=.ok () w':=by rw[xi hn (by simpa using hlen)];exact e1
   simp[Instr.storeAt,Instr.sureAddr,this]
  ·have hsize:vs'.size=vs.size:=by have:=congrArg List.length e3;rw[iH]at this;simpa using this
   refine .inr ⟨b,o,cp,vs',T,fr,by simp,e2,⟨by simpa using hcap,bZ⟩,by omega,hfr,fun k z hz=>?_⟩;have hmono:∀{l:List (AV K)}{us:List Value},aI D ρ S w l us->aI D ρ S w' l us:=fun h=>h.mono (fun _ h=>h) (fun k hk=>e5 k (fun e=>by subst e;exact hnS hk)) (fun _ _ h=>h)
   rcases cI hz with⟨rfl,rfl,-⟩|⟨hk,hz⟩
   ·have hold:=hall k _ (getD_some (K.zero c) hi);rw[abd e3 (by rw[hlen];exact hoff) (by omega)];exact hmono (hD.dec c _ _ hdec ρ S w _ (hc.df off hold))
   ·have hkl:k<l.length:=(List.getElem?_eq_some_iff.1 hz).1;rw[nW e3]
    ·exact hmono (hall k z hz)
    ·rw[hlen];rcases Nat.lt_or_ge k i with hlt|hge
     ·have:(k+1)*K.sz c<=i*K.sz c:=Nat.mul_le_mul_right _ (by omega);rw[Nat.add_mul,Nat.one_mul]at this;left;omega
     ·have:(i+1)*K.sz c<=k*K.sz c:=Nat.mul_le_mul_right _ (by omega);rw[Nat.add_mul,Nat.one_mul]at this;right;omega
theorem xj{P:Program}(hs:aD D ρ S w H){c:K.U}{l:List (K.El c)}{vs:Array Value}{T:TypeId}{fr:Nat×Nat}{cap:Nat}{w':World}(hw:w'.heap=w.heap.push (.cells vs T fr))
 (e1:w'.os=w.os) (e2:w'.tape=w.tape) (e3:w'.output=w.output) (hcap:l.length<=cap) (bZ:eF D c T 0) (hsz:cap*K.sz c<=vs.size) (hfr:∀k,k<cap*K.sz c->¬(fr.1<=k/\k<fr.2))
 (hall:∀i x,l[i]?=some x->aI D ρ S w (D.cells c x) (bz vs (i*K.sz c) (K.sz c))) {s:Sem Next}
 (hrun:s.run P w=.ok (.value (.slice (some ⟨w.heap.size,0,none⟩) l.length cap)) w') (hle:fr.1<=fr.2:=by first|exact Nat.le_refl _|exact Nat.le_succ _):Does D P ρ S H w s (.sl H.length) (H++[.arr c l]):=by
 have hold:∀k,k<w.heap.size->w'.heap[k]?=w.heap[k]?:=fun k hk=>by rw[hw];exact jj hk
 have hpre:∀(h:Nat) r,ρ[h]?=some r->(ρ++[.slice (some ⟨w.heap.size,0,none⟩) l.length cap])[h]?=some r:=fun _ _ h=>jh h
 have hsize:w'.heap.size=w.heap.size+1:=by rw[hw];simp
 refine⟨_,_,_,ρ++[.slice (some ⟨w.heap.size,0,none⟩) l.length cap],hrun,.inl rfl,hs.new (by omega) hold ?_ ?_,.sl ?_,Step.new hs (by omega) hold ?_ e1 e2 e3⟩
 ·refine .inr ⟨_,0,cap,vs,T,fr,rfl,by rw[hw];exact nV _ _,⟨hcap,bZ,hle⟩,by omega,fun k _ hk=>hfr k (by omega),fun i x hx=>?_⟩;rw[Nat.zero_add];exact(hall i x hx).mono (fun _ h=>h) (fun b hb=>hold b (hs.slt b hb)) hpre
 ·intro b hb;simp[bj,dj]at hb;omega
 ·rw[List.getElem?_append_right (by rw[hs.len];exact Nat.le_refl _)];simp[hs.len]
 ·intro b hb;simp[bj,dj]at hb;omega
theorem abh{P:Program}(hs:aD D ρ S w H){c:K.U}{l:List (K.El c)}{vs:Array Value}{T:TypeId}{fr:Nat×Nat}{w':World}(hw:w'.heap=w.heap.push (.cells vs T fr))
 (e1:w'.os=w.os) (e2:w'.tape=w.tape) (e3:w'.output=w.output)
 (hall:∀i x,l[i]?=some x->aI D ρ S w (D.cells c x) (bz vs (i*K.sz c) (K.sz c))):
 aD D ρ (fun b=>S b\/b=w.heap.size) w' H/\Rep D ρ (fun b=>S b\/b=w.heap.size) w' (.au c l) (.slice (some ⟨w.heap.size,0,none⟩) l.length l.length)/\Step D H.length ρ S H w ρ (fun b=>S b\/b=w.heap.size) H w':=by
 have hold:∀k,k<w.heap.size->w'.heap[k]?=w.heap[k]?:=fun k hk=>by rw[hw];exact jj hk
 have hnew:w'.heap[w.heap.size]?=some (.cells vs T fr):=by rw[hw];exact nV _ _
 have hsize:w'.heap.size=w.heap.size+1:=by rw[hw];simp
 have hs2:=hs.world (w':=w') (by omega) (fun b hb=>hold b (hs.lt b hb).1) (fun b hb=>hold b (hs.slt b hb));have hO:∀b,Own D w' ρ H b->Own D w ρ H b:=fun b hb=>hb.old fun b hb=>hold b (hs.lt b hb).1
 refine⟨⟨hs.len,fun k o r g1 g2=>(hs2.ob k o r g1 g2).mono (fun _ h=>.inl h) (fun _ _=>rfl) (fun _ _ h=>h) (fun _ _ _=>rfl),hs2.ct,fun b hb=>⟨(hs2.lt b hb).1,fun hS=>?_⟩,fun b hb=>?_,D.base.mono (fun _ h=>.inl h) (fun _ _=>rfl) hs2.base⟩,?_,
  ⟨e1,e2,e3,by omega,fun b hb _=>hold b hb,fun b hb=>.inl (hO b hb),fun _ h=>.inl h,fun b hb=>?_,fun _ _=>rfl⟩⟩
 ·rcases hS with h|h
  ·exact(hs.lt b (hO b hb)).2 h
  ·have:=(hs.lt b (hO b hb)).1;omega
 ·rcases hb with h|h
  ·have:=hs.slt b h;omega
  ·omega
 ·refine .au (fun i=>bz vs (i*K.sz c) (K.sz c)) (.inr rfl) (Nat.le_refl _) (fun i x hx=>(hall i x hx).1.symm) (fun i _=>?_) (fun i x hx j v y hv hy=>?_)
  ·rw[Nat.zero_add];intro j v hv;simp only[bz,List.getElem?_take,List.getElem?_drop]at hv;split at hv
   ·simp[World.cell?,hnew];simpa using hv
   ·cases hv
  ·exact((hall i x hx).2 j v y hv hy).mono (fun _ h=>.inl h) (fun b hb=>hold b (hs.slt b hb)) (fun _ _ h=>h)
 ·rcases hb with h|h
  ·exact .inl h
  ·exact .inr (.inr (by omega))
theorem CE{z:Array Value}{n i sz:Nat}(hz:z.size=sz)(h:i<n):bz (madeCells z (n*sz)) (i*sz) sz=z.toList:=by
 have hmul:(i+1)*sz<=n*sz:=Nat.mul_le_mul_right _ h;rw[Nat.add_mul,Nat.one_mul]at hmul;apply List.ext_getElem?;intro k;simp only[bz,List.getElem?_take,List.getElem?_drop,madeCells,Array.toList_map,Array.toList_range,List.getElem?_map];by_cases hk:k<sz
 ·rw[if_pos hk,List.getElem?_range (by omega)];simp only[Option.map_some];rw[show(i*sz+k)%z.size=k by rw[hz,Nat.add_comm,Nat.add_mul_mod_self_right,Nat.mod_eq_of_lt hk]];rw[List.getElem?_eq_getElem (by simpa [hz]using hk)];rw[getElem!_pos z k (by omega)];simp
 ·rw[if_neg hk,List.getElem?_eq_none (by simp;omega)]
end Go.V
namespace Go.V
open Go
variable {K :bL}{D:aT K}{ρ:List Value}{S:Nat->Prop}{w:World}{H:List (Ob K)}
theorem cN{α:Type}{P:Program}{x:Sem α}{f:α->Next}{a:α}{w':World}(h:x.run P w=.ok a w'):(do pure (f (<-x)):Sem Next).run P w=.ok (f a) w':=by simp[h]
theorem abj{P:Program}(hs:aD D ρ S w H){T:TypeId}:Does D P ρ S H w (do pure (.value (<-Instr.makeMap T none))) .mp (H++[.dead]):=by
 have hold:∀k,k<w.heap.size->(w.alloc (.map #[] 0)).heap[k]?=w.heap[k]?:=fun k hk=>jj hk
 refine⟨_,_,_,ρ++[.bool false],cN (f:=.value) (by simp[Instr.makeMap,newObj];rfl),.inl rfl,hs.new (w':=w.alloc (.map #[] 0)) (by simp) hold trivial ?_,.mp rfl,Step.new hs (w':=w.alloc (.map #[] 0)) (by simp) hold ?_ rfl rfl rfl⟩
 ·intro b hb;simp[bj,dj]at hb
 ·intro b hb;simp[bj,dj]at hb
theorem dZ{P:Program}{t e:TypeId}(h:elemOf? P t=some e):P.underlying t=some (.slice e):=by
 unfold elemOf? at h;split at h
 ·simp only[Option.some.injEq]at h;subst h;assumption
 ·cases h
theorem j0{P:Program}{t:TypeId}{n:Nat}(h:bY P t=some n):∃i,P.info? t=some i/\i.size=n:=by
 unfold bY at h;cases hi:P.info? t with
 |none=>simp[hi]at h
 |some i=>simp[hi]at h;exact⟨i,rfl,h⟩
theorem ug{P:Program}{e:TypeId}{i:TypeInfo}(h:room e P=true)(hi:P.info? e=some i):i.bytes<=4096:=by
 unfold room at h;rw[hi]at h;simpa using h
theorem rV{P:Program}{t:TypeId}{z:AV K}{i:TypeInfo}(h:zeroOf P t=some z)(hi:P.info? t=some i):∃v,i.zero=some v/\fO v=some z:=by
 unfold zeroOf at h;rw[hi]at h;cases hz:i.zero with
 |none=>simp[hz]at h
 |some v=>simp[hz]at h;exact⟨v,rfl,h⟩
theorem xk{P:Program}{t:TypeId}{i:TypeInfo}(h:iD P t=true)(hi:P.info? t=some i):∃v,i.zero=some v/\v.cells.size=i.size:=by
 unfold iD at h;rw[hi]at h;cases hz:i.zero with
 |none=>simp[hz]at h
 |some v=>simp[hz]at h;exact⟨v,rfl,h⟩
theorem abk{P:Program}(hD:aX D)(hs:aD D ρ S w H){t e:TypeId}{c:K.U}{z:AV K}{y:K.El c}{kl kc:IntKind}{n m:Int}(ht:elemOf? P t=some e)(hsz:bY P e=some (K.sz c))(hroom:room e P=true)
 (hz:zeroOf P e=some z) (hk:z.known=true) (hdec:D.dec c z.aZ=some (y,true)) (h0:0<=n) (h1:n<=m) (h2:m<=1073741824) (bZ:eF D c e 0):
 Does D P ρ S H w (do pure (.value (<-Instr.makeSlice t (.int kl n) (.int kc m)))) (.sl H.length) (H++[.arr c (List.replicate n.toNat y)]):=by
 obtain⟨i,hi,hisz⟩:=j0 hsz;obtain⟨v,hv,hov⟩:=rV hz hi;have hb:=ug hroom hi;have hrz:aI D ρ S w (D.cells c y) v.cells.toList:=hD.dec c _ _ hdec ρ S w _ (fc (lO v z hov) hk);have hvs:v.cells.size=K.sz c:=by have:=hrz.1;rw[hD.len]at this;simpa using this.symm
 have hmul:(i.bytes:Int)*m<=4096*1073741824:=Int.mul_le_mul (by omega) h2 (by omega) (by omega);have hrun:=run_make (P:=P) w t e i v (dZ ht) hi hv kl kc n m h0 h1 (by omega) (by omega);rw[hisz]at hrun;refine xj hs (c:=c) (l:=List.replicate n.toNat y) (vs:=madeCells v.cells (m.toNat*K.sz c)) (T:=e) (fr:=(0,0)) (cap:=m.toNat) (w':=w.alloc (.cells (madeCells v.cells (m.toNat*K.sz c)) e)) rfl rfl rfl rfl (by simp;omega) bZ (by rw[size_madeCells];exact Nat.le_refl _) (fun k _ hh=>by have:=hh.2;simp at this)
  (fun j x hx=>?_) (by rw[List.length_replicate];exact cN (f:=.value) hrun)
 have hj:j<n.toNat:=by have:=(List.getElem?_eq_some_iff.1 hx).1;simpa using this
 have hxy:x=y:=by
  rw[List.getElem?_replicate]at hx;split at hx
  ·simpa using hx.symm
  ·rename_i hn;exact absurd hj hn
 rw[hxy,CE hvs (by omega)];exact hrz
theorem N6(off:Nat):∀(xs:List Value)(j:Nat)(cs:Array Value),((xs.zipIdx j).foldl (fun cs (cj:Value×Nat)=>cs.setIfInBounds (off+cj.2) cj.1) cs).toList=df cs.toList (off+j) xs
 |[],j,cs=>rfl
 |x::r,j,cs=>by
  rw[List.zipIdx_cons,List.foldl_cons,N6 off r (j+1) _,df,Array.toList_setIfInBounds,Nat.add_assoc]
theorem abl(off:Nat)(xs cs:Array Value):(xs.zipIdx.foldl (fun cs (x:Value×Nat)=>match x with|(c,j)=>cs.setIfInBounds (off+j) c) cs).toList=df cs.toList off xs.toList:=by
 rw[<-Array.foldl_toList,Array.toList_zipIdx];exact N6 off xs.toList 0 cs
theorem N7{place:Nat->Option (Nat×Nat)}{cells:Array Value}{i off size:Nat}{v:Value}{rest:List (Nat×Value)}(hp:place i=some (off,size))(hv:v.cells.size=size)(hle:off+size<=cells.size):
 Instr.fill place cells ((i,v)::rest)=Instr.fill place (df cells.toList off v.cells.toList).toArray rest:=by
 simp only[Instr.fill,hp];rw[if_neg (by simp[hv];omega)];congr 1;apply Array.ext';rw[abl]
theorem N8{places:List (Nat×Nat)}{ev:Operand->AV K}{ρe:Operand->Value}(hev:∀x,Rep D ρ S w (ev x) (ρe x)):∀(parts:List (Nat×Operand))(cs cs':List (AV K))(vs:Array Value),rF places ev cs parts=some cs'->
 aI D ρ S w cs vs.toList->∃vs',Instr.fill (places.toArray[·]?) vs (parts.map fun p=>(p.1,ρe p.2))=some vs'/\aI D ρ S w cs' vs'.toList
 |[],cs,cs',vs,h,hr=>by simp[rF]at h;subst h;exact⟨vs,rfl,hr⟩
 |(i,x)::r,cs,cs',vs,h,hr=>by
  simp only[rF]at h;split at h
  ·rename_i off n hp;split at h
   ·rename_i hc;obtain⟨hk,hl,hle⟩:=hc;have hx:=fc (hev x) hk;have hsz:(ρe x).cells.size=n:=by have:=hx.1;simp at this;omega
    have hvl:vs.size=cs.length:=by have:=hr.1;simp at this;omega
    obtain⟨vs',e1,e2⟩:=N8 hev r _ cs' (df vs.toList off (ρe x).cells.toList).toArray h (by simpa using hx.df off hr);refine⟨vs',?_,e2⟩;rw[List.map_cons,N7 (by simpa using hp) hsz (by omega)];exact e1
   ·cases h
  ·cases h
theorem abm{P:Program}{ev:Operand->AV K}{ρe:Operand->Value}(hev:∀x,Rep D ρ S w (ev x) (ρe x)){t:TypeId}{ps:List (Nat×Nat)}{z:AV K}{parts:Array (Nat×Operand)}{cs:List (AV K)}
 (hps:placesOf P t=some ps) (hz:zeroOf P t=some z) (hk:z.known=true) (h:rF ps ev z.aZ parts.toList=some cs):
 ∃u,(Instr.build t (parts.map fun(i,x)=>(i,ρe x))).run P w=.ok u w/\Rep D ρ S w (.agg cs) u:=by
 unfold placesOf at hps;split at hps
 ·rename_i fs hu;have hi:∃i,P.info? t=some i:=by
   unfold zeroOf at hz;cases h:P.info? t with
   |none=>simp[h]at hz
   |some i=>exact⟨i,rfl⟩
  obtain⟨i,hi⟩:=hi;obtain⟨v,hv,hov⟩:=rV hz hi;obtain⟨vs',e1,e2⟩:=N8 hev parts.toList _ cs v.cells h (fc (lO v z hov) hk);refine⟨.agg vs',run_build w t _ vs' ?_,?_⟩
  ·simp only[Program.built,hi,hu,hv,hps];rw[<-e1];congr 1;simp
  ·have:=Rep.agg e2.1 e2.2;simpa using this
 ·cases hps
theorem abn{cs:List Value}{p n:Nat}{xs:List Value}(h1:xs.length=n)(h2:p+n<=cs.length):bz (df cs p xs).toArray p n=xs:=by
 apply List.ext_getElem?;intro k;simp only[bz,List.getElem?_take,List.getElem?_drop];rw[gC _ _ _ _ (by omega)];by_cases hk:k<n
 ·rw[if_pos hk,if_pos (by omega)];congr 1;omega
 ·rw[if_neg hk,List.getElem?_eq_none (by omega)]
theorem CG{sz:Nat}:∀(vs:List Value)(k:Nat)(cs:Array Value),(∀v∈vs,v.cells.size=sz)->(k+vs.length)*sz<=cs.size->
 ∃cs',Instr.fill (fun i=>some (i*sz,sz)) cs ((vs.zipIdx k).map fun p=>(p.2,p.1))=some cs'/\cs'.size=cs.size/\(∀i,i<k->bz cs' (i*sz) sz=bz cs (i*sz) sz)/\∀j v,vs[j]?=some v->bz cs' ((k+j)*sz) sz=v.cells.toList
 |[],k,cs,_,_=>⟨cs,rfl,rfl,fun _ _=>rfl,fun j v h=>by simp at h⟩
 |v::r,k,cs,h1,h2=>by
  have hv:=h1 v (by simp);simp only[List.length_cons]at h2;have h2':(k+1)*sz<=cs.size:=Nat.le_trans (Nat.mul_le_mul_right _ (by omega)) h2;rw[Nat.add_mul,Nat.one_mul]at h2';obtain⟨cs',e1,e2,e3,e4⟩:=CG r (k+1) (df cs.toList (k*sz) v.cells.toList).toArray (fun u hu=>h1 u (by simp[hu])) (by simp[iH];rw[show k+1+r.length=k+(r.length+1) by omega];exact h2);refine⟨cs',?_,by simpa [iH]using e2,fun i hi=>?_,fun j u hu=>?_⟩
  ·rw[List.zipIdx_cons,List.map_cons,N7 rfl hv (by omega)];exact e1
  ·rw[e3 i (by omega)];have:(i+1)*sz<=k*sz:=Nat.mul_le_mul_right _ (by omega);rw[Nat.add_mul,Nat.one_mul]at this;exact nW (by simp;rfl) (.inl this)
  ·cases j with
   |zero=>
    simp at hu;subst hu;rw[Nat.add_zero,e3 k (by omega)];exact abn (by simpa using hv) (by simpa using h2')
   |succ j=>
    have:=e4 j u (by simpa using hu);rw[<-this];congr 2;omega
theorem xl{ev:Operand->AV K}:∀(parts:List (Nat×Operand))(k:Nat)(l:List (AV K)),inOrder ev k parts=some l->l=parts.map (fun p=>ev p.2)/\parts.map (·.1)=List.range' k parts.length
 |[],k,l,h=>by simp[inOrder]at h;subst h;simp
 |(i,x)::r,k,l,h=>by
  simp only[inOrder]at h;split at h
  ·rename_i hk;subst hk;simp only[Option.map_eq_some_iff]at h;obtain⟨m,hm,rfl⟩:=h;obtain⟨e1,e2⟩:=xl r (i+1) m hm;exact⟨by simp[e1],by simp[e2,List.range'_succ]⟩
  ·cases h
theorem CH:∀(parts:List (Nat×Operand))(ρe:Operand->Value)(k:Nat),parts.map (·.1)=List.range' k parts.length->parts.map (fun p=>(p.1,ρe p.2))=((parts.map fun p=>ρe p.2).zipIdx k).map fun p=>(p.2,p.1)
 |[],_,_,_=>rfl
 |(i,x)::r,ρe,k,h=>by
  simp only[List.map_cons,List.length_cons,List.range'_succ,List.cons.injEq]at h;obtain⟨rfl,h⟩:=h;simp only[List.map_cons,List.zipIdx_cons,List.cons.injEq,true_and];exact CH r ρe (i+1) h
theorem CJ:∀(l:List (AV K))(c:K.U)(y:List (K.El c)),jb D c l=some (y,true)->y.length=l.length/\∀(i:Nat) v x,l[i]?=some v->y[i]?=some x->D.dec c v.aZ=some (x,true)
 |[],c,y,h=>by simp[jb]at h;subst h;exact⟨rfl,fun i v x h=>by simp at h⟩
 |u::r,c,y,h=>by
  simp only[jb]at h;split at h
  ·rename_i x b m b' hx hm;simp only[Option.some.injEq,Prod.mk.injEq,Bool.and_eq_true]at h;obtain⟨rfl,rfl,rfl⟩:=h;obtain⟨e1,e2⟩:=CJ r c m hm;refine⟨by simp[e1],fun i v z hv hz=>?_⟩;cases i with
   |zero=>simp at hv hz;subst hv;subst hz;exact hx
   |succ i=>exact e2 i v z (by simpa using hv) (by simpa using hz)
  ·cases h
theorem N9{P:Program}(hD:aX D)(hs:aD D ρ S w H){ev:Operand->AV K}{ρe:Operand->Value}(hev:∀x,Rep D ρ S w (ev x) (ρe x)){t e:TypeId}{c:K.U}{len:Nat}{parts:Array (Nat×Operand)}{l:List (AV K)}{y:List (K.El c)}
 (ht:elemOf? P t=some e) (hsz:bY P e=some (K.sz c)) (hz:iD P e=true) (hl:inOrder ev 0 parts.toList=some l) (hlen:l.length=len) (h1:len<=4096) (h2:K.sz c<=4096)
 (hall:l.all (fun v=>dz v.aZ&&(v.known&&decide (v.aZ.length=K.sz c)))=true) (hdec:jb D c l=some (y,true)):
 ∃cs':Array Value,(do pure (.value (<-Instr.buildSlice t len (parts.map fun(i,x)=>(i,ρe x)))):Sem Next).run P w=.ok (.value (.slice (some ⟨w.heap.size,0,none⟩) y.length y.length)) (w.alloc (.cells cs' e))/\y.length*K.sz c<=cs'.size/\
  ∀i x,y[i]?=some x->aI D ρ S w (D.cells c x) (bz cs' (i*K.sz c) (K.sz c)):=by
 obtain⟨i,hi,hisz⟩:=j0 hsz;obtain⟨zv,hzv,-⟩:=xk hz hi;obtain⟨el,er⟩:=xl _ _ _ hl;obtain⟨dl,dd⟩:=CJ l c y hdec;have hpl:parts.toList.length=len:=by rw[<-hlen,el];simp
 have hmul:len*K.sz c<=4096*4096:=Nat.mul_le_mul h1 h2;have hget:∀(j:Nat) v,l[j]?=some v->dz v.aZ=true/\v.known=true/\v.aZ.length=K.sz c:=fun j v hv=>by
  have:=List.all_eq_true.1 hall v (List.mem_of_getElem? hv);simpa using this
 generalize hus:parts.toList.map (fun p=>ρe p.2)=us;have hrel:∀(j:Nat) v u,l[j]?=some v->us[j]?=some u->Rep D ρ S w v u:=fun j v u hv hu=>by
  rw[el]at hv;rw[<-hus]at hu;simp only[List.getElem?_map,Option.map_eq_some_iff]at hv hu;obtain⟨p,hp,rfl⟩:=hv;obtain⟨q,hq,rfl⟩:=hu;rw[hp]at hq;simp at hq;subst hq;exact hev _
 have lR:us.length=l.length:=by rw[<-hus,el];simp
 have hcs:∀u∈us,u.cells.size=K.sz c:=fun u hu=>by
  obtain⟨j,hj,rfl⟩:=List.getElem_of_mem hu;have hjl:j<l.length:=by omega
  obtain⟨-,hk,hn⟩:=hget j _ (List.getElem?_eq_getElem hjl);have:=(fc (hrel j _ _ (List.getElem?_eq_getElem hjl) (List.getElem?_eq_getElem hj)) hk).1;rw[hn]at this;simpa using this.symm
 let zero:Array Value:=if len*K.sz c=0 then #[]else zv.cells
 obtain⟨cs',e1,e2,-,e4⟩:=CG (sz:=K.sz c) us 0 ((Array.range (len*K.sz c)).map (zero[· %zero.size]!)) hcs (by simp[lR,hlen]);have hparts:(parts.map fun(x:Nat×Operand)=>match x with|(i,x)=>(i,ρe x)).toList=(us.zipIdx 0).map fun p=>(p.2,p.1):=by
  rw[<-hus,<-CH parts.toList ρe 0 (by rw[er])];simp
 have hrun:(Instr.buildSlice t len (parts.map fun(i,x)=>(i,ρe x))).run P w=.ok (.slice (some ⟨w.heap.size,0,none⟩) len len) (w.alloc (.cells cs' e)):=by
  have hsize:(sizeOf e).run P w=.ok (K.sz c) w:=eK hsz;unfold Instr.buildSlice;rw[hparts];simp only[Sem.run_bind,cE (dZ ht),Result.andThen_ok,hsize];rw[if_neg (by omega)];by_cases h0:len*K.sz c=0
  ·rw[if_pos h0];have e1':=e1;simp only[zero,if_pos h0]at e1';simp only[Sem.run_bind,Sem.run_pure,Result.andThen_ok,e1'];simp[newRow]
  ·rw[if_neg h0];have e1':=e1;simp only[zero,if_neg h0]at e1';have uh:(zeroValue e).run P w=.ok zv w:=by simp[zeroValue,typeInfo,hi,hzv]
   simp only[Sem.run_bind,Sem.run_pure,Result.andThen_ok,uh,e1'];simp[newRow]
 have hyl:y.length=len:=by rw[dl,hlen]
 refine⟨cs',by rw[hyl];exact cN (f:=.value) hrun,by rw[hyl,e2];simp,fun j x hx=>?_⟩;have hj:j<l.length:=by rw[<-dl];exact(List.getElem?_eq_some_iff.1 hx).1
 have CL:=List.getElem?_eq_getElem hj;have iI:=List.getElem?_eq_getElem (show j<us.length by omega);obtain⟨-,hk,-⟩:=hget j _ CL;have:=e4 j _ iI;rw[Nat.zero_add]at this;rw[this];exact hD.dec c _ _ (dd j _ _ CL hx) ρ S w _ (fc (hrel j _ _ CL iI) hk)
theorem abo{P:Program}(hD:aX D)(hs:aD D ρ S w H){ev:Operand->AV K}{ρe:Operand->Value}(hev:∀x,Rep D ρ S w (ev x) (ρe x)){t e:TypeId}{c:K.U}{len:Nat}{parts:Array (Nat×Operand)}{l:List (AV K)}{y:List (K.El c)}
 (ht:elemOf? P t=some e) (hsz:bY P e=some (K.sz c)) (hz:iD P e=true) (hl:inOrder ev 0 parts.toList=some l) (hlen:l.length=len) (h1:len<=4096) (h2:K.sz c<=4096)
 (hall:l.all (fun v=>dz v.aZ&&(v.known&&decide (v.aZ.length=K.sz c)))=true) (hdec:jb D c l=some (y,true)) (bZ:eF D c e 0):
 Does D P ρ S H w (do pure (.value (<-Instr.buildSlice t len (parts.map fun(i,x)=>(i,ρe x))))) (.sl H.length) (H++[.arr c y]):=by
 obtain⟨cs',hrun,hcs,hseg⟩:=N9 hD hs hev ht hsz hz hl hlen h1 h2 hall hdec;exact xj hs (c:=c) (l:=y) (vs:=cs') (T:=e) (fr:=(0,0)) (cap:=y.length) (w':=w.alloc (.cells cs' e)) rfl rfl rfl rfl (Nat.le_refl _) bZ hcs (fun k _ hh=>by have:=hh.2;simp at this) hseg hrun
end Go.V
namespace Go.V
open Go
variable {K :bL}{D:aT K}{ρ:List Value}{S:Nat->Prop}{w:World}{H:List (Ob K)}
def RowOf(D:aT K)(ρ:List Value)(S:Nat->Prop)(w:World)(c:K.U)(m:List (K.El c))(news:List Value):Prop:=
 news.length=m.length*K.sz c/\∀i x,m[i]?=some x->aI D ρ S w (D.cells c x) ((news.drop (i*K.sz c)).take (K.sz c))
theorem gather{c:K.U}{b:Nat}:∀(m:List (K.El c))(o:Nat),(∀i x,m[i]?=some x->∃vs,vs.length=K.sz c/\dJ w b (o+i*K.sz c) vs/\aI D ρ S w (D.cells c x) vs)->
 ∃news,dJ w b o news/\RowOf D ρ S w c m news
 |[],o,_=>⟨[],fun j v h=>by simp at h,by simp,fun i x h=>by simp at h⟩
 |x::r,o,h=>by
  obtain⟨vs,h1,h2,h3⟩:=h 0 x rfl;rw[Nat.zero_mul,Nat.add_zero]at h2;obtain⟨news,g1,g2,g3⟩:=gather r (o+K.sz c) (fun i y hy=>by
   obtain⟨us,a,b,c'⟩:=h (i+1) y (by simpa using hy);exact⟨us,a,by rw[Nat.add_mul,Nat.one_mul]at b;rw[show o+K.sz c+i*K.sz c=o+(i*K.sz c+K.sz c) by omega];exact b,c'⟩)
  refine⟨vs++news,fun j v hv=>?_,by simp[h1,g2,Nat.add_mul];omega,fun i y hy=>?_⟩
  ·by_cases hj:j<vs.length
   ·rw[List.getElem?_append_left hj]at hv;exact h2 j v hv
   ·rw[List.getElem?_append_right (by omega)]at hv;have:=g1 (j-vs.length) v hv;rw[show o+j=o+K.sz c+(j-vs.length) by omega];exact this
  ·cases i with
   |zero=>
    simp at hy;subst hy;rw[Nat.zero_mul,List.drop_zero,List.take_append_of_le_length (by omega),List.take_of_length_le (by omega)];exact h3
   |succ i=>
    have:=g3 i y (by simpa using hy);rw[show(i+1)*K.sz c=vs.length+i*K.sz c by rw[Nat.add_mul,Nat.one_mul,h1];omega,<-List.drop_drop,List.drop_left];exact this
theorem row_one(hD:aX D){c:K.U}{m:List (K.El c)}{news:List Value}(h:RowOf D ρ S w c m news):∀x∈news,x.oneCell'=true:=fun x hx=>by
 obtain⟨k,hk,rfl⟩:=List.getElem_of_mem hx;rw[h.1]at hk;have hsz:0<K.sz c:=by
  rcases Nat.eq_zero_or_pos (K.sz c)with h0|h0
  ·rw[h0]at hk;simp at hk
  ·exact h0
 have hi:k/K.sz c<m.length:=Nat.div_lt_of_lt_mul (by rw[Nat.mul_comm];exact hk);have hr:=h.2 _ _ (List.getElem?_eq_getElem hi);refine nU hr (hD.one _ _) _ ?_;rw[List.mem_iff_getElem?];refine⟨k%K.sz c,?_⟩;rw[List.getElem?_take,if_pos (Nat.mod_lt _ hsz),List.getElem?_drop,Nat.mul_comm,Nat.div_add_mod];simp
theorem Oa{P:Program}(hD:aX D)(hs:aD D ρ S w H){c:K.U}{x:AV K}{m:List (K.El c)}{X:Value}(h:source D H c x=some m)(hx:Rep D ρ S w x X):
 (Builtin.lenOf X).run P w=.ok m.length w/\∃news,RowOf D ρ S w c m news/\∀w':World,w'.heap=w.heap->(Builtin.firstCells (K.sz c) m.length X).run P w'=.ok news.toArray w':=by
 have abp:∀{X:Value},SliceAt D ρ S w c m X->(Builtin.lenOf X).run P w=.ok m.length w/\∃news,RowOf D ρ S w c m news/\∀w':World,w'.heap=w.heap->(Builtin.firstCells (K.sz c) m.length X).run P w'=.ok news.toArray w':=by
  rintro X ⟨a,cap,rfl,h⟩
  refine⟨by simp[Builtin.lenOf],?_⟩;by_cases hne:m=[]
  ·subst hne;refine⟨[],⟨by simp,fun i x h=>by simp at h⟩,fun w' _=>?_⟩;cases a with
   |none=>simp[Builtin.firstCells]
   |some a=>simp[Builtin.firstCells,loadCells,loadCellsFrom]
  ·obtain⟨b,o,rfl,h'⟩:=h hne;obtain⟨news,g1,g2⟩:=gather m o h';refine⟨news,g2,fun w' hw=>?_⟩;have:=xd (P:=P) (dJ.keep (w':=w') g1 (by rw[hw]));rw[g2.1]at this;simpa [Builtin.firstCells]using this
 unfold source at h;split at h
 ·rename_i s;obtain rfl:=fV hx;split at h
  ·rename_i f g hb;simp only[Option.some.injEq]at h;subst h;obtain⟨b1,b2⟩:=hD.byte c f g hb;have hsz:K.sz c=1:=by rw[<-hD.len c (g 0),b1];rfl
   refine⟨by simp[Builtin.lenOf,rT],s.map fun b=>.int .u8 (b.toNat:Int),⟨by simp[hsz],fun i y hy=>?_⟩,fun w' _=>?_⟩
   ·simp only[List.getElem?_map,Option.map_eq_some_iff]at hy;obtain⟨u,hu,rfl⟩:=hy;rw[b1,b2,hsz,Nat.mul_one];have:((s.map fun b=>Value.int .u8 (b.toNat:Int)).drop i).take 1=[.int .u8 (u.toNat:Int)]:=by
     rw[List.take_one];simp[hu]
    rw[this];exact .cons (.int _ _) .nil
   ·have:(ByteArray.mk s.toArray).extract 0 s.length=ByteArray.mk s.toArray:=by rw[NT];simp
    simp[Builtin.firstCells,this]
  ·cases h
 ·exact abp (NZ hD hs h hx)
theorem CM{P:Program}{t xT ty e:TypeId}{d:TypeDesc}{i:TypeInfo}(ht:P.underlying t=some (.slice e))(hx:P.underlying xT=some d)(hd:∀k,d≠.int k)(hi:P.info? e=some i){base:Option Addr}{n cap m:Nat}{X:Value}{news:List Value}
 (hlen:(Builtin.lenOf X).run P w=.ok m w) (hnew:(Builtin.firstCells i.size m X).run P w=.ok news.toArray w) (hroom:n+m<=cap):
 (Builtin.append_ #[t,xT] ty #[.slice base n cap,X]).run P w=((match base with|some a=>storeCells (a.add (n*i.size)) news|none=>pure ():Sem Unit).run P w).andThen fun _ w'=>.ok (.slice base (n+m) cap) w':=by
 have hz:(do pure ((<-underlying xT) matches .int _):Sem Bool).run P w=.ok false w:=by
  simp only[Sem.run_bind,cE hx,Result.andThen_ok];cases d<;>first|rfl|exact absurd rfl (hd _)
 cases base with
 |none=>simp[Builtin.append_,cE ht,sizeOf,typeInfo,hi,hlen,hroom,hnew,cE hx]
 |some a=>simp[Builtin.append_,cE ht,sizeOf,typeInfo,hi,hlen,hroom,hnew,cE hx]
theorem Oc{P:Program}{t xT ty e:TypeId}{d:TypeDesc}{i:TypeInfo}{z:Value}(ht:P.underlying t=some (.slice e))(hx:P.underlying xT=some d)(hd:∀k,d≠.int k)(hi:P.info? e=some i)(hz:i.zero=some z)
 {base:Option Addr} {n cap m:Nat} {X:Value} {olds news:List Value} (hlen:(Builtin.lenOf X).run P w=.ok m w) (hnew:(Builtin.firstCells i.size m X).run P w.drew=.ok news.toArray w.drew)
 (hold:(Builtin.firstCells i.size n (.slice base n cap)).run P w.drew=.ok olds.toArray w.drew) (hroom:cap<n+m) (hsmall:n+m<=1073741824) (hb:i.bytes<=4096):
 (Builtin.append_ #[t,xT] ty #[.slice base n cap,X]).run P w=.ok (.slice (some ⟨w.heap.size,0,none⟩) (n+m) (grownCap w (n+m) cap e))
   (w.drew.alloc (.cells (olds++news++(Builtin.zeroCells z.cells (grownCap w (n+m) cap e-(n+m))).toList).toArray e)):=by
 have hn:¬(n+m<=cap):=by omega
 have h63:¬(9223372036854775807<((n:Int)+(m:Int))):=by omega
 have h48:¬(281474976710656<Builtin.nextslicecap (n+m) cap*i.bytes):=by
  have h1:=nextslicecap_le (need:=n+m) (old:=cap) hroom;have h2:Builtin.nextslicecap (n+m) cap*i.bytes<=(2*1073741824)*4096:=Nat.mul_le_mul (by omega) hb;omega
 simp[Builtin.append_,run_underlying ht,run_underlying hx,sizeOf,typeInfo,zeroValue,hi,hz,hlen,hn,h63,h48,Question.forced,hnew,hold,newRow,grownCap];congr 2;apply Array.ext';simp
structure j4 (P:Program) (w:World) (t xT ty e:TypeId) (i:TypeInfo) (z:Value) (X:Value) (m:Nat) (news:List Value):Prop where
 room:∀{base:Option Addr}{n cap:Nat},n+m<=cap->(Builtin.append_ #[t,xT] ty #[.slice base n cap,X]).run P w=((match base with|some a=>storeCells (a.add (n*i.size)) news|none=>pure ():Sem Unit).run P w).andThen fun _ w'=>.ok (.slice base (n+m) cap) w'
 grow:∀{base:Option Addr}{n cap:Nat}{olds:List Value},(Builtin.firstCells i.size n (.slice base n cap)).run P w.drew=.ok olds.toArray w.drew->cap<n+m->n+m<=1073741824->
  (Builtin.append_ #[t,xT] ty #[.slice base n cap,X]).run P w=.ok (.slice (some ⟨w.heap.size,0,none⟩) (n+m) (grownCap w (n+m) cap e))
    (w.drew.alloc (.cells (olds++news++(Builtin.zeroCells z.cells (grownCap w (n+m) cap e-(n+m))).toList).toArray e))
theorem j4.of{P:Program}{t xT ty e:TypeId}{d:TypeDesc}{i:TypeInfo}{z:Value}(ht:P.underlying t=some (.slice e))(hx:P.underlying xT=some d)(hd:∀k,d≠.int k)(hi:P.info? e=some i)(hz:i.zero=some z)(hb:i.bytes<=4096)
 {m:Nat} {X:Value} {news:List Value} (hlen:(Builtin.lenOf X).run P w=.ok m w) (hnew:∀w':World,w'.heap=w.heap->(Builtin.firstCells i.size m X).run P w'=.ok news.toArray w'):j4 P w t xT ty e i z X m news:=
 ⟨fun hroom=>CM ht hx hd hi hlen (hnew w rfl) hroom,fun hold hroom hsmall=>Oc ht hx hd hi hz hlen (hnew w.drew rfl) hold hroom hsmall hb⟩
theorem j4.zeros{P:Program}{t xT ty e:TypeId}{i:TypeInfo}{z:Value}{kx kk:IntKind}(ht:P.underlying t=some (.slice e))(hx:P.underlying xT=some (.int kk))(hi:P.info? e=some i)(hz:i.zero=some z)(hb:i.bytes<=4096)(hs:0<i.size)
 {m:Nat} (hm:m<=1073741824):j4 P w t xT ty e i z (.int kx (m:Int)) m (Builtin.zeroCells z.cells m).toList:=by
 have hw:IntKind.i64.wrap (m:Int)=m:=by rw[IntKind.wrap_i64];omega
 have hneg:¬((m:Int)<0):=by omega
 have hmb:m*i.bytes<=1073741824*4096:=Nat.mul_le_mul hm hb;have h48i:¬(281474976710656<(m:Int)*(i.bytes:Int)):=by
  rw[<-Int.natCast_mul];omega
 have e0:Builtin.zeroCells z.cells 0= #[]:=by simp[Builtin.zeroCells]
 rcases Nat.eq_zero_or_pos m with h0|h0
 ·subst h0;rw[e0];refine⟨fun{base n cap} hroom=>?_,fun{base n cap olds} hold hroom hsmall=>?_⟩
  ·have hroom':n<=cap:=hroom;cases base with
   |none=>simp[Builtin.append_,run_underlying ht,run_underlying hx,sizeOf,typeInfo,hi,asInt,asIntOf,IntKind.wrap_i64,hroom']
   |some a=>simp[Builtin.append_,run_underlying ht,run_underlying hx,sizeOf,typeInfo,hi,asInt,asIntOf,IntKind.wrap_i64,hroom']
  ·have hn:¬(n<=cap):=by omega
   have h63:¬(9223372036854775807<(n:Int)):=by omega
   have h48:¬(281474976710656<Builtin.nextslicecap n cap*i.bytes):=by
    have h1:=nextslicecap_le (need:=n) (old:=cap) (by omega);have h2:Builtin.nextslicecap n cap*i.bytes<=(2*1073741824)*4096:=Nat.mul_le_mul (by omega) hb;omega
   simp[Builtin.append_,run_underlying ht,run_underlying hx,sizeOf,typeInfo,hi,hz,asInt,asIntOf,IntKind.wrap_i64,hn,h63,h48,Question.forced,hold,zeroValue,newRow,grownCap];congr 2;apply Array.ext';simp
 ·have hns:¬(m*i.size=0):=Nat.mul_ne_zero (by omega) (by omega);refine⟨fun{base n cap} hroom=>?_,fun{base n cap olds} hold hroom hsmall=>?_⟩
  ·cases base with
   |none=>simp[Builtin.append_,run_underlying ht,run_underlying hx,sizeOf,typeInfo,hi,hz,asInt,asIntOf,hw,hneg,h48i,hroom,hns,zeroValue]
   |some a=>simp[Builtin.append_,run_underlying ht,run_underlying hx,sizeOf,typeInfo,hi,hz,asInt,asIntOf,hw,hneg,h48i,hroom,hns,zeroValue]
  ·have hn:¬(n+m<=cap):=by omega
   have h63:¬(9223372036854775807<((n:Int)+(m:Int))):=by omega
   have h48:¬(281474976710656<Builtin.nextslicecap (n+m) cap*i.bytes):=by
    have h1:=nextslicecap_le (need:=n+m) (old:=cap) hroom;have h2:Builtin.nextslicecap (n+m) cap*i.bytes<=(2*1073741824)*4096:=Nat.mul_le_mul (by omega) hb;omega
   simp[Builtin.append_,run_underlying ht,run_underlying hx,sizeOf,typeInfo,hi,hz,asInt,asIntOf,hw,hneg,h48i,hn,h63,h48,hns,Question.forced,hold,zeroValue,newRow,grownCap];congr 2;apply Array.ext';simp
theorem Oe{a b:List Value}{k n:Nat}(h:k+n<=a.length):((a++b).drop k).take n=(a.drop k).take n:=by
 rw[List.drop_append_of_le_length (by omega),List.take_append_of_le_length (by simp;omega)]
theorem abq{a b:List Value}{k n:Nat}:((a++b).drop (a.length+k)).take n=(b.drop k).take n:=by
 rw[<-List.drop_drop,List.drop_left]
theorem abr{c:K.U}{l m:List (K.El c)}{olds news:List Value}(hl:RowOf D ρ S w c l olds)(hm:RowOf D ρ S w c m news):RowOf D ρ S w c (l++m) (olds++news):=by
 refine⟨by simp[hl.1,hm.1,Nat.add_mul],fun i x hx=>?_⟩;by_cases hi:i<l.length
 ·rw[List.getElem?_append_left hi]at hx;have:(i+1)*K.sz c<=l.length*K.sz c:=Nat.mul_le_mul_right _ hi;rw[Nat.add_mul,Nat.one_mul]at this;rw[Oe (by rw[hl.1];exact this)];exact hl.2 i x hx
 ·rw[List.getElem?_append_right (by omega)]at hx;have:i*K.sz c=olds.length+(i-l.length)*K.sz c:=by rw[hl.1,<-Nat.add_mul];congr 1;omega
  rw[this,abq];exact hm.2 _ x hx
theorem abt{c:K.U}{l:List (K.El c)}{a b:List Value}(h:RowOf D ρ S w c l a):∀i x,l[i]?=some x->aI D ρ S w (D.cells c x) (bz (a++b).toArray (i*K.sz c) (K.sz c)):=fun i x hx=>by
 have hi:=(List.getElem?_eq_some_iff.1 hx).1;have:(i+1)*K.sz c<=l.length*K.sz c:=Nat.mul_le_mul_right _ hi;rw[Nat.add_mul,Nat.one_mul]at this;simp only[bz];rw[Oe (by rw[h.1];exact this)];exact h.2 i x hx
theorem Of{P:Program}(hD:aX D)(hs:aD D ρ S w H){t xT ty e:TypeId}{i:TypeInfo}{z:Value}{c:K.U}(hi:P.info? e=some i)(hisz:i.size=K.sz c)(hzs:z.cells.size=K.sz c){base:Option Addr}{cap:Nat}{X:Value}{l m:List (K.El c)}{olds news:List Value}
 (hA:j4 P w t xT ty e i z X m.length news) (hm:RowOf D ρ S w c m news)
 (hl:RowOf D ρ S w c l olds) (hold:(Builtin.firstCells (K.sz c) l.length (.slice base l.length cap)).run P w.drew=.ok olds.toArray w.drew) (hroom:cap<l.length+m.length) (hsmall:l.length+m.length<=1073741824) (hE:eF D c e 0):
 Does D P ρ S H w (do pure (.value (<-Builtin.append_ #[t,xT] ty #[.slice base l.length cap,X]))) (.sl H.length) (H++[.arr c (l++m)]):=by
 have hrun:=hA.grow (by rw[hisz];exact hold) hroom hsmall;have hge:=grownCap_ge w (l.length+m.length) cap e;have hrow:=abr hl hm;refine xj hs (c:=c) (l:=l++m) (T:=e) (fr:=(0,0)) (cap:=grownCap w (l.length+m.length) cap e) (w':=w.drew.alloc (.cells (olds++news++(Builtin.zeroCells z.cells (grownCap w (l.length+m.length) cap e-(l.length+m.length))).toList).toArray e))
  (vs:=(olds++news++(Builtin.zeroCells z.cells (grownCap w (l.length+m.length) cap e-(l.length+m.length))).toList).toArray) rfl rfl rfl rfl (by simpa using hge) hE ?_ (fun k _ hh=>by have:=hh.2;simp at this) (abt hrow) (by
    rw[List.length_append];exact cN (f:=.value) hrun)
 have:(Builtin.zeroCells z.cells (grownCap w (l.length+m.length) cap e-(l.length+m.length))).size=(grownCap w (l.length+m.length) cap e-(l.length+m.length))*K.sz c:=by simp[Builtin.zeroCells,hzs]
 have h2:(l.length+m.length)*K.sz c+(grownCap w (l.length+m.length) cap e-(l.length+m.length))*K.sz c=grownCap w (l.length+m.length) cap e*K.sz c:=by rw[<-Nat.add_mul];congr 1;omega
 have h3:=hrow.1;rw[List.length_append,List.length_append]at h3;simp only[List.size_toArray,List.length_append,Array.length_toList,this];omega
theorem Step.ui{n:Nat}{h:Nat}{ρ':List Value}{S':Nat->Prop}{H':List (Ob K)}{w':World}(a:Step D n ρ S (H.set h .dead) w ρ' S' H' w'):Step D n ρ S H w ρ' S' H' w':=
 ⟨a.os,a.tape,a.output,a.size,fun b hb ho=>a.old b hb fun hk=>ho (lM hk),fun b hb=>(a.own b hb).imp lM id,a.s1,fun b hb=>(a.s2 b hb).imp id (Or.imp lM id),a.pre⟩
theorem Does.ui{P:Program}{s:Sem Next}{v:AV K}{h:Nat}{H':List (Ob K)}(a:Does D P ρ S (H.set h .dead) w s v H'):Does D P ρ S H w s v H':=by
 obtain⟨n,u,w',ρ',h1,h2,h3,h4,h5⟩:=a;exact⟨n,u,w',ρ',h1,h2,h3,h4,Step.ui (by simpa using h5)⟩
theorem Og{P:Program}(hD:aX D)(hs:aD D ρ S w H){t xT ty e:TypeId}{i:TypeInfo}{z:Value}{c:K.U}(hi:P.info? e=some i)(hisz:i.size=K.sz c)(hzs:z.cells.size=K.sz c){X:Value}{m:List (K.El c)}{news:List Value}(hA:j4 P w t xT ty e i z X m.length news)(hrow:RowOf D ρ S w c m news)(hsmall:m.length<=1073741824)
 {H1:List (Ob K)} (hs1:aD D ρ S w H1) (hE:eF D c e 0):
 Does D P ρ S H1 w (do pure (.value (<-Builtin.append_ #[t,xT] ty #[.slice none 0 0,X]))) (.sl H1.length) (H1++[.arr c m]):=by
 by_cases h0:m.length=0
 ·have hm0:m=[]:=List.eq_nil_of_length_eq_zero h0;subst hm0;have hrun:=hA.room (base:=none) (n:=0) (cap:=0) (by simp);refine⟨_,_,w,ρ++[.slice none 0 0],cN (f:=.value) (by simpa using hrun),.inl rfl,hs1.new (Nat.le_refl _) (fun _ _=>rfl) (.inl ⟨rfl,rfl⟩) (fun b hb=>by simp[bj,dj]at hb),?_,Step.new hs1 (Nat.le_refl _) (fun _ _=>rfl) (fun b hb=>by simp[bj,dj]at hb) rfl rfl rfl⟩;exact .sl (by rw[List.getElem?_append_right (by rw[hs1.len];exact Nat.le_refl _)];simp[hs1.len])
 ·have:=Of (P:=P) (ty:=ty) (base:=none) (cap:=0) (l:=[]) (olds:=[]) hD hs1 hi hisz hzs hA hrow ⟨by simp,fun i x h=>by simp at h⟩ (by simp[Builtin.firstCells]) (by simp;omega) (by simpa using hsmall) hE;simpa using this
theorem abu{P:Program}(hD:aX D)(hs:aD D ρ S w H){t xT ty e:TypeId}{d:TypeDesc}{i:TypeInfo}{z:Value}{c:K.U}(ht:P.underlying t=some (.slice e))(hx:P.underlying xT=some d)(hd:∀k,d≠.int k)
 (hi:P.info? e=some i) (hisz:i.size=K.sz c) (hz:i.zero=some z) (hzs:z.cells.size=K.sz c) (hb:i.bytes<=4096) {x:AV K} {X:Value} {m:List (K.El c)} (hm:source D H c x=some m) (hX:Rep D ρ S w x X) (hsmall:m.length<=1073741824)
 {H1:List (Ob K)} (hs1:aD D ρ S w H1) (hE:eF D c e 0):
 Does D P ρ S H1 w (do pure (.value (<-Builtin.append_ #[t,xT] ty #[.slice none 0 0,X]))) (.sl H1.length) (H1++[.arr c m]):=by
 obtain⟨hlen,news,hrow,hnew⟩:=Oa (P:=P) hD hs hm hX;exact Og hD hs hi hisz hzs (.of ht hx hd hi hz hb hlen (by rw[hisz];exact hnew)) hrow hsmall hs1 hE
theorem Oh{P:Program}(hD:aX D)(hs:aD D ρ S w H){t xT ty e:TypeId}{i:TypeInfo}{z:Value}{c:K.U}(hi:P.info? e=some i)(hisz:i.size=K.sz c)(hzs:z.cells.size=K.sz c){X:Value}{m:List (K.El c)}{news:List Value}(hA:j4 P w t xT ty e i z X m.length news)(hrow:RowOf D ρ S w c m news)(hone:∀x∈news,x.oneCell'=true)
 {h:Nat} {l:List (K.El c)} (ho:H[h]?=some (.arr c l)) {Y:Value} (hY:ρ[h]?=some Y) (hsmall:l.length+m.length<=1073741824) (hE:eF D c e 0):
 Does D P ρ S H w (do pure (.value (<-Builtin.append_ #[t,xT] ty #[Y,X]))) (.sl H.length) (H.set h .dead++[.arr c (l++m)]):=by
 have hk:=hs.kill h;rcases nR hs ho hY with⟨rfl,rfl⟩|⟨b,o,cap,vs,T,fr,rfl,hblk,⟨hcap,bZ⟩,hsz,hfr,hall⟩
 ·have:=Og (P:=P) (ty:=ty) hD hs hi hisz hzs hA hrow (by simpa using hsmall) hk hE;simpa using Does.ui this
 ·by_cases hroom:l.length+m.length<=cap
  ·have hlm:(l.length+m.length)*K.sz c<=cap*K.sz c:=Nat.mul_le_mul_right _ hroom;rw[Nat.add_mul]at hlm;have hrl:=hrow.1;obtain⟨w',vs',e1,e2,e3,e4,e5,e6,e7,e8⟩:=jZ (P:=P) (b:=b) (o:=o+l.length*K.sz c) news 0 vs w hblk (by omega) (fun k hk hk'=>hfr k (by omega) (by omega)) hone;rw[Nat.add_zero]at e3;have hno:=uc hs ho rfl hY (b:=b) rfl;have hlt:=hs.lt b ⟨h,_,_,ho,rfl,hY,rfl⟩;have hkeep:∀k,Own D w ρ (H.set h .dead) k->w'.heap[k]?=w.heap[k]?:=fun k hk'=>e5 k (fun e=>by subst e;exact hno hk')
   have hw1:aD D ρ S w' (H.set h .dead):=hk.world (by omega) hkeep (fun k hk'=>e5 k (fun e=>by subst e;exact hlt.2 hk'));have hrun:=hA.room (base:=some ⟨b,o,none⟩) (n:=l.length) (cap:=cap) hroom;simp only[hisz,add_plain,e1,Result.andThen_ok]at hrun;have hmono:∀{a:List (AV K)}{us:List Value},aI D ρ S w a us->aI D (ρ++[.slice (some ⟨b,o,none⟩) (l.length+m.length) cap]) S w' a us:=
    fun h=>h.mono (fun _ h=>h) (fun k hk=>e5 k (fun e=>by subst e;exact hlt.2 hk)) (fun _ _ h=>jh h)
   have hsize:vs'.size=vs.size:=by have:=congrArg List.length e3;rw[iH]at this;simpa using this
   have hob:cV D (ρ++[.slice (some ⟨b,o,none⟩) (l.length+m.length) cap]) S w' (.arr c (l++m)) (.slice (some ⟨b,o,none⟩) (l.length+m.length) cap):=by
    refine .inr ⟨b,o,cap,vs',T,fr,by simp,e2,⟨by simpa using hroom,bZ⟩,by omega,hfr,fun j y hy=>?_⟩;by_cases hj:j<l.length
    ·rw[List.getElem?_append_left hj]at hy;have:(j+1)*K.sz c<=l.length*K.sz c:=Nat.mul_le_mul_right _ hj;rw[Nat.add_mul,Nat.one_mul]at this;rw[nW e3 (.inl (by omega))];exact hmono (hall j y hy)
    ·rw[List.getElem?_append_right (by omega)]at hy;have hjm:=(List.getElem?_eq_some_iff.1 hy).1;have h1:(j-l.length+1)*K.sz c<=m.length*K.sz c:=Nat.mul_le_mul_right _ (by omega);rw[Nat.add_mul,Nat.one_mul]at h1;have h2:j*K.sz c=l.length*K.sz c+(j-l.length)*K.sz c:=by rw[<-Nat.add_mul];congr 1;omega
     have:bz vs' (o+j*K.sz c) (K.sz c)=(news.drop ((j-l.length)*K.sz c)).take (K.sz c):=by
      apply List.ext_getElem?;intro k;simp only[bz,List.getElem?_take,List.getElem?_drop,e3];by_cases hk:k<K.sz c
      ·rw[if_pos hk,if_pos hk,gC _ _ _ _ (by simp;omega),if_pos (by omega)];congr 1;omega
      ·rw[if_neg hk,if_neg hk]
     rw[this];exact hmono (hrow.2 _ y hy)
   refine⟨_,_,w',_,cN (f:=.value) hrun,.inl rfl,hw1.push hob (fun k _ hk'=>by simp[bj,dj]at hk';subst hk';exact⟨by omega,hlt.2,fun hO=>hno (hO.old hkeep)⟩),?_,?_⟩
   ·exact .sl (by rw[List.getElem?_append_right (by rw[hs.len];exact Nat.le_refl _)];simp[hs.len])
   ·refine⟨e6,e7,e8,by omega,fun k hk hno'=>e5 k (fun e=>by subst e;exact hno' ⟨h,_,_,ho,rfl,hY,rfl⟩),fun k hk'=>?_,fun _ h=>h,fun _ h=>.inl h,fun k hk=>by rw[List.getElem?_append_left (by rw[hs.len];exact hk)]⟩;rcases rO (by simpa using hs.len) hk' with hk'|⟨-,hk'⟩
    ·exact .inl (lM (hk'.old hkeep))
    ·simp[bj,dj]at hk';subst hk';exact .inl ⟨h,_,_,ho,rfl,hY,rfl⟩
  ·have hat:∀j y,l[j]?=some y->∃us,us.length=K.sz c/\dJ w b (o+j*K.sz c) us/\aI D ρ S w (D.cells c y) us:=fun j y hy=>⟨_,by rw[<-(hall j y hy).1,hD.len],lP hblk _ _,hall j y hy⟩
   obtain⟨olds,g1,g2⟩:=gather l o hat;have hold:(Builtin.firstCells (K.sz c) l.length (.slice (some ⟨b,o,none⟩) l.length cap)).run P w.drew=.ok olds.toArray w.drew:=by
    have:=xd (P:=P) (dJ.keep (w':=w.drew) g1 rfl);rw[g2.1]at this;simpa [Builtin.firstCells]using this
   have:=Of (P:=P) (ty:=ty) (base:=some ⟨b,o,none⟩) (cap:=cap) (l:=l) (olds:=olds) hD hk hi hisz hzs hA hrow g2 hold (by omega) hsmall hE;simpa using Does.ui this
theorem abv{P:Program}(hD:aX D)(hs:aD D ρ S w H){t xT ty e:TypeId}{d:TypeDesc}{i:TypeInfo}{z:Value}{c:K.U}(ht:P.underlying t=some (.slice e))(hx:P.underlying xT=some d)(hd:∀k,d≠.int k)
 (hi:P.info? e=some i) (hisz:i.size=K.sz c) (hz:i.zero=some z) (hzs:z.cells.size=K.sz c) (hb:i.bytes<=4096) {x:AV K} {X:Value} {m:List (K.El c)} (hm:source D H c x=some m) (hX:Rep D ρ S w x X)
 {h:Nat} {l:List (K.El c)} (ho:H[h]?=some (.arr c l)) {Y:Value} (hY:ρ[h]?=some Y) (hsmall:l.length+m.length<=1073741824) (hE:eF D c e 0):
 Does D P ρ S H w (do pure (.value (<-Builtin.append_ #[t,xT] ty #[Y,X]))) (.sl H.length) (H.set h .dead++[.arr c (l++m)]):=by
 obtain⟨hlen,news,hrow,hnew⟩:=Oa (P:=P) hD hs hm hX;exact Oh hD hs hi hisz hzs (.of ht hx hd hi hz hb hlen (by rw[hisz];exact hnew)) hrow (row_one hD hrow) ho hY hsmall hE
end Go.V
namespace Go.V
open Go
variable {K :bL}{D:aT K}{ρ:List Value}{S:Nat->Prop}{w:World}{H:List (Ob K)}
theorem abw{P:Program}{t e ty:TypeId}{a:Option Addr}{cp:Nat}(ht:P.underlying t=some (.slice e)):(Builtin.clear_ #[t] ty #[.slice a 0 cp]).run P w=.ok (.tuple #[]) w:=by
 cases a<;>simp[Builtin.clear_,run_underlying ht]
theorem abx{P:Program}{t e ty:TypeId}{a:Addr}{n cp:Nat}{z:Value}{w':World}(ht:P.underlying t=some (.slice e))(hz:(zeroValue e).run P w=.ok z w)(hn:0<n)
 (hst:(storeCells a (Builtin.zeroCells z.cells n).toList).run P w=.ok () w'):(Builtin.clear_ #[t] ty #[.slice (some a) n cp]).run P w=.ok (.tuple #[]) w':=by
 obtain⟨m,rfl⟩:∃m,n=m+1:=⟨n-1,by omega⟩;simp[Builtin.clear_,run_underlying ht,hz,hst]
theorem aby{P:Program}(hD:aX D)(hs:aD D ρ S w H){t e ty:TypeId}{c:K.U}{z:AV K}{y:K.El c}{l:List (K.El c)}{h lo hi:Nat}{A:Value}
 (ht:elemOf? P t=some e) (hsz:bY P e=some (K.sz c)) (hz:zeroOf P e=some z) (h1:z.aZ.all AV.one=true) (hdec:D.dec c z.aZ=some (y,true))
 (ho:H[h]?=some (.arr c l)) (hA:Rep D ρ S w (.vw h (K.sz c) lo hi) A) (hl:hi<=l.length):
 Does D P ρ S H w (do pure (.value (<-Builtin.clear_ #[t] ty #[A]))) .any (H.set h (.arr c (l.take lo++List.replicate (hi-lo) y++l.drop hi))):=by
 obtain⟨i,hi',hisz⟩:=j0 hsz;obtain⟨zv,hzv,hov⟩:=rV hz hi';have uh:(zeroValue e).run P w=.ok zv w:=by simp[zeroValue,typeInfo,hi',hzv]
 have hc0:=fc (D:=D) (ρ:=ρ) (S:=S) (w:=w) (lO zv z hov) (uf h1);have hrz:aI D ρ S w (D.cells c y) zv.cells.toList:=hD.dec c _ _ hdec ρ S w _ hc0;have hzs:zv.cells.size=K.sz c:=by have:=hrz.1;rw[hD.len]at this;simpa using this.symm
 cases hA with
 | @vw _ _ _ _ n cap cap' a a' hp q1 q2 ha=>
   rcases Nat.eq_zero_or_pos (hi-lo)with h0|h0
   ·have e1:lo=hi:=by omega
    subst e1;have e2:l.take lo++List.replicate (lo-lo) y++l.drop lo=l:=by simp
    have e3:H.set h (.arr c l)=H:=by
     apply List.ext_getElem?;intro k;rw[List.getElem?_set];split
     ·rename_i hk;subst hk;split
      ·exact ho.symm
      ·rename_i hk;exact absurd (List.getElem?_eq_some_iff.1 ho).1 hk
     ·rfl
    rw[e2,e3,Nat.sub_self];exact⟨.value (.tuple #[]),.tuple #[],w,ρ,cN (f:=.value) (abw (dZ ht)),.inl rfl,hs,.any _,Step.refl⟩
   ·rcases ha with ha|⟨b,o,rfl,rfl,hc'⟩
    ·omega
    ·rcases nR hs ho hp with⟨e,-⟩|⟨b',o',cp,vs,T,fr,e,hblk,⟨hcap,bZ⟩,hsz',hfr,hall⟩
     ·cases e
     ·simp only[Value.slice.injEq,Option.some.injEq,Addr.mk.injEq]at e;obtain⟨⟨rfl,rfl,-⟩,rfl,rfl⟩:=e;have hmul:hi*K.sz c<=cap*K.sz c:=Nat.mul_le_mul_right _ (by omega);have hlen:(Builtin.zeroCells zv.cells (hi-lo)).toList.length=(hi-lo)*K.sz c:=by simp[Builtin.zeroCells,hzs]
      have hsub:lo*K.sz c+(hi-lo)*K.sz c=hi*K.sz c:=by rw[<-Nat.add_mul];congr 1;omega
      have hone:∀x∈(Builtin.zeroCells zv.cells (hi-lo)).toList,x.oneCell'=true:=fun x hx=>by
       simp only[Builtin.zeroCells,Array.toList_map,List.mem_map,Array.toList_range,List.mem_range]at hx;obtain⟨k,hk,rfl⟩:=hx;have hpos:0<zv.cells.size:=by
        rcases Nat.eq_zero_or_pos zv.cells.size with g|g
        ·rw[g]at hk;omega
        ·exact g
       have hlt:k%zv.cells.size<zv.cells.size:=Nat.mod_lt _ hpos;rw[getElem!_pos zv.cells _ hlt];exact nU hc0 h1 _ (by rw[Array.mem_toList_iff];exact Array.getElem_mem hlt)
      obtain⟨w',vs',e1,e2,e3,e4,e5,e6,e7,e8⟩:=jZ (P:=P) (b:=b) (o:=o+lo*K.sz c) (Builtin.zeroCells zv.cells (hi-lo)).toList 0 vs w hblk (by omega) (fun k hk hk'=>hfr k (by omega) (by omega)) hone;rw[Nat.add_zero]at e3;have hnS:¬S b:=(hs.lt b ⟨h,_,_,ho,rfl,hp,rfl⟩).2;refine⟨.value (.tuple #[]),.tuple #[],w',ρ,cN (f:=.value) (abx (dZ ht) uh h0 e1),.inl rfl,hs.turn ho rfl hp rfl e4 e5 (fun _ h=>h) ?_,.any _,Step.turn hs ho rfl hp rfl e4 e5 (fun _ h=>h) e6 e7 e8⟩;have hsize:vs'.size=vs.size:=by have:=congrArg List.length e3;rw[iH]at this;simpa using this
      have hll:(l.take lo++List.replicate (hi-lo) y++l.drop hi).length=l.length:=by simp;omega
      refine .inr ⟨b,o,cap,vs',T,fr,by rw[hll],e2,⟨by rw[hll];exact hcap,bZ⟩,by omega,hfr,fun k x hx=>?_⟩;have hmono:∀{l:List (AV K)}{us:List Value},aI D ρ S w l us->aI D ρ S w' l us:=fun h=>h.mono (fun _ h=>h) (fun k hk=>e5 k (fun e=>by subst e;exact hnS hk)) (fun _ _ h=>h)
      have hkl:k<l.length:=by have:=(List.getElem?_eq_some_iff.1 hx).1;rwa [hll]at this
      rcases Nat.lt_or_ge k lo with g|g
      ·rw[List.append_assoc,List.getElem?_append_left (by simp;omega),List.getElem?_take,if_pos g]at hx;have:(k+1)*K.sz c<=lo*K.sz c:=Nat.mul_le_mul_right _ g;rw[Nat.add_mul,Nat.one_mul]at this;rw[nW e3 (.inl (by omega))];exact hmono (hall k x hx)
      ·rcases Nat.lt_or_ge k hi with g'|g'
       ·have hxy:x=y:=by
         rw[List.append_assoc,List.getElem?_append_right (by simp;omega),List.getElem?_append_left (by simp;omega),List.getElem?_replicate]at hx;split at hx
         ·simpa using hx.symm
         ·cases hx
        subst hxy;have hk1:(k-lo+1)*K.sz c<=(hi-lo)*K.sz c:=Nat.mul_le_mul_right _ (by omega);rw[Nat.add_mul,Nat.one_mul]at hk1;have hk2:k*K.sz c=lo*K.sz c+(k-lo)*K.sz c:=by rw[<-Nat.add_mul];congr 1;omega
        have:bz vs' (o+k*K.sz c) (K.sz c)=bz (madeCells zv.cells ((hi-lo)*K.sz c)) ((k-lo)*K.sz c) (K.sz c):=by
         apply List.ext_getElem?;intro q;simp only[bz,List.getElem?_take,List.getElem?_drop];by_cases hq:q<K.sz c
         ·rw[if_pos hq,if_pos hq,e3,gC _ _ _ _ (by rw[hlen];simp;omega),if_pos ⟨by omega,by rw[hlen];omega⟩];rw[show o+k*K.sz c+q-(o+lo*K.sz c)=(k-lo)*K.sz c+q by omega];simp only[Builtin.zeroCells,madeCells,hzs]
         ·rw[if_neg hq,if_neg hq]
        rw[this,CE hzs (by omega)];exact hmono hrz
       ·rw[List.getElem?_append_right (by simp;omega)]at hx;have hx':l[k]?=some x:=by
         rw[List.getElem?_drop]at hx;rw[<-hx];congr 1;simp;omega
        have:hi*K.sz c<=k*K.sz c:=Nat.mul_le_mul_right _ g';rw[nW e3 (.inr (by rw[hlen];omega))];exact hmono (hall k x hx')
end Go.V
namespace Go.V
open Go
variable {K :bL}{D:aT K}{ρ:List Value}{S:Nat->Prop}{w:World}{H:List (Ob K)}
theorem abz{P:Program}{t sT e ty:TypeId}{a:Option Addr}{n cp:Nat}{i:TypeInfo}(ht:P.underlying t=some (.slice e))(hi:P.info? e=some i):
 (Builtin.copy_ #[t,sT] ty #[.slice a n cp,.string ⟨([]:List UInt8).toArray⟩]).run P w=.ok (goInt 0) w:=by
 cases a<;>simp[Builtin.copy_,run_underlying ht,Builtin.lenOf,Builtin.firstCells,sizeOf,typeInfo,hi,storeCells,ByteArray.size]
theorem abA{P:Program}{t sT e ty:TypeId}{a:Addr}{n cp:Nat}{i:TypeInfo}{s:List UInt8}{w':World}(ht:P.underlying t=some (.slice e))(hi:P.info? e=some i)(hn:s.length<=n)
 (hst:(storeCells a (s.map fun b=>Value.int .u8 (b.toNat:Int))).run P w=.ok () w'):
 (Builtin.copy_ #[t,sT] ty #[.slice (some a) n cp,.string ⟨s.toArray⟩]).run P w=.ok (goInt s.length) w':=by
 have hmin:Nat.min s.length n=s.length:=Nat.min_eq_left hn;have htk:List.take s.length (s.map fun b=>Value.int .u8 (b.toNat:Int))=s.map fun b=>Value.int .u8 (b.toNat:Int):=List.take_of_length_le (by simp)
 simp[Builtin.copy_,run_underlying ht,Builtin.lenOf,Builtin.firstCells,sizeOf,typeInfo,hi,rT,hmin];rw[<-List.map_take,List.take_of_length_le (Nat.le_refl _),hst];rfl
theorem abB{P:Program}(hD:aX D)(hs:aD D ρ S w H){t sT e ty:TypeId}{c:K.U}{f:K.El c->UInt8}{g:UInt8->K.El c}{l:List (K.El c)}{h lo hi:Nat}{A:Value}{s:List UInt8}
 (ht:elemOf? P t=some e) (hsz:bY P e=some (K.sz c)) (hb:D.byte c=some (f,g)) (ho:H[h]?=some (.arr c l)) (hA:Rep D ρ S w (.vw h (K.sz c) lo hi) A) (hl:hi<=l.length) (hsl:s.length<=hi-lo):
 Does D P ρ S H w (do pure (.value (<-Builtin.copy_ #[t,sT] ty #[A,.string ⟨s.toArray⟩]))) (.int .i64 (s.length:Int)) (H.set h (.arr c (l.take lo++s.map g++l.drop (lo+s.length)))):=by
 obtain⟨i,hi',hisz⟩:=j0 hsz;obtain⟨b1,b2⟩:=hD.byte c f g hb;have hs1:K.sz c=1:=by rw[<-hD.len c (g 0),b1];rfl
 cases hA with
 | @vw _ _ _ _ n cap cap' a a' hp q1 q2 ha=>
   rcases Nat.eq_zero_or_pos s.length with h0|h0
   ·have:s=[]:=List.eq_nil_of_length_eq_zero h0;subst this;have e2:l.take lo++([]:List UInt8).map g++l.drop (lo+([]:List UInt8).length)=l:=by simp
    have e3:H.set h (.arr c l)=H:=by
     apply List.ext_getElem?;intro k;rw[List.getElem?_set];split
     ·rename_i hk;subst hk;split
      ·exact ho.symm
      ·rename_i hk;exact absurd (List.getElem?_eq_some_iff.1 ho).1 hk
     ·rfl
    rw[e2,e3];exact⟨.value (goInt 0),goInt 0,w,ρ,cN (f:=.value) (abz (dZ ht) hi'),.inl rfl,hs,.int _ _,Step.refl⟩
   ·rcases ha with ha|⟨b,o,rfl,rfl,hc'⟩
    ·omega
    ·rcases nR hs ho hp with⟨e,-⟩|⟨b',o',cp,vs,T,fr,e,hblk,⟨hcap,bZ⟩,hsz',hfr,hall⟩
     ·cases e
     ·simp only[Value.slice.injEq,Option.some.injEq,Addr.mk.injEq]at e;obtain⟨⟨rfl,rfl,-⟩,rfl,rfl⟩:=e;have hlen:(s.map fun b=>Value.int .u8 (b.toNat:Int)).length=s.length:=by simp
      have hone:∀x∈(s.map fun b=>Value.int .u8 (b.toNat:Int)),x.oneCell'=true:=fun x hx=>by
       obtain⟨u,-,rfl⟩:=List.mem_map.1 hx;rfl
      rw[hs1]at hsz' hfr;simp only[Nat.mul_one]at hsz' hfr;obtain⟨w',vs',e1,e2,e3,e4,e5,e6,e7,e8⟩:=jZ (P:=P) (b:=b) (o:=o+lo*K.sz c) (s.map fun b=>Value.int .u8 (b.toNat:Int)) 0 vs w hblk (by rw[hlen,hs1];omega) (fun k hk hk'=>hfr k (by rw[hs1]at hk;omega) (by rw[hs1,hlen]at hk';omega)) hone;rw[Nat.add_zero]at e3;have hnS:¬S b:=(hs.lt b ⟨h,_,_,ho,rfl,hp,rfl⟩).2;refine⟨.value (goInt s.length),goInt s.length,w',ρ,cN (f:=.value) (abA (dZ ht) hi' hsl e1),.inl rfl,hs.turn ho rfl hp rfl e4 e5 (fun _ h=>h) ?_,.int _ _,Step.turn hs ho rfl hp rfl e4 e5 (fun _ h=>h) e6 e7 e8⟩;have hsize:vs'.size=vs.size:=by have:=congrArg List.length e3;rw[iH]at this;simpa using this
      have hll:(l.take lo++s.map g++l.drop (lo+s.length)).length=l.length:=by simp;omega
      refine .inr ⟨b,o,cap,vs',T,fr,by rw[hll],e2,⟨by rw[hll];exact hcap,bZ⟩,by rw[hs1];omega,by rw[hs1];simpa using hfr,fun k x hx=>?_⟩;have hmono:∀{l:List (AV K)}{us:List Value},aI D ρ S w l us->aI D ρ S w' l us:=fun h=>h.mono (fun _ h=>h) (fun k hk=>e5 k (fun e=>by subst e;exact hnS hk)) (fun _ _ h=>h)
      have hkl:k<l.length:=by have:=(List.getElem?_eq_some_iff.1 hx).1;rwa [hll]at this
      rw[hs1,Nat.mul_one]at e3;rw[hs1,Nat.mul_one];have hall':∀(i:Nat)(x:K.El c),l[i]?=some x->aI D ρ S w (D.cells c x) (bz vs (o+i) 1):=fun i x hx=>by have:=hall i x hx;rwa [hs1,Nat.mul_one]at this
      rcases Nat.lt_or_ge k lo with g1|g1
      ·rw[List.append_assoc,List.getElem?_append_left (by simp;omega),List.getElem?_take,if_pos g1]at hx;rw[nW e3 (.inl (by omega))];exact hmono (hall' k x hx)
      ·rcases Nat.lt_or_ge k (lo+s.length)with g2|g2
       ·rw[List.append_assoc,List.getElem?_append_right (by simp;omega),List.getElem?_append_left (by simp;omega),List.getElem?_map,Option.map_eq_some_iff]at hx;obtain⟨u,hu,rfl⟩:=hx;have:bz vs' (o+k) 1=[.int .u8 (u.toNat:Int)]:=by
         have hk3:vs'.toList[o+k]?=some (.int .u8 (u.toNat:Int)):=by
          rw[e3,gC _ _ _ _ (by rw[hlen];simp;omega),if_pos ⟨by omega,by rw[hlen];omega⟩];rw[List.getElem?_map,show o+k-(o+lo)=k-(l.take lo).length by simp;omega,hu];rfl
         simp only[bz,List.take_one,List.head?_drop,hk3,Option.toList_some]
        rw[this,b1,b2];exact .cons (.int _ _) .nil
       ·rw[List.getElem?_append_right (by simp;omega)]at hx;have hx':l[k]?=some x:=by
         rw[List.getElem?_drop]at hx;rw[<-hx];congr 1;simp;omega
        rw[nW e3 (.inr (by rw[hlen];omega))];exact hmono (hall' k x hx')
end Go.V
namespace Go.V
open Go
variable {K :bL}{D:aT K}{ρ:List Value}{S:Nat->Prop}{w:World}{H:List (Ob K)}
theorem abC{P:Program}(hD:aX D)(hs:aD D ρ S w H){src dst e:TypeId}{c:K.U}{f:K.El c->UInt8}{g:UInt8->K.El c}{s:List UInt8}(h1:P.underlying src=some .string)(h2:P.underlying dst=some (.slice e))
 (h3:P.underlying e=some (.int .u8)) (hb:D.byte c=some (f,g)) (hE:eF D c e 0):
 Does D P ρ S H w (do pure (.value (<-convert src dst (.string ⟨s.toArray⟩)))) (.sl H.length) (H++[.arr c (s.map g)]):=by
 obtain⟨b1,b2⟩:=hD.byte c f g hb;have hsz:K.sz c=1:=by rw[<-hD.len c (g 0),b1];rfl
 have hge:=grownCap_ge w s.length 0 e
 let vs:Array Value:=(s.map fun b=>Value.int .u8 (b.toNat:Int)).toArray++Array.replicate (grownCap w s.length 0 e-s.length) (.int .u8 0)
 have hvs:vs.size=grownCap w s.length 0 e:=by simp[vs];omega
 let w':World:={w with heap:=w.heap.push (.cells vs e (vs.size,vs.size+1)),drawn:=w.drawn+1}
 have hrun:(convert src dst (.string ⟨s.toArray⟩)).run P w=.ok (.slice (some ⟨w.heap.size,0,none⟩) s.length (grownCap w s.length 0 e)) w':=by
  simp[convert,cE h1,cE h2,cE h3,Conv.stringToBytes,rT,Question.forced,grownCap];have e1:(newRow e vs).run P w.drew=.ok ⟨w.heap.size,0,none⟩ (w.drew.alloc (.cells vs e)):=by simp[newRow]
  have e0:(w.drew.alloc (.cells vs e)).heap=w.heap.push (.cells vs e):=rfl;have e2:(markStringish ⟨w.heap.size,0,none⟩).run P (w.drew.alloc (.cells vs e))=.ok () w':=by
   have hsh:(w.drew.alloc (.cells vs e)).shape? w.heap.size=some (e,vs.size):=by simp[World.shape?,e0]
   simp only[markStringish,Sem.run_bind];have:(shape w.heap.size).run P (w.drew.alloc (.cells vs e))=.ok (some (e,vs.size)) (w.drew.alloc (.cells vs e)):=by simp[shape,Sem.run,hsh]
   simp only[this,Result.andThen_ok,run_freeze];congr 1;simp only[World.freeze,w',e0];rw[if_neg (by omega)];congr 1;apply Array.ext
   ·simp
   ·intro k h1 h2;simp only[Array.getElem_modify];by_cases hk:w.heap.size=k
    ·subst hk;simp
    ·rw[if_neg hk];have hk':k<w.heap.size:=by simp at h2;omega
     simp[Array.getElem_push,hk']
  have e1':=e1;simp only[vs,grownCap]at e1';rw[e1'];simp only[Result.andThen_ok];have e2':=e2;simp only[vs,grownCap]at e2';rw[e2'];rfl
 refine xj hs (c:=c) (l:=s.map g) (vs:=vs) (T:=e) (fr:=(vs.size,vs.size+1)) (cap:=grownCap w s.length 0 e) (w':=w') rfl rfl rfl rfl (by simpa using hge) hE (by rw[hsz,hvs,Nat.mul_one];exact Nat.le_refl _) (fun k hk hh=>by have:=hh.1;rw[hvs]at this;rw[hsz,Nat.mul_one]at hk;simp at this;omega)
  (fun j x hx=>?_) (by rw[List.length_map];exact cN (f:=.value) hrun)
 simp only[List.getElem?_map,Option.map_eq_some_iff]at hx;obtain⟨u,hu,rfl⟩:=hx;have hj:=(List.getElem?_eq_some_iff.1 hu).1;rw[b1,b2,hsz,Nat.mul_one];have:bz vs j 1=[.int .u8 (u.toNat:Int)]:=by
  simp only[bz,vs,Array.toList_append];rw[List.drop_append_of_le_length (by simp;omega),List.take_append_of_le_length (by simp;omega),List.take_one];simp[hu]
 rw[this];exact .cons (.int _ _) .nil
theorem abD{P:Program}(hs:aD D ρ S w H){src e T':TypeId}{c:K.U}{l:List (K.El c)}{h:Nat}{Y:Value}(h1:P.underlying src=some (.slice e))(h3:P.underlying e=some (.int .u8))(hE:D.fN c=some T')
 (ho:H[h]?=some (.arr c l)) (hY:ρ[h]?=some Y) (hl:1<=l.length):Does D P ρ S H w (do pure (.value (<-convert src src Y))) (.sl h) H:=by
 rcases lN hs ho hY with⟨-,rfl⟩|⟨b,o,cap,vs,T,fr,rfl,hblk,⟨hcap,bZ⟩,hsz',hfr,hall⟩
 ·simp at hl
 ·obtain⟨-,rfl⟩:=bZ.1 T' hE;have hsh:w.shape? b=some (T,vs.size):=by simp[World.shape?,hblk]
  have hrun:(convert src src (.slice (some ⟨b,0,none⟩) l.length cap)).run P w=.ok (.slice (some ⟨b,0,none⟩) l.length cap) (w.freeze ⟨b,vs.size,none⟩ 1):=by
   have hsr:(shape b).run P w=.ok (some (T,vs.size)) w:=by simp[shape,Sem.run,hsh]
   have e2:(markStringish ⟨b,0,none⟩).run P w=.ok () (w.freeze ⟨b,vs.size,none⟩ 1):=by
    simp only[markStringish,Sem.run_bind,hsr,Result.andThen_ok,run_freeze]
   simp[convert,cE h1,cE h3,e2]
  have hheap:(w.freeze ⟨b,vs.size,none⟩ 1).heap=w.heap.modify b fun
   |.cells c elem (lo,hi)=>.cells c elem (if lo==hi then(vs.size,vs.size+1)else(min lo vs.size,max hi (vs.size+1)))
   |o=>o:=by
   unfold World.freeze;rw[if_neg (by omega)];rfl
  have hbl:b<w.heap.size:=(Array.getElem?_eq_some_iff.1 hblk).1;have e4:(w.freeze ⟨b,vs.size,none⟩ 1).heap.size=w.heap.size:=by rw[hheap];simp
  have e5:∀k,k≠b->(w.freeze ⟨b,vs.size,none⟩ 1).heap[k]?=w.heap[k]?:=fun k hk=>by
   rw[hheap,Array.getElem?_modify,if_neg (fun e=>hk e.symm)]
  have e2:(w.freeze ⟨b,vs.size,none⟩ 1).heap[b]?=some (.cells vs T (if fr.1==fr.2 then(vs.size,vs.size+1)else(min fr.1 vs.size,max fr.2 (vs.size+1)))):=by
   rw[hheap,Array.getElem?_modify,if_pos rfl,hblk];rfl
  have hos:(w.freeze ⟨b,vs.size,none⟩ 1).os=w.os/\(w.freeze ⟨b,vs.size,none⟩ 1).tape=w.tape/\(w.freeze ⟨b,vs.size,none⟩ 1).output=w.output:=by
   unfold World.freeze;rw[if_neg (by omega)];exact⟨rfl,rfl,rfl⟩
  have hnS:¬S b:=(hs.lt b ⟨h,_,_,ho,rfl,hY,rfl⟩).2;have e3:H.set h (.arr c l)=H:=by
   apply List.ext_getElem?;intro k;rw[List.getElem?_set];split
   ·rename_i hk;subst hk;split
    ·exact ho.symm
    ·rename_i hk;exact absurd (List.getElem?_eq_some_iff.1 ho).1 hk
   ·rfl
  have hT:=hs.turn (o':=.arr c l) (w':=w.freeze ⟨b,vs.size,none⟩ 1) ho rfl hY rfl e4 e5 (fun _ h=>h) (by
   refine .inr ⟨b,0,cap,vs,T,_,rfl,e2,⟨hcap,bZ.1,?_⟩,hsz',?_,fun k x hx=>(hall k x hx).mono (fun _ h=>h) (fun k hk=>e5 k (fun e=>by subst e;exact hnS hk)) (fun _ _ h=>h)⟩
   ·by_cases hq:fr.1=fr.2
    ·rw[if_pos (by simpa using hq)];exact Nat.le_succ _
    ·rw[if_neg (by simpa using hq)];simp only[];omega
   ·intro k hk0 hk;by_cases hq:fr.1=fr.2
    ·rw[if_pos (by simpa using hq)];simp only[];omega
    ·rw[if_neg (by simpa using hq)];have h2:=bZ.2;have h3:=hfr fr.1 (Nat.zero_le _);simp only[];omega)
  have hS:=Step.turn (n0:=H.length) (o':=.arr c l) (w':=w.freeze ⟨b,vs.size,none⟩ 1) hs ho rfl hY rfl e4 e5 (fun _ h=>h) hos.1 hos.2.1 hos.2.2;rw[e3]at hT hS;exact⟨_,_,_,ρ,cN (f:=.value) hrun,.inl rfl,hT,.sl hY,hS⟩
theorem abG{zs:Array Value}{n k i:Nat}(hk:zs.size=k)(h0:0<k)(hi:i<n):((Builtin.zeroCells zs n).toList.drop (i*k)).take k=zs.toList:=by
 have hle:(i+1)*k<=n*k:=Nat.mul_le_mul_right _ hi;rw[Nat.add_mul,Nat.one_mul]at hle;apply List.ext_getElem?;intro j;simp only[List.getElem?_take,List.getElem?_drop,Builtin.zeroCells,Array.toList_map,Array.toList_range,List.getElem?_map,hk];by_cases hj:j<k
 ·rw[if_pos hj,List.getElem?_range (by omega)];have:(i*k+j)%k=j:=by rw[Nat.mul_comm,Nat.mul_add_mod,Nat.mod_eq_of_lt hj]
  simp only[Option.map_some,this];have hj2:j<zs.size:=by omega
  simp[hj2]
 ·rw[if_neg hj];exact(List.getElem?_eq_none (by simp;omega)).symm
theorem abH{zs:Array Value}{n:Nat}:(Builtin.zeroCells zs n).toList.length=n*zs.size:=by simp[Builtin.zeroCells]
theorem abI{zs:Array Value}{n:Nat}{x:Value}(h0:0<zs.size)(h:x∈(Builtin.zeroCells zs n).toList):x∈zs.toList:=by
 simp only[Builtin.zeroCells,Array.toList_map,List.mem_map]at h;obtain⟨i,-,rfl⟩:=h;have:=Nat.mod_lt i h0;rw[getElem!_pos zs (i%zs.size) this];exact Array.getElem_mem_toList this
theorem abJ{cx:Cx K}(hD:aX cx.D)(hs:aD cx.D ρ S w H){ev:Operand->AV K}{ρe:Operand->Value}(hev:∀x,Rep cx.D ρ S w (ev x) (ρe x)){s x:Operand}{sT xT ty:TypeId}{v:AV K}{H':List (Ob K)}{c:Bool}{t:List Nat}
 (h:tW cx H sT (ev s) (ev x)=some (v,H',c,t)) (hc:c=true) (hx:(rA cx.P xT).isSome=true):Does cx.D cx.P ρ S H w (do pure (.value (<-Builtin.append_ #[sT,xT] ty #[ρe s,ρe x])):Sem Next) v H':=by
 unfold tW at h;split at h
 ·rename_i e k n he ft;split at h
  ·rename_i cc z hty hz;split at h
   ·rename_i hcond;obtain⟨hsz,hroom,hpos,hk,hone⟩:=hcond;obtain⟨i,hi,hisz⟩:=j0 hsz;have hb:=ug hroom hi;obtain⟨zv,hzv,hov⟩:=rV hz hi;split at h
    ·rename_i y b hh hdec es;split at h
     ·rename_i l hl;simp only[Option.some.injEq,Prod.mk.injEq]at h;obtain⟨rfl,rfl,rfl,rfl⟩:=h;simp only[Bool.and_eq_true,decide_eq_true_eq]at hc;obtain⟨hb1,h0,hsm⟩:=hc;subst hb1;have hss:=hev s;rw[es]at hss;obtain⟨hr,-⟩:=fa hss;have hxx:=hev x;rw[ft]at hxx;rw[cg hxx];obtain⟨m,rfl⟩:=Int.eq_ofNat_of_zero_le h0;rw[Int.toNat_natCast]at hsm⊢;have hkind:∃kk,cx.P.underlying xT=some (.int kk):=by
       unfold rA at hx;split at hx
       ·rename_i kk hk;exact⟨kk,hk⟩
       ·cases hx
      obtain⟨kk,hkk⟩:=hkind;have hcells:=fc (D:=cx.D) (ρ:=ρ) (S:=S) (w:=w) (lO zv z hov) hk;have hrz:aI cx.D ρ S w (cx.D.cells cc y) zv.cells.toList:=hD.dec cc _ _ hdec ρ S w _ hcells;have hvs:zv.cells.size=K.sz cc:=by have:=hrz.1;rw[hD.len]at this;simpa using this.symm
      have hA:j4 cx.P w sT xT ty e i zv (.int k (m:Int)) (List.replicate m y).length (Builtin.zeroCells zv.cells m).toList:=by
       rw[List.length_replicate];exact j4.zeros (dZ he) hkk hi hzv hb (by omega) (by omega)
      have hrow:RowOf cx.D ρ S w cc (List.replicate m y) (Builtin.zeroCells zv.cells m).toList:=⟨by rw[abH,hvs,List.length_replicate],fun j x hx=>by
       have hj:j<m:=by have:=(List.getElem?_eq_some_iff.1 hx).1;simpa using this
       have hxy:x=y:=by
        rw[List.getElem?_replicate]at hx;split at hx
        ·simpa using hx.symm
        ·rename_i hn;exact absurd hj hn
       rw[abG hvs hpos hj,hxy];exact hrz⟩
      have abK:∀u∈(Builtin.zeroCells zv.cells m).toList,u.oneCell'=true:=fun u hu=>nU hcells hone u (abI (by omega) hu)
      simp only[elems]at hl;split at hl
      ·rename_i c' l' hob;cases hd':K.ee c' cc with
       |isFalse hn=>simp[hd']at hl
       |isTrue he'=>
        subst he';simp[hd']at hl;subst hl;exact Oh hD hs hi hisz (by rw[hvs]) hA hrow abK hob hr (by simpa using hsm) (jY hty)
      ·cases hl
     ·cases h
    ·cases h
   ·cases h
  ·cases h
 ·cases h
theorem CN{P:Program}(hs:aD D ρ S w H){T:TypeId}{h m b:Nat}{l l':List (List Int×Int)}(ho:H[h]?=some (.bf T m l))(hp:ρ[h]?=some (.map (some b)))(hM:MapAt w b m l)
 (hl:(∀p∈l',cb m p.1=true)/\l'.Pairwise (fun p q=>p.1≠q.1)) {s:Sem Next} {n:Next} {u:Value} {v:AV K} (hrun:s.run P w=.ok n (eA w b l')) (hn:(n=.value u)\/(n=.skip/\u=undef)) (hv:Rep D ρ S (eA w b l') v u):
 Does D P ρ S H w s v (H.set h (.bf T m l')):=
 ⟨n,u,eA w b l',ρ,hrun,hn,hs.turn ho rfl hp rfl NI (fun k hk=>NH hk) (fun _ h=>h) ⟨b,rfl,aaS hM.1,hl⟩,hv,Step.turn hs ho rfl hp rfl NI (fun k hk=>NH hk) (fun _ h=>h) rfl rfl rfl⟩
theorem Oi{cx:Cx K}(hD:aX cx.D)(hs:aD cx.D ρ S w H){ev:Operand->AV K}{ρe:Operand->Value}(hev:∀x,Rep cx.D ρ S w (ev x) (ρe x)){o:Oper}{v:AV K}{H':List (Ob K)}{c:Bool}{t:List Nat}
 (h:jN cx ev H o.op=some (v,H',c,t)) (hc:c=true):Does cx.D cx.P ρ S H w (execOp ρe o) v H':=by
 unfold jN at h;unfold execOp;split at h
 all_goals first|(cases h;done)|(rename_i hop;rw[hop];dsimp only)
 ·
  rename_i T x;split at h
  ·rename_i hk;obtain⟨ρ1,t1,t2,t3,-,t5,-⟩:=nQ cx.deep (cx.ei T) _ H ρ _ hs (fc (hev x) hk);generalize thaw cx.deep H (cx.ei T) (ev x).aZ=p at h t1 t2 t3 t5;obtain⟨cs,H1⟩:=p;dsimp only at h;split at h
   ·cases h
   rename_i fW;simp only[Option.some.injEq,Prod.mk.injEq]at h;obtain⟨rfl,rfl,rfl,rfl⟩:=h;exact(CC t1 t2 (fun h=>absurd h fW) (T:=T) (cN (f:=.value) (by simp[Instr.box,newVar,newRow]))).behind t3 t5
  ·cases h
 ·
  rename_i T;split at h
  ·rename_i z hz;split at h
   ·rename_i hk;obtain⟨i,hi⟩:∃i,cx.P.info? T=some i:=by
     unfold zeroOf at hz;cases hh:cx.P.info? T with
     |none=>simp[hh]at hz
     |some i=>exact⟨i,rfl⟩
    obtain⟨zv,hzv,hov⟩:=rV hz hi;obtain⟨ρ1,t1,t2,t3,-,t5,-⟩:=nQ cx.deep (cx.ei T) _ H ρ _ hs (fc (lO zv z hov) hk);generalize thaw cx.deep H (cx.ei T) z.aZ=p at h t1 t2 t3 t5;obtain⟨cs,H1⟩:=p;dsimp only at h;split at h
    ·cases h
    rename_i fW;simp only[Option.some.injEq,Prod.mk.injEq]at h;obtain⟨rfl,rfl,rfl,rfl⟩:=h;exact(CC t1 (abb t2) (aba (by simpa using fW)) (T:=T) (cN (f:=.value) (by simp[Instr.alloc,zeroValue,typeInfo,hi,hzv,newVar,newRow]))).behind t3 t5
   ·cases h
  ·split at h
   ·rename_i hf;simp only[Option.some.injEq,Prod.mk.injEq]at h;obtain⟨rfl,rfl,rfl,rfl⟩:=h;obtain⟨i,hi,hz⟩:∃i,cx.P.info? T=some i/\i.zero=some .nilFunc:=by
     unfold Ns at hf;split at hf
     ·rename_i i hi;split at hf
      ·rename_i hz;exact⟨i,hi,hz⟩
      ·cases hf
     ·cases hf
    have hr:aI cx.D ρ S w [.any] [Value.nilFunc]:=⟨rfl,fun j v x h1 h2=>by
     cases j with
     |zero=>simp at h1;subst h1;exact .any _
     |succ j=>simp at h1⟩
    exact CC hs hr (fun h=>absurd h (by simp[fm])) (T:=T) (cN (f:=.value) (by simp[Instr.alloc,zeroValue,typeInfo,hi,hz,newVar,newRow,Value.cells]))
   ·cases h
 ·
  rename_i T parts;split at h
  ·rename_i ps z hps hz;split at h
   ·rename_i hk;simp only[Option.map_eq_some_iff,Prod.mk.injEq]at h;obtain⟨cs,hcs,rfl,rfl,rfl,rfl⟩:=h;obtain⟨u,hu,hr⟩:=abm hev hps hz hk hcs;exact⟨_,u,w,ρ,cN (f:=.value) hu,.inl rfl,hs,hr,Step.refl⟩
   ·cases h
  ·cases h
 ·
  rename_i T p x;split at h
  ·rename_i n hn;split at h
   ·rename_i hcond;obtain⟨hl,h1⟩:=hcond;have hp:=hev p;split at h
    ·rename_i hh off he;rw[he]at hp;split at h
     ·rename_i cs hob;split at h
      ·rename_i hle;have hcx:=fc (hev x) (uf h1);have h1':=nU hcx h1;obtain⟨ρ1,t1,t2,t3,t4,t5,t6⟩:=nQ cx.deep (cx.ei T) _ H ρ _ hs hcx;have Oj:=t6 _ _ hob;generalize thaw cx.deep H (cx.ei T) (ev x).aZ=pp at h t1 t2 t3 t5 Oj;obtain⟨xs,H1⟩:=pp;dsimp only at h;split at h
       ·cases h
       rename_i fW;simp only[Option.some.injEq,Prod.mk.injEq]at h;obtain⟨rfl,rfl,rfl,rfl⟩:=h;exact(abe t1 hn (by rw[<-hl];exact t2.1.trans hcx.1.symm) h1' Oj hle t2 (hp.mono (fun _ h=>h) (fun _ _=>rfl) t4) (fun h=>by simp only[Bool.and_eq_true,Bool.not_eq_true',not_and,Bool.not_eq_false]at fW;exact fW h)).behind t3 t5
      ·cases h
     ·cases h
    ·rename_i hh st i off he;rw[he]at hp;split at h
     ·rename_i cc l hob;split at h
      ·rename_i hcc;obtain⟨rfl,hcl,hle⟩:=hcc;split at h
       ·rename_i y b hdec;simp only[Option.some.injEq,Prod.mk.injEq]at h;obtain⟨rfl,rfl,rfl,rfl⟩:=h;subst hc;exact abg hD hs hn hl h1 hob hle hcl hdec (hev x) hp
       ·cases h
      ·cases h
     ·cases h
    ·cases h
   ·cases h
  ·cases h
 ·
  rename_i T len cap;split at h
  ·cases h
  ·rename_i e he;split at h
   ·rename_i cc z kl n kc m hty hz hl hcp;split at h
    ·rename_i hcond;obtain⟨hsz,hroom,-,hk⟩:=hcond;split at h
     ·rename_i y b hdec;simp only[Option.some.injEq,Prod.mk.injEq]at h;obtain⟨rfl,rfl,rfl,rfl⟩:=h;have h1:=hev len;rw[hl]at h1;have h2:=hev cap;rw[hcp]at h2;rw[cg h1,cg h2];simp only[Bool.and_eq_true,decide_eq_true_eq]at hc;obtain⟨hb,hc⟩:=hc;subst hb;exact abk hD hs he hsz hroom hz hk hdec hc.1 hc.2.1 hc.2.2 (jY hty)
     ·cases h
    ·cases h
   ·cases h
 ·
  rename_i T len parts;split at h
  ·cases h
  ·rename_i e he;split at h
   ·rename_i cc l hty hl;split at h
    ·rename_i hcond;obtain⟨hsz,hz,hlen,h1,h2,hall⟩:=hcond;split at h
     ·rename_i y b hdec;simp only[Option.some.injEq,Prod.mk.injEq]at h;obtain⟨rfl,rfl,rfl,rfl⟩:=h;subst hc;exact abo hD hs hev he hsz hz hl hlen h1 h2 hall hdec (jY hty)
     ·cases h
    ·cases h
   ·cases h
 ·
  rename_i src dst x;split at h
  ·rename_i e s hu he hx;split at h
   ·rename_i cc h3 hty;split at h
    ·rename_i f g hb;split at h
     ·simp only[Option.some.injEq,Prod.mk.injEq]at h;obtain⟨rfl,rfl,rfl,rfl⟩:=h;have hxx:=hev x;rw[hx]at hxx;rw[fV hxx];exact abC hD hs hu (dZ he) h3 hb (jY hty)
     ·cases h
    ·cases h
   ·cases h
  ·rename_i e0 e h' hu he hx;split at h
   ·rename_i cc l h3 ho;split at h
    ·rename_i hcond;obtain⟨hsd,hel⟩:=hcond;simp only[Option.some.injEq,Prod.mk.injEq]at h;obtain⟨rfl,rfl,rfl,rfl⟩:=h;obtain⟨T',hT'⟩:=Option.isSome_iff_exists.1 hel;have hxx:=hev x;rw[hx]at hxx;subst hsd;generalize ρe x=X at hxx⊢;cases hxx with
     |sl hp hk=>exact abD hs (dZ he) h3 hT' ho hp (of_decide_eq_true hc)
    ·cases h
   ·cases h
  ·cases h
 ·
  split at h
  ·rename_i T m hT hm;simp only[Option.some.injEq,Prod.mk.injEq]at h;obtain⟨rfl,rfl,rfl,rfl⟩:=h;have hold:∀k,k<w.heap.size->(w.alloc (.map #[] 0)).heap[k]?=w.heap[k]?:=fun k hk=>jj hk
   refine⟨_,_,_,ρ++[.map (some w.heap.size)],cN (f:=.value) (by simp[Instr.makeMap,newObj];rfl),.inl rfl,hs.new (w':=w.alloc (.map #[] 0)) (by simp) hold ⟨_,rfl,nV _ _,by simp,by simp⟩ ?_,.sl (by rw[List.getElem?_append_right (by rw[hs.len];exact Nat.le_refl _)];simp[hs.len]),Step.new hs (w':=w.alloc (.map #[] 0)) (by simp) hold ?_ rfl rfl rfl⟩
   ·intro b hb;simp[bj,dj]at hb;subst hb;exact⟨Nat.le_refl _,by show _<(w.heap.push _).size;simp⟩
   ·intro b hb;simp[bj,dj]at hb;subst hb;exact Nat.le_refl _
  ·simp only[Option.some.injEq,Prod.mk.injEq]at h;obtain⟨rfl,rfl,rfl,rfl⟩:=h;exact abj hs
 ·
  rename_i T m x y;split at h
  ·rename_i k hT hh ks z hm hmv hks hz;split at h
   ·rename_i t' k' l ho;split at h
    ·rename_i hk;obtain⟨rfl,rfl⟩:=hk;simp only[Option.some.injEq,Prod.mk.injEq]at h;obtain⟨rfl,rfl,rfl,rfl⟩:=h;have h1:=hev m;rw[hmv]at h1;obtain⟨hp,-⟩:=fa h1;obtain⟨b,hb,hM⟩:=w9 hs ho hp;have h2:=hev y;rw[hz]at h2;rw[hb,Cc hks (hev x),cg h2];rw[hb]at hp;exact CN hs ho hp hM (ND _ _ (NC hM.2 hc)) (by have:=aaQ (z:=z) hT hM hc;simp[this];rfl) (.inr ⟨rfl,rfl⟩) (.any _)
    ·cases h
   ·cases h
  ·cases h
 ·
  rename_i T m x;split at h
  ·rename_i k hT hh ks hm hmv hks;split at h
   ·rename_i t' k' l ho;split at h
    ·rename_i hk;obtain⟨rfl,rfl⟩:=hk;simp only[Option.some.injEq,Prod.mk.injEq]at h;obtain⟨rfl,rfl,rfl,rfl⟩:=h;have h1:=hev m;rw[hmv]at h1;obtain⟨hp,-⟩:=fa h1;obtain⟨b,hb,hM⟩:=w9 hs ho hp;rw[hb,Cc hks (hev x)];rw[hb]at hp;have ht:aI cx.D ρ S w [.int .i64 (bU l ks),.int .i64 (bJ l ks:Int)] [Value.int .i64 (bU l ks),.int .i64 (bJ l ks:Int)]:=.cons (.int _ _) (.cons (.int _ _) .nil);have ht':aI cx.D ρ S (eA w b (dr l ks)) [.int .i64 (bU l ks),.int .i64 (bJ l ks:Int)] [Value.int .i64 (bU l ks),.int .i64 (bJ l ks:Int)]:=.cons (.int _ _) (.cons (.int _ _) .nil);exact CN hs ho hp hM (NC hM.2 hc) (cN (f:=.value) (aaP hT hM hc)) (.inl rfl) (.bc ht'.1 ht'.2)
    ·cases h
   ·cases h
  ·cases h
 ·
  rename_i T m x y;split at h
  ·rename_i k hT hh i z hm hmv hi hz;split at h
   ·rename_i t' k' l ho;split at h
    ·rename_i hk;obtain⟨rfl,rfl⟩:=hk;simp only[Option.some.injEq,Prod.mk.injEq]at h;obtain⟨rfl,rfl,rfl,rfl⟩:=h;have h1:=hev m;rw[hmv]at h1;obtain⟨hp,-⟩:=fa h1;obtain⟨b,hb,hM⟩:=w9 hs ho hp;have h2:=hev y;rw[hz]at h2;have h3:=hev x;rw[hi]at h3;rw[hb,cg h2,cg h3];rw[hb]at hp;exact CN hs ho hp hM (ND _ _ hM.2) (by have:=aaR (P:=cx.P) (t:=t') (z:=z) hM hc;simp[this]) (.inr ⟨rfl,rfl⟩) (.any _)
    ·cases h
   ·cases h
  ·cases h
 ·
  rename_i args argTypes;split at h
  ·rename_i s x sT xT hargs hat;have ea:args= #[s,x]:=by rw[<-Array.toArray_toList (xs:=args),hargs]
   have et:argTypes= #[sT,xT]:=by rw[<-Array.toArray_toList (xs:=argTypes),hat]
   subst ea;subst et;have hres:(do let d<-resolve ρe {callee:=.builtin .append,args:= #[s,x],argTypes:= #[sT,xT]} o.type;invoke d.target d.args:Sem Next)=
    (do pure (.value (<-Builtin.append_ #[sT,xT] o.type #[ρe s,ρe x])):Sem Next):=by simp[resolve,invoke,builtin]
   rw[hres];split at h
   ·cases h
   rename_i hx2;split at h
   ·rename_i hx1;exact abJ hD hs hev h hc hx1
   ·rename_i hx1;simp only[Bool.not_eq_true,Option.isSome_eq_false_iff,Option.isNone_iff_eq_none]at hx1 hx2;obtain⟨d,hd⟩:=Option.ne_none_iff_exists'.1 hx2;have hdk:∀k,d≠.int k:=fun k e=>by subst e;simp[rA,hd]at hx1
    unfold wO at h;split at h
    ·cases h
    ·rename_i e he;split at h
     ·cases h
     ·rename_i cc hty;split at h
      ·rename_i hcond;obtain⟨hsz,hroom,hz⟩:=hcond;obtain⟨i,hi,hisz⟩:=j0 hsz;obtain⟨z,hzv,hzs⟩:=xk hz hi;have hb:=ug hroom hi;split at h
       ·cases h
       ·rename_i m hm;have hss:=hev s;split at h
        ·rename_i es;simp only[Option.some.injEq,Prod.mk.injEq]at h;obtain⟨rfl,rfl,rfl,rfl⟩:=h;rw[es]at hss;have e0:ρe s=.slice none 0 0:=by generalize ρe s=Y at hss;cases hss;rfl
         rw[e0];exact abu hD hs (dZ he) hd hdk hi hisz hzv (by rw[hzs,hisz]) hb hm (hev x) (by simpa using hc) hs (jY hty)
        ·rename_i hh es;rw[es]at hss;obtain⟨hr,-⟩:=fa hss;have key:∀l,elems H cc (.sl hh)=some l->l.length+m.length<=1073741824->
          Does cx.D cx.P ρ S H w (do pure (.value (<-Builtin.append_ #[sT,xT] o.type #[ρe s,ρe x])):Sem Next) (.sl H.length) (H.set hh .dead++[.arr cc (l++m)]):=fun l hl hsm=>by
          simp only[elems]at hl;split at hl
          ·rename_i c' l' hob;cases hd':K.ee c' cc with
           |isFalse hn=>simp[hd']at hl
           |isTrue he'=>
            subst he';simp[hd']at hl;subst hl;exact abv hD hs (dZ he) hd hdk hi hisz hzv (by rw[hzs,hisz]) hb hm (hev x) hob hr hsm (jY hty)
          ·cases hl
         split at h
         ·split at h
          ·cases h
          ·split at h
           ·rename_i l hl;simp only[Option.some.injEq,Prod.mk.injEq]at h;obtain⟨rfl,rfl,rfl,rfl⟩:=h;exact key l hl (by simpa using hc)
           ·cases h
         ·split at h
          ·rename_i l hl;simp only[Option.some.injEq,Prod.mk.injEq]at h;obtain⟨rfl,rfl,rfl,rfl⟩:=h;exact key l hl (by simpa using hc)
          ·cases h
        ·cases h
      ·cases h
  ·cases h
 ·
  rename_i args argTypes;split at h
  ·rename_i x T hargs hat;have ea:args= #[x]:=by rw[<-Array.toArray_toList (xs:=args),hargs]
   have et:argTypes= #[T]:=by rw[<-Array.toArray_toList (xs:=argTypes),hat]
   subst ea;subst et;have hres:(do let d<-resolve ρe {callee:=.builtin .clear,args:= #[x],argTypes:= #[T]} o.type;invoke d.target d.args:Sem Next)=
    (do pure (.value (<-Builtin.clear_ #[T] o.type #[ρe x])):Sem Next):=by simp[resolve,invoke,builtin]
   rw[hres];split at h
   ·rename_i h' st lo hi e hx he;split at h
    ·rename_i cc l z ho hz;split at h
     ·rename_i hg;obtain⟨rfl,g2,g3⟩:=hg;split at h
      ·rename_i y b hdec;simp only[Option.some.injEq,Prod.mk.injEq]at h;obtain⟨rfl,rfl,hcb,-⟩:=h;rw[<-hcb]at hc;simp only[Bool.and_eq_true,decide_eq_true_eq]at hc;obtain⟨rfl,hl⟩:=hc;exact aby hD hs he g2 hz g3 hdec ho (hx ▸ hev x) hl
      ·cases h
     ·cases h
    ·cases h
   ·cases h
  ·cases h
 ·
  rename_i args argTypes;split at h
  ·rename_i x y T T2 hargs hat;have ea:args= #[x,y]:=by rw[<-Array.toArray_toList (xs:=args),hargs]
   have et:argTypes= #[T,T2]:=by rw[<-Array.toArray_toList (xs:=argTypes),hat]
   subst ea;subst et;have hres:(do let d<-resolve ρe {callee:=.builtin .copy,args:= #[x,y],argTypes:= #[T,T2]} o.type;invoke d.target d.args:Sem Next)=
    (do pure (.value (<-Builtin.copy_ #[T,T2] o.type #[ρe x,ρe y])):Sem Next):=by simp[resolve,invoke,builtin]
   rw[hres];split at h
   ·rename_i h' st lo hi s e hx hy he;split at h
    ·rename_i cc l ho;split at h
     ·rename_i ff g hb;split at h
      ·rename_i hg;obtain⟨rfl,g2⟩:=hg;simp only[Option.some.injEq,Prod.mk.injEq]at h;obtain⟨rfl,rfl,hcb,-⟩:=h;rw[<-hcb]at hc;simp only[Bool.and_eq_true,decide_eq_true_eq]at hc;have hys:=hev y;rw[hy]at hys;have ey:ρe y=.string ⟨s.toArray⟩:=by generalize ρe y=Y at hys;cases hys;rfl
       rw[ey];exact abB hD hs he g2 hb ho (hx ▸ hev x) hc.1 hc.2
      ·cases h
     ·cases h
    ·cases h
   ·cases h
  ·cases h
theorem abL{D:aT K}{P:Program}(hs:aD D ρ S w H){t e:TypeId}{c:K.U}{l:List (K.El c)}{h:Nat}{Y:Value}{k:IntKind}{n:Int}(ht:elemOf? P t=some e)(hsz:bY P e=some (K.sz c))
 (ho:H[h]?=some (.arr c l)) (hY:ρ[h]?=some Y) (hb:bV 0 n l.length=true):
 Does D P ρ S H w (do pure (.value (<-Instr.sliceAt t Y none (some (.int k n)) none))) (.sl H.length) (H.set h .dead++[.arr c (l.take n.toNat)]):=by
 have hk:=hs.kill h;obtain⟨-,h2,h3⟩:=lQ hb;rcases lN hs ho hY with⟨rfl,rfl⟩|⟨b,o,cap,vs,T,fr,rfl,hblk,⟨hcap,bZ⟩,hsz',hfr,hall⟩
 ·have hn:n=0:=by simp at h3;omega
  subst hn;have hrun:(Instr.sliceAt t (.slice none 0 0) none (some (.int k 0)) none).run P w=.ok (.slice none 0 0) w:=by
   have:=iG (P:=P) (w:=w) (D:=D) (ρ:=ρ) (S:=S) (isS:=true) (len:=0) (cap:=0) (lo:=none) (hi:=some (.int k 0)) (l:=0) (h:=0) rfl rfl .none (.some (.int k 0)) (by omega) (by omega) (by omega) (Nat.le_refl _);simp[Instr.sliceAt,Instr.slice,cE (dZ ht),eK hsz,this]
  have:=Cb hk c false;simp only[ib,cond_false]at this;refine Does.ui (h:=h) ⟨_,_,w,ρ++[.slice none 0 0],cN (f:=.value) hrun,.inl rfl,by simpa using this.1,?_,by simpa using this.2⟩;exact .sl (by rw[List.getElem?_append_right (by rw[hs.len];exact Nat.le_refl _)];simp[hs.len])
 ·have hrun:(Instr.sliceAt t (.slice (some ⟨b,o,none⟩) l.length cap) none (some (.int k n)) none).run P w=.ok (.slice (some ⟨b,o,none⟩) n.toNat cap) w:=by
   have:=iG (P:=P) (w:=w) (D:=D) (ρ:=ρ) (S:=S) (isS:=true) (len:=l.length) (cap:=cap) (lo:=none) (hi:=some (.int k n)) (l:=0) (h:=n) rfl rfl .none (.some (.int k n)) (by omega) h2 h3 hcap;simp[Instr.sliceAt,Instr.slice,cE (dZ ht),eK hsz,this]
  have hno:=uc hs ho rfl hY (b:=b) rfl;have hlt:=hs.lt b ⟨h,_,_,ho,rfl,hY,rfl⟩;have hlen:(l.take n.toNat).length=n.toNat:=by rw[List.length_take];omega
  have hob:cV D (ρ++[.slice (some ⟨b,o,none⟩) n.toNat cap]) S w (.arr c (l.take n.toNat)) (.slice (some ⟨b,o,none⟩) n.toNat cap):=by
   refine .inr ⟨b,o,cap,vs,T,fr,by rw[hlen],hblk,⟨by rw[hlen];omega,bZ⟩,hsz',hfr,fun i x hx=>?_⟩;have hx':l[i]?=some x:=by
    rw[List.getElem?_take]at hx;split at hx
    ·exact hx
    ·cases hx
   exact(hall i x hx').mono (fun _ h=>h) (fun _ _=>rfl) (fun _ _ h=>jh h)
  refine⟨_,_,w,_,cN (f:=.value) hrun,.inl rfl,hk.push hob (fun k' _ hk'=>by simp[bj,dj]at hk';subst hk';exact⟨hlt.1,hlt.2,hno⟩),?_,?_⟩
  ·exact .sl (by rw[List.getElem?_append_right (by rw[hs.len];exact Nat.le_refl _)];simp[hs.len])
  ·refine⟨rfl,rfl,rfl,Nat.le_refl _,fun _ _ _=>rfl,fun k' hk'=>?_,fun _ h=>h,fun _ h=>.inl h,fun k' hk'=>by rw[List.getElem?_append_left (by rw[hs.len];exact hk')]⟩;rcases rO (by simpa using hs.len) hk' with hk'|⟨-,hk'⟩
   ·exact .inl (lM hk')
   ·simp[bj,dj]at hk';subst hk';exact .inl ⟨h,_,_,ho,rfl,hY,rfl⟩
theorem nX{D:aT K}{P:Program}(hs:aD D ρ S w H){h:Nat}{o o':Ob K}{Y u:Value}{s:Sem Next}(ho:H[h]?=some o)(hl:o.live=true)(hY:ρ[h]?=some Y)(hrun:s.run P w=.ok (.value u) w)
 (hu:∃a n c,u=.slice a n c) (hob:cV D (ρ++[u]) S w o' u) (hf:∀k,bj D w o' u k->bj D w o Y k):Does D P ρ S H w s (.sl H.length) (H.set h .dead++[o']):=by
 obtain⟨a,n,c,rfl⟩:=hu;have hk:=hs.kill h;refine⟨_,_,w,ρ++[.slice a n c],hrun,.inl rfl,hk.push hob (fun k _ hk'=>⟨(hs.lt k ⟨h,o,Y,ho,hl,hY,hf k hk'⟩).1,(hs.lt k ⟨h,o,Y,ho,hl,hY,hf k hk'⟩).2,uc hs ho hl hY (hf k hk')⟩),?_,?_⟩
 ·exact .sl (by rw[List.getElem?_append_right (by rw[hs.len];exact Nat.le_refl _)];simp[hs.len])
 ·refine⟨rfl,rfl,rfl,Nat.le_refl _,fun _ _ _=>rfl,fun k hk'=>?_,fun _ h=>h,fun _ h=>.inl h,fun k' hk'=>by rw[List.getElem?_append_left (by rw[hs.len];exact hk')]⟩;rcases rO (by simpa using hs.len) hk' with hk'|⟨-,hk'⟩
  ·exact .inl (lM hk')
  ·exact .inl ⟨h,o,Y,ho,hl,hY,hf k hk'⟩
theorem Tree.take{D:aT K}{c:K.U}{l:List (K.El c)}{b o n cp m:Nat}(h:Tree D w c l (.slice (some ⟨b,o,none⟩) n cp))(hm:m<=l.length):Tree D w c (l.take m) (.slice (some ⟨b,o,none⟩) m cp)/\∀k,bS D w c (l.take m) (.slice (some ⟨b,o,none⟩) m cp) k->bS D w c l (.slice (some ⟨b,o,none⟩) n cp) k:=by
 have hget:∀{i:Nat}{x:K.El c},(l.take m)[i]?=some x->l[i]?=some x:=fun{i x} hi=>by
  simp only[List.getElem?_take]at hi;split at hi
  ·exact hi
  ·simp at hi
 refine⟨?_,fun k hk=>?_⟩
 ·cases h with
  |mk hb hcap hsz hfr hlen dR gA hself hdis=>
   have hml:(l.take m).length=m:=by simp;omega
   have:=Tree.mk (l:=l.take m) hb ⟨by rw[hml];omega,hcap.2⟩ hsz hfr (fun i x hx=>hlen i x (hget hx)) (fun i x hx=>dR i x (hget hx)) (fun i x hx=>gA i x (hget hx)) (fun i x hx=>hself i x (hget hx))
    (fun i x hx j c' l' y hj hy i2 x2 hx2=>hdis i x (hget hx) j c' l' y hj hy i2 x2 (hget hx2))
   rwa [hml]at this
 ·cases hk with
  |here=>exact .here
  |kid hx hj hy hk=>exact .kid (hget hx) hj hy hk
theorem Tree.drop{D:aT K}{c:K.U}{l:List (K.El c)}{b o n cp m:Nat}(h:Tree D w c l (.slice (some ⟨b,o,none⟩) n cp))(hm:m<=l.length)(hE:D.fN c=none){o':Nat}(ho':(cp=m/\o'=o)\/o'=o+m*K.sz c):
 Tree D w c (l.drop m) (.slice (some ⟨b,o',none⟩) (l.length-m) (cp-m))/\∀k,bS D w c (l.drop m) (.slice (some ⟨b,o',none⟩) (l.length-m) (cp-m)) k->bS D w c l (.slice (some ⟨b,o,none⟩) n cp) k:=by
 have hget:∀{i:Nat}{x:K.El c},(l.drop m)[i]?=some x->l[m+i]?=some x:=fun{i x} hi=>by simpa using hi
 have hml:(l.drop m).length=l.length-m:=by simp
 cases h with
 | @mk _ _ _ _ _ vs T fr hb hcap hsz hfr hlen dR gA hself hdis=>
   have hpos:∀{i:Nat}{x:K.El c},(l.drop m)[i]?=some x->o'+i*K.sz c=o+(m+i)*K.sz c:=fun{i x} hi=>by
    have hi':=(List.getElem?_eq_some_iff.1 hi).1;rcases ho' with⟨h,-⟩|h
    ·rw[hml]at hi';have:=hcap.1;omega
    ·rw[h,Nat.add_mul];omega
   have hmc:m*K.sz c+(cp-m)*K.sz c=cp*K.sz c:=by rw[<-Nat.add_mul];congr 1;have:=hcap.1;omega
   have hlo:o<=o':=by rcases ho' with⟨-,h⟩|h<;>omega
   have hhi:o'+(cp-m)*K.sz c<=o+cp*K.sz c:=by
    rcases ho' with⟨h,h'⟩|h
    ·rw[h,Nat.sub_self,Nat.zero_mul];omega
    ·omega
   refine⟨?_,fun k hk=>?_⟩
   ·have:=Tree.mk (D:=D) (l:=l.drop m) (o:=o') (cap:=cp-m) hb ⟨by rw[hml];have:=hcap.1;omega,(fun t ht=>by rw[hE]at ht;cases ht),hcap.2.2⟩ (by omega) (fun k h1 h2=>hfr k (by omega) (by omega))
     (fun i x hx=>by rw[hpos hx];exact hlen _ x (hget hx)) (fun i x hx=>by rw[hpos hx];exact dR _ x (hget hx)) (fun i x hx=>by rw[hpos hx];exact gA _ x (hget hx)) (fun i x hx=>by rw[hpos hx];exact hself _ x (hget hx))
     (fun i x hx j c' l' y hj hy i2 x2 hx2 j2 c2 l2 y2 hj2 hy2 k h1 h2=>by
       rw[hpos hx]at hy;rw[hpos hx2]at hy2;obtain⟨e1,e2⟩:=hdis _ x (hget hx) j c' l' y hj hy _ x2 (hget hx2) j2 c2 l2 y2 hj2 hy2 k h1 h2;exact⟨by omega,e2⟩)
    rwa [hml]at this
   ·cases hk with
    |here=>exact .here
    |kid hx hj hy hk=>rw[hpos hx]at hy;exact .kid (hget hx) hj hy hk
theorem Ol{D:aT K}{P:Program}(hs:aD D ρ S w H){t e:TypeId}{c:K.U}{l:List (K.El c)}{h:Nat}{Y:Value}{k:IntKind}{n:Int}(ht:elemOf? P t=some e)(hsz:bY P e=some (K.sz c))(ho:H[h]?=some (.arr c l)\/H[h]?=some (.tree c l))
 (hY:ρ[h]?=some Y) (hsl:∃a n c,Y=.slice a n c) (tl:Bool) (hb:cond tl (bV n l.length l.length) (bV 0 n l.length)=true):
 (l=[]/\Y=.slice none 0 0/\(Instr.sliceAt t Y (cond tl (some (.int k n)) none) (cond tl none (some (.int k n))) none).run P w=.ok (.slice none 0 0) w)\/∃b o cp,Y=.slice (some ⟨b,o,none⟩) l.length cp/\l.length<=cp/\n.toNat<=l.length/\
   (Instr.sliceAt t Y (cond tl (some (.int k n)) none) (cond tl none (some (.int k n))) none).run P w=.ok (cond tl (.slice (if cp=n.toNat then some ⟨b,o,none⟩else some ⟨b,o+n.toNat*K.sz c,none⟩) (l.length-n.toNat) (cp-n.toNat)) (.slice (some ⟨b,o,none⟩) n.toNat cp)) w:=by
 obtain⟨a,m,cp,rfl⟩:=hsl;rcases NV hs ho hY with⟨rfl,rfl,rfl,rfl⟩|⟨b,o,rfl,rfl,hcap⟩
 ·refine .inl ⟨rfl,rfl,?_⟩;cases tl with
  |true=>
   obtain⟨h1,h2,h3⟩:=lQ hb;have hn:n=0:=by simp at h2;omega
   subst hn;have:=iG (P:=P) (w:=w) (D:=D) (ρ:=ρ) (S:=S) (isS:=true) (len:=0) (cap:=0) (lo:=some (.int k 0)) (hi:=none) (l:=0) (h:=0) rfl rfl (.some (.int k 0)) .none (by omega) (by omega) (by omega) (Nat.le_refl _);simp[Instr.sliceAt,Instr.slice,cE (dZ ht),eK hsz,this]
  |false=>
   obtain⟨h1,h2,h3⟩:=lQ hb;have hn:n=0:=by simp at h3;omega
   subst hn;have:=iG (P:=P) (w:=w) (D:=D) (ρ:=ρ) (S:=S) (isS:=true) (len:=0) (cap:=0) (lo:=none) (hi:=some (.int k 0)) (l:=0) (h:=0) rfl rfl .none (.some (.int k 0)) (by omega) (by omega) (by omega) (Nat.le_refl _);simp[Instr.sliceAt,Instr.slice,cE (dZ ht),eK hsz,this]
 ·cases tl with
  |true=>
   obtain⟨h1,h2,h3⟩:=lQ hb;refine .inr ⟨b,o,cp,rfl,hcap,by omega,?_⟩;have:=iG (P:=P) (w:=w) (D:=D) (ρ:=ρ) (S:=S) (isS:=true) (len:=l.length) (cap:=cp) (lo:=some (.int k n)) (hi:=none) (l:=n) (h:=l.length) rfl rfl (.some (.int k n)) .none h1 h2 h3 hcap;simp[Instr.sliceAt,Instr.slice,cE (dZ ht),eK hsz,this]
  |false=>
   obtain⟨h1,h2,h3⟩:=lQ hb;refine .inr ⟨b,o,cp,rfl,hcap,by omega,?_⟩;have:=iG (P:=P) (w:=w) (D:=D) (ρ:=ρ) (S:=S) (isS:=true) (len:=l.length) (cap:=cp) (lo:=none) (hi:=some (.int k n)) (l:=0) (h:=n) rfl rfl .none (.some (.int k n)) (by omega) h2 h3 hcap;simp[Instr.sliceAt,Instr.slice,cE (dZ ht),eK hsz,this]
theorem Om{D:aT K}{P:Program}(hs:aD D ρ S w H){t e:TypeId}{c:K.U}{l:List (K.El c)}{h:Nat}{Y:Value}{k:IntKind}{n:Int}(ht:elemOf? P t=some e)(hsz:bY P e=some (K.sz c))(ho:H[h]?=some (.tree c l))
 (hY:ρ[h]?=some Y) (tl:Bool) (hE:tl=true->D.fN c=none) (hb:cond tl (bV n l.length l.length) (bV 0 n l.length)=true):
 Does D P ρ S H w (do pure (.value (<-Instr.sliceAt t Y (cond tl (some (.int k n)) none) (cond tl none (some (.int k n))) none))) (.sl H.length) (H.set h .dead++[.tree c (cond tl (l.drop n.toNat) (l.take n.toNat))]):=by
 have hT:Tree D w c l Y:=hs.ob _ _ _ ho hY;obtain⟨a,cp0,e0⟩:=wZ hT;rcases Ol (P:=P) (k:=k) hs ht hsz (.inr ho) hY ⟨_,_,_,e0⟩ tl hb with⟨rfl,rfl,hrun⟩|⟨b,o,cp,rfl,hcap,hn,hrun⟩
 ·refine nX hs ho rfl hY (cN (f:=.value) hrun) ⟨_,_,_,rfl⟩ ?_ fun k hk=>?_
  ·cases tl<;>(simp only[cond_true,cond_false,List.drop_nil,List.take_nil];exact Tree.nil)
  ·cases tl<;>(simp only[cond_true,cond_false,List.drop_nil,List.take_nil]at hk;exact hk)
 ·cases tl with
  |true=>
   simp only[cond_true]at hrun⊢;by_cases hc:cp=n.toNat
   ·rw[if_pos hc]at hrun;obtain⟨T1,T2⟩:=hT.drop hn (hE rfl) (o':=o) (.inl ⟨hc,rfl⟩);exact nX hs ho rfl hY (cN (f:=.value) hrun) ⟨_,_,_,rfl⟩ T1 T2
   ·rw[if_neg hc]at hrun;obtain⟨T1,T2⟩:=hT.drop hn (hE rfl) (o':=o+n.toNat*K.sz c) (.inr rfl);exact nX hs ho rfl hY (cN (f:=.value) hrun) ⟨_,_,_,rfl⟩ T1 T2
  |false=>
   simp only[cond_false]at hrun⊢;obtain⟨T1,T2⟩:=hT.take hn;exact nX hs ho rfl hY (cN (f:=.value) hrun) ⟨_,_,_,rfl⟩ T1 T2
theorem abM{D:aT K}{P:Program}(hs:aD D ρ S w H){t e:TypeId}{c:K.U}{l:List (K.El c)}{h:Nat}{Y:Value}{k:IntKind}{n:Int}(ht:elemOf? P t=some e)(hsz:bY P e=some (K.sz c))
 (ho:H[h]?=some (.arr c l)) (hY:ρ[h]?=some Y) (hE:D.fN c=none) (hb:bV n l.length l.length=true):
 Does D P ρ S H w (do pure (.value (<-Instr.sliceAt t Y (some (.int k n)) none none))) (.sl H.length) (H.set h .dead++[.arr c (l.drop n.toNat)]):=by
 have hsh:∃a n c,Y=.slice a n c:=by
  rcases lN hs ho hY with⟨rfl,-⟩|⟨b,o,cap,vs,T,fr,rfl,-⟩<;>exact⟨_,_,_,rfl⟩
 rcases Ol (P:=P) (k:=k) hs ht hsz (.inl ho) hY hsh true hb with⟨rfl,rfl,hrun⟩|⟨b,o,cp,rfl,hcap,hn,hrun⟩
 ·simp only[cond_true]at hrun;exact nX hs ho rfl hY (cN (f:=.value) hrun) ⟨_,_,_,rfl⟩ (.inl ⟨rfl,by simp⟩) fun k hk=>hk
 ·simp only[cond_true]at hrun;rcases lN hs ho hY with⟨e0,-⟩|⟨b',o',cap,vs,T,fr,e0,hblk,⟨hcap',bZ⟩,hsz',hfr,hall⟩
  ·cases e0
  ·cases e0;have hml:(l.drop n.toNat).length=l.length-n.toNat:=by simp
   have hmc:n.toNat*K.sz c+(cp-n.toNat)*K.sz c=cp*K.sz c:=by rw[<-Nat.add_mul];congr 1;omega
   have fin:∀o2,(cp=n.toNat/\o2=o)\/o2=o+n.toNat*K.sz c->∀ρ',(∀(h:Nat) r,ρ[h]?=some r->ρ'[h]?=some r)->cV D ρ' S w (.arr c (l.drop n.toNat)) (.slice (some ⟨b,o2,none⟩) (l.length-n.toNat) (cp-n.toNat)):=fun o2 h2 ρ' hρ=>by
    have hlo:o<=o2:=by rcases h2 with⟨-,h⟩|h<;>omega
    have hhi:o2+(cp-n.toNat)*K.sz c<=o+cp*K.sz c:=by
     rcases h2 with⟨h,h'⟩|h
     ·rw[h,Nat.sub_self,Nat.zero_mul];omega
     ·omega
    refine .inr ⟨b,o2,cp-n.toNat,vs,T,fr,by rw[hml],hblk,⟨by rw[hml];omega,(fun t ht=>by rw[hE]at ht;cases ht),bZ.2⟩,by omega,fun k h1 h2=>hfr k (by omega) (by omega),fun i x hx=>?_⟩;have hi':=(List.getElem?_eq_some_iff.1 hx).1;have hp:o2+i*K.sz c=o+(n.toNat+i)*K.sz c:=by
     rcases h2 with⟨h,-⟩|h
     ·rw[hml]at hi';omega
     ·rw[h,Nat.add_mul];omega
    rw[hp];exact(hall (n.toNat+i) x (by simpa using hx)).mono (fun _ h=>h) (fun _ _=>rfl) hρ
   by_cases hc:cp=n.toNat
   ·rw[if_pos hc]at hrun;exact nX hs ho rfl hY (cN (f:=.value) hrun) ⟨_,_,_,rfl⟩ (fin o (.inl ⟨hc,rfl⟩) _ fun _ _ h=>jh h) fun k hk=>by simp[bj,dj]at hk⊢;exact hk
   ·rw[if_neg hc]at hrun;exact nX hs ho rfl hY (cN (f:=.value) hrun) ⟨_,_,_,rfl⟩ (fin _ (.inr rfl) _ fun _ _ h=>jh h) fun k hk=>by simp[bj,dj]at hk⊢;exact hk
theorem abN{cx:Cx K}(hs:aD cx.D ρ S w H){ev:Operand->AV K}{ρe:Operand->Value}(hev:∀x,Rep cx.D ρ S w (ev x) (ρe x)){o:Oper}{v:AV K}{H':List (Ob K)}{c:Bool}{t:List Nat}
 (h:cutV cx ev H o.op=some (v,H',c,t)) (hc:c=true):Does cx.D cx.P ρ S H w (execOp ρe o) v H':=by
 unfold cutV at h;split at h
 ·rename_i T x y hop;split at h
  ·split at h
   ·rename_i hh k n e hx hy he;have h1:=hev x;rw[hx]at h1;have h2:=hev y;rw[hy]at h2;obtain⟨hr,-⟩:=fa h1;unfold execOp;rw[hop];split at h
    ·rename_i cc l hob;split at h
     ·rename_i hsz;simp only[Option.some.injEq,Prod.mk.injEq]at h;obtain⟨rfl,rfl,rfl,rfl⟩:=h;have:=abL (P:=cx.P) (k:=k) hs he hsz hob hr hc;rw[<-cg h2]at this;exact this
     ·cases h
    ·rename_i cc l hob;split at h
     ·rename_i hsz;simp only[Option.some.injEq,Prod.mk.injEq]at h;obtain⟨rfl,rfl,rfl,rfl⟩:=h;have:=Om (P:=cx.P) (k:=k) hs he hsz hob hr false (fun e=>by cases e) hc;simp only[cond_false]at this;rw[<-cg h2]at this;exact this
     ·cases h
    ·cases h
   ·cases h
  ·cases h
 ·rename_i T x y hop;split at h
  ·split at h
   ·rename_i hh k n e hx hy he;have h1:=hev x;rw[hx]at h1;have h2:=hev y;rw[hy]at h2;obtain⟨hr,-⟩:=fa h1;unfold execOp;rw[hop];split at h
    ·rename_i cc l hob;split at h
     ·rename_i hsz;simp only[Option.some.injEq,Prod.mk.injEq]at h;obtain⟨rfl,rfl,rfl,rfl⟩:=h;have:=abM (P:=cx.P) (k:=k) hs he hsz.1 hob hr hsz.2 hc;rw[<-cg h2]at this;exact this
     ·cases h
    ·rename_i cc l hob;split at h
     ·rename_i hsz;simp only[Option.some.injEq,Prod.mk.injEq]at h;obtain⟨rfl,rfl,rfl,rfl⟩:=h;have:=Om (P:=cx.P) (k:=k) hs he hsz.1 hob hr true (fun _=>hsz.2) hc;simp only[cond_true]at this;rw[<-cg h2]at this;exact this
     ·cases h
    ·cases h
   ·cases h
  ·cases h
 ·cases h
theorem abO{cx:Cx K}(hD:aX cx.D)(hs:aD cx.D ρ S w H){ev:Operand->AV K}{ρe:Operand->Value}(hev:∀x,Rep cx.D ρ S w (ev x) (ρe x)){o:Oper}{v:AV K}{H':List (Ob K)}{c:Bool}{t:List Nat}
 (h:nG cx ev H o.op=some (v,H',c,t)) (hc:c=true):H'=H/\∃u w' S',(execOp ρe o).run cx.P w=.ok (.value u) w'/\aD cx.D ρ S' w' H/\Rep cx.D ρ S' w' v u/\Step cx.D H.length ρ S H w ρ S' H w':=by
 unfold nG at h;split at h
 ·rename_i T len parts hop;split at h
  ·cases h
  ·rename_i e he;split at h
   ·rename_i cc l hty hl;split at h
    ·rename_i hcond;obtain⟨hsz,hz,hlen,h1,h2,hall⟩:=hcond;split at h
     ·rename_i y b hdec;simp only[Option.some.injEq,Prod.mk.injEq]at h;obtain⟨rfl,rfl,rfl,rfl⟩:=h;subst hc;obtain⟨cs',hrun,-,hseg⟩:=N9 (P:=cx.P) hD hs hev he hsz hz hl hlen h1 h2 hall hdec;obtain⟨g1,g2,g3⟩:=abh (P:=cx.P) hs (c:=cc) (l:=y) (vs:=cs') (T:=e) (fr:=(0,0)) (w':=w.alloc (.cells cs' e)) rfl rfl rfl rfl hseg;refine⟨rfl,_,_,_,?_,g1,g2,g3⟩;unfold execOp;rw[hop];exact hrun
     ·cases h
    ·cases h
   ·cases h
 ·cases h
end Go.V
namespace Go.V
open Go
variable {K :bL}{D:aT K}{ρ ρ':List Value}{S S':Nat->Prop}{w w':World}{H H':List (Ob K)}
def cA(D:aT K)(ρ:List Value)(S:Nat->Prop)(w:World)(tmps:Array Value):AV K->Value->Prop
 |.opt g want v,x=>(tmps[g]?=some (.bool want)/\Rep D ρ S w v x)\/(tmps[g]?≠some (.bool want)/\x=undef)
 |v,x=>Rep D ρ S w v x
structure cF (D:aT K) (ρ:List Value) (S:Nat->Prop) (w:World) (tm:List (AV K)) (tmps:Array Value):Prop where
 len:tm.length=tmps.size
 ok:∀(t:Nat) v x,tm[t]?=some v->tmps[t]?=some x->cA D ρ S w tmps v x
theorem cA.mono{tmps:Array Value}(hS:∀b,S b->S' b)(hw:∀b,S b->w'.heap[b]?=w.heap[b]?)(hρ:∀(h:Nat) r,ρ[h]?=some r->ρ'[h]?=some r){v:AV K}{x:Value}(h:cA D ρ S w tmps v x):cA D ρ' S' w' tmps v x:=by
 cases v<;>simp only[cA]at h⊢<;>first|exact h.mono hS hw hρ|(rcases h with⟨a,b⟩|h;exact .inl ⟨a,b.mono hS hw hρ⟩;exact .inr h)
theorem cF.mono{tm:List (AV K)}{tmps:Array Value}(hS:∀b,S b->S' b)(hw:∀b,S b->w'.heap[b]?=w.heap[b]?)(hρ:∀(h:Nat) r,ρ[h]?=some r->ρ'[h]?=some r)(h:cF D ρ S w tm tmps):cF D ρ' S' w' tm tmps:=
 ⟨h.len,fun t v x hv hx=>(h.ok t v x hv hx).mono hS hw hρ⟩
theorem cA.dQ{tmps:Array Value}{v:AV K}{x:Value}(h:Rep D ρ S w v x):cA D ρ S w tmps v x:=by
 cases v<;>first|exact h|(cases h)
theorem cF.get{tm:List (AV K)}{tmps:Array Value}(h:cF D ρ S w tm tmps){t:Nat}{v:AV K}(hv:tm[t]?=some v):∃x,tmps[t]?=some x/\cA D ρ S w tmps v x:=by
 have ht:t<tmps.size:=by rw[<-h.len];exact(List.getElem?_eq_some_iff.1 hv).1
 exact⟨tmps[t],Array.getElem?_eq_getElem ht,h.ok t v _ hv (Array.getElem?_eq_getElem ht)⟩
theorem On{tm:List (AV K)}{tmps:Array Value}(h:cF D ρ S w tm tmps):∀(n:Nat)(g t:Nat×Bool),covers tm n g t=true->tmps[g.1]?=some (.bool g.2)->tmps[t.1]?=some (.bool t.2)
 |0,g,t,hc,hg=>by simp[covers]at hc;rw[<-hc.1,<-hc.2];exact hg
 |n+1,g,t,hc,hg=>by
  simp only[covers,Bool.or_eq_true]at hc;rcases hc with hc|hc
  ·simp at hc;rw[<-hc.1,<-hc.2];exact hg
  ·split at hc
   ·rename_i g1 w1 v hv;obtain⟨x,hx,ho⟩:=h.get hv;rw[hg]at hx;simp at hx;subst hx;rcases ho with⟨a,-⟩|⟨-,b⟩
    ·exact On h n (g1,w1) t hc a
    ·simp[undef]at b
   ·cases hc
theorem Oo{tm:List (AV K)}{tmps:Array Value}(h:cF D ρ S w tm tmps):∀(n g:Nat)(want e:Bool),rz tm n (g,want)=some e->(e=true↔tmps[g]?=some (.bool want))
 |0,g,want,e,hc=>by simp[rz]at hc
 |n+1,g,want,e,hc=>by
  simp only[rz]at hc;split at hc
  ·rename_i b hv;obtain⟨x,hx,ho⟩:=h.get hv;simp only[cA]at ho;rw[eP ho]at hx;simp only[Option.some.injEq]at hc;subst hc;rw[hx];simp
  ·rename_i g1 w1 b hv;obtain⟨x,hx,ho⟩:=h.get hv;simp only[Option.map_eq_some_iff]at hc;obtain⟨e1,he1,rfl⟩:=hc;have ih:=Oo h n g1 w1 e1 he1;rcases ho with⟨a,ho⟩|⟨a,ho⟩
   ·rw[eP ho]at hx;rw[ih.2 a,hx];simp
   ·have:e1=false:=by cases e1;rfl;exact absurd (ih.1 rfl) a
    rw[this,hx,ho];simp[undef]
  ·cases hc
theorem Oq{a:Act}{t:Nat}{x:Value}(h:a.tmps[t]?=some x):a.eval (.tmp t)=x:=by simp[Act.eval,Array.getD_eq_getD_getElem?,h]
theorem xm{tm:List (AV K)}{a:Act}(h:cF D ρ S w tm a.tmps){gs:List (Nat×Bool)}(hg:∀p∈gs,a.tmps[p.1]?=some (.bool p.2))(x:Operand):Rep D ρ S w (ca tm gs x) (a.eval x):=by
 cases x with
 |tmp t=>
  simp only[ca];split
  ·rename_i g w1 v hv;split
   ·rename_i hc;obtain⟨y,hy,ho⟩:=h.get hv;rw[Oq hy];obtain⟨p,hp,hcov⟩:=List.any_eq_true.1 hc;have:=On h 6 p (g,w1) hcov (hg p hp);rcases ho with⟨-,ho⟩|⟨n,-⟩
    ·exact ho
    ·exact absurd this n
   ·exact .any _
  ·rename_i v hne hv;obtain⟨y,hy,ho⟩:=h.get hv;rw[Oq hy];cases v<;>first|exact ho|exact absurd rfl (hne _ _ _)
  ·exact .any _
 |const v=>
  simp only[ca,Act.eval];cases hv:(fO v:Option (AV K))with
  |none=>exact .any _
  |some y=>exact lO v y hv
 |global g=>exact .any _
 |func f=>exact .fn (caps:=[]) (vs:=[]) rfl (fun i v x h=>by simp at h)
mutual
theorem Ot:∀(x y:AV K)(v:Value),Rep D ρ S w x v->Rep D ρ S w (merge true x y) v
 |.int k m,y,v,h=>by cases y<;>first|exact .any _|(simp only[merge];split<;>first|exact h|exact .any _)
 |.bool m,y,v,h=>by cases y<;>first|exact .any _|exact h
 |.str m,y,v,h=>by cases y<;>first|exact .any _|exact h
 |.au c l,y,v,h=>by
   cases y<;>first|exact .any _|skip
   rename_i c' l';simp only[merge];cases hd:K.ee c c' with
   |isTrue he=>subst he;exact h
   |isFalse hn=>exact .any _
 |.agg l,y,v,h=>by
   cases y<;>first|exact .any _|skip
   rename_i l';simp only[merge];split
   ·rename_i he;cases h with
    |agg hl hr=>
     have:=Ou l l' he _ ⟨hl,hr⟩;exact .agg this.1 this.2
   ·exact .any _
 |.bO,y,v,h=>by cases y<;>first|exact .any _|exact h
 |.mp,y,v,h=>by cases y<;>first|exact .any _|exact h
 |.bN,y,v,h=>by cases y<;>first|exact .any _|exact h
 |.any,y,v,h|.fn _ _,y,v,h|.ptr _ _,y,v,h|.sl _,y,v,h|.ep _ _ _ _,y,v,h|.rp _ _ _,y,v,h|.bc _,y,v,h|.np _,y,v,h|.vw _ _ _ _,y,v,h|.opt _ _ _,y,v,h=>by simp only[merge];exact .any _
theorem Ou:∀(l l':List (AV K)),l.length=l'.length->∀(vs:List Value),aI D ρ S w l vs->aI D ρ S w (merges true l l') vs
 |[],l',hl,vs,h=>by cases l'<;>simp[merges]<;>exact h
 |x::r,[],hl,vs,h=>by simp at hl
 |x::r,y::s,hl,vs,h=>by
  obtain⟨u,t,rfl,h1,h2⟩:=h.cS;simp only[merges];exact .cons (Ot x y u h1) (Ou r s (by simpa using hl) t h2)
end
mutual
theorem Ov:∀(x y:AV K)(v:Value),Rep D ρ S w y v->Rep D ρ S w (merge false x y) v
 |.int k m,y,v,h=>by cases y<;>first|exact .any _|(simp only[merge];split<;>first|(rename_i he;subst he;exact h)|exact .any _)
 |.bool m,y,v,h=>by cases y<;>first|exact .any _|exact h
 |.str m,y,v,h=>by cases y<;>first|exact .any _|exact h
 |.au c l,y,v,h=>by
   cases y<;>first|exact .any _|skip
   rename_i c' l';simp only[merge];cases hd:K.ee c c' with
   |isTrue he=>subst he;exact h
   |isFalse hn=>exact .any _
 |.agg l,y,v,h=>by
   cases y<;>first|exact .any _|skip
   rename_i l';simp only[merge];split
   ·rename_i he;cases h with
    |agg hl hr=>
     have:=Ox l l' he _ ⟨hl,hr⟩;exact .agg this.1 this.2
   ·exact .any _
 |.bO,y,v,h=>by cases y<;>first|exact .any _|exact h
 |.mp,y,v,h=>by cases y<;>first|exact .any _|exact h
 |.bN,y,v,h=>by cases y<;>first|exact .any _|exact h
 |.any,y,v,h|.fn _ _,y,v,h|.ptr _ _,y,v,h|.sl _,y,v,h|.ep _ _ _ _,y,v,h|.rp _ _ _,y,v,h|.bc _,y,v,h|.np _,y,v,h|.vw _ _ _ _,y,v,h|.opt _ _ _,y,v,h=>by simp only[merge];exact .any _
theorem Ox:∀(l l':List (AV K)),l.length=l'.length->∀(vs:List Value),aI D ρ S w l' vs->aI D ρ S w (merges false l l') vs
 |[],l',hl,vs,h=>by cases l'<;>simp[merges]at hl⊢<;>exact h
 |x::r,[],hl,vs,h=>by simp at hl
 |x::r,y::s,hl,vs,h=>by
  obtain⟨u,t,rfl,h1,h2⟩:=h.cS;simp only[merges];exact .cons (Ov x y u h1) (Ox r s (by simpa using hl) t h2)
end
theorem Oy{b:Bool}{x y:AV K}{v:Value}(h1:b=true->Rep D ρ S w x v)(h2:b=false->Rep D ρ S w y v):Rep D ρ S w (merge b x y) v:=by
 cases b
 ·exact Ov x y v (h2 rfl)
 ·exact Ot x y v (h1 rfl)
end Go.V
namespace Go.V
open Go
variable {K :bL}{D:aT K}{ρ ρ':List Value}{S S':Nat->Prop}{w w':World}{H H':List (Ob K)}
def l3(P:Program)(f:FuncId):Prop:=∃fn,P.funcs[f]?=some fn/\(fn.name== "runtime.NumGoroutine")=false/\fn.body.isNone=false
def RC(D:aT K)(P:Program)(f:FuncId)(args:List (AV K))(H:List (Ob K))(r:AV K)(H':List (Ob K)):Prop:=
 l3 P f/\∀(ρ:List Value)(S:Nat->Prop)(w:World)(vals:List Value),aD D ρ S w H->aI D ρ S w args vals->
  Calls P f vals.toArray w fun e w'=>∃u ρ' S',e=.returned u/\aD D ρ' S' w' H'/\Rep D ρ' S' w' r u/\Step D H.length ρ S H w ρ' S' H' w'
theorem CO(hs:aD D ρ S w H)(x:AV K)(v:Value)(hx:Rep D ρ S w x v):Rep D ρ (fun b=>S b\/Own D w ρ H b) w (nz H x) v:=by
 cases x with
 |sl h=>
  obtain⟨hp,hkk⟩:=fa hx;simp only[nz];split
  ·rename_i cc l hob;rcases lN hs hob hp with⟨e,rfl⟩|⟨b,o,cap,vs,T,fr,e,hblk,⟨hcap,bZ⟩,hsz,hfr,hall⟩
   ·rw[e];exact .cK _ _
   ·rw[e]at hp⊢;refine .au (fun i=>bz vs (o+i*K.sz cc) (K.sz cc)) (.inr ⟨h,_,_,hob,rfl,hp,rfl⟩) hcap (fun i x hx=>(hall i x hx).1.symm) (fun i _=>lP hblk _ _) (fun i x hx j v y hv hy=>?_);exact((hall i x hx).2 j v y hv hy).mono (fun _ h=>.inl h) (fun _ _=>rfl) (fun _ _ h=>h)
  ·rename_i cc l hob;have:=hs.ob _ _ _ hob hp;exact Rep.mono (fun _ h=>.inl h) (fun _ _=>rfl) (fun _ _ h=>h) this
  ·rename_i cc l hob;exact Tree.rep (hs.ob _ _ _ hob hp) fun k hk=>.inr ⟨h,_,_,hob,rfl,hp,hk⟩
  ·exact .any _
 |_=>exact hx.mono (fun _ h=>.inl h) (fun _ _=>rfl) (fun _ _ h=>h)
theorem abP(hs:aD D ρ S w H)(l:List (AV K))(vs:List Value)(hx:aI D ρ S w l vs):aI D ρ (fun b=>S b\/Own D w ρ H b) w (l.map (nz H)) vs:=
 ⟨by simp[hx.1],fun i v x hv hy=>by
   rw[List.getElem?_map,Option.map_eq_some_iff]at hv;obtain⟨u,hu,rfl⟩:=hv;exact CO hs u x (hx.2 i u x hu hy)⟩
mutual
theorem CP(hD:aX D)(hs:aD D ρ S w H):∀(x:AV K)(v:Value),Rep D ρ S w x v->Rep D ρ (fun b=>S b\/Own D w ρ H b) w (dN D H x) v
 |.sl h,v,hx=>by
   obtain⟨hp,hkk⟩:=fa hx;simp only[dN];split
   ·rename_i cc l hob;rcases lN hs hob hp with⟨e,rfl⟩|⟨b,o,cap,vs,T,fr,e,hblk,⟨hcap,bZ⟩,hsz,hfr,hall⟩
    ·rw[e];exact .cK _ _
    ·rw[e]at hp⊢;refine .au (fun i=>bz vs (o+i*K.sz cc) (K.sz cc)) (.inr ⟨h,_,_,hob,rfl,hp,rfl⟩) hcap (fun i x hx=>(hall i x hx).1.symm) (fun i _=>lP hblk _ _) (fun i x hx j v y hv hy=>?_);exact((hall i x hx).2 j v y hv hy).mono (fun _ h=>.inl h) (fun _ _=>rfl) (fun _ _ h=>h)
   ·rename_i cc l hob;have:=hs.ob _ _ _ hob hp;exact Rep.mono (fun _ h=>.inl h) (fun _ _=>rfl) (fun _ _ h=>h) this
   ·rename_i cc l hob;exact Tree.rep (hs.ob _ _ _ hob hp) fun k hk=>.inr ⟨h,_,_,hob,rfl,hp,hk⟩
   ·exact .any _
 |.vw h st lo hi,v,hx=>by
   cases hx with
   |vw hp h1 h2 ha=>
    simp only[dN];split
    ·rename_i cc l hob;split
     ·rename_i hst;subst hst;have:=CO (D:=D) hs (.sl h) _ (.sl hp rfl);simp only[nz,hob]at this;exact NU this h1 h2 ha
     ·exact .any _
    ·rename_i cc l hob;split
     ·rename_i hst;subst hst;have:=CO (D:=D) hs (.sl h) _ (.sl hp rfl);simp only[nz,hob]at this;exact NU this h1 h2 ha
     ·exact .any _
    ·exact .any _
 |.ptr h off,v,hx=>by
   obtain⟨b,rfl,hp⟩:=rR hx;simp only[dN];split
   ·rename_i cs hob;split
    ·rename_i c hf;split
     ·rename_i y hdec;obtain⟨b',vs,T,e,hblk,hr,-⟩:=hs.ob _ _ _ hob hp;simp only[Value.pointer.injEq,Option.some.injEq,Addr.mk.injEq]at e;obtain⟨rfl,-,-⟩:=e;have hc:=hD.dec c _ _ hdec ρ (fun b=>S b\/Own D w ρ H b) w _ (abP hs _ _ hr);have:=Rep.rp (D:=D) (ρ:=ρ) (S:=fun b=>S b\/Own D w ρ H b) (w:=w) (c:=c) (x:=y) (b:=b) (o:=0) (off:=off) vs.toList (.inr ⟨h,_,_,hob,rfl,hp,rfl⟩) hc.1.symm
       (fun j v hv=>by simp[World.cell?,hblk];simpa using hv) (fun j v y' h1 h2=>hc.2 j v y' h1 h2)
      rw[Nat.zero_add]at this;exact this
     ·exact .any _
    ·exact .any _
   ·exact .any _
 |.fn g l,v,hx=>by
   cases hx with
   |fn hl hr=>
    have:=rW hD hs l _ ⟨hl,hr⟩;exact .fn this.1 this.2
 |.agg l,v,hx=>by
   cases hx with
   |agg hl hr=>
    have:=rW hD hs l _ ⟨hl,hr⟩;exact .agg this.1 this.2
 |.bc l,v,hx=>by
   cases hx with
   |bc hl hr=>
    have:=rW hD hs l _ ⟨hl,hr⟩;exact .bc this.1 this.2
 |.any,v,hx|.int _ _,v,hx|.bool _,v,hx|.str _,v,hx|.bN,v,hx|.bO,v,hx|.mp,v,hx|.ep _ _ _ _,v,hx|.au _ _,v,hx|.rp _ _ _,v,hx|.np _,v,hx|.opt _ _ _,v,hx=>by
   simp only[dN];exact hx.mono (fun _ h=>.inl h) (fun _ _=>rfl) (fun _ _ h=>h)
theorem rW(hD:aX D)(hs:aD D ρ S w H):∀(l:List (AV K))(vs:List Value),aI D ρ S w l vs->aI D ρ (fun b=>S b\/Own D w ρ H b) w (cX D H l) vs
 |[],vs,h=>by rw[h.gR];exact .nil
 |x::r,vs,h=>by
  obtain⟨u,t,rfl,h1,h2⟩:=h.cS;exact .cons (CP hD hs x u h1) (rW hD hs r t h2)
end
mutual
theorem abQ:∀(x:AV K),jO x=false->dN D H x=x
 |.sl h,hx=>by simp[jO]at hx
 |.ptr h o,hx=>by simp[jO]at hx
 |.np h,hx=>by simp[jO]at hx
 |.vw _ _ _ _,hx=>by simp[jO]at hx
 |.fn g l,hx=>by simp only[dN];rw[rX l (by simpa [jO]using hx)]
 |.agg l,hx=>by simp only[dN];rw[rX l (by simpa [jO]using hx)]
 |.bc l,hx=>by simp only[dN];rw[rX l (by simpa [jO]using hx)]
 |.any,hx|.int _ _,hx|.bool _,hx|.str _,hx|.bN,hx|.bO,hx|.mp,hx|.ep _ _ _ _,hx|.au _ _,hx|.rp _ _ _,hx|.opt _ _ _,hx=>rfl
theorem rX:∀(l:List (AV K)),nB l=false->cX D H l=l
 |[],_=>rfl
 |x::r,h=>by
  simp only[nB,Bool.or_eq_false_iff]at h;simp only[cX];rw[abQ x h.1,rX r h.2]
end
mutual
theorem CQ:∀(x:AV K)(v:Value),x.closed=true->dA x=false->Rep D ρ S w x v->Rep D ρ' S' w' x v
 |.any,v,_,_,h=>.any _
 |.int _ _,v,_,_,h=>by rw[cg h];exact .int _ _
 |.bool _,v,_,_,h=>by rw[eP h];exact .bool _
 |.str _,v,_,_,h=>by rw[fV h];exact .str _
 |.bN,v,_,_,h=>by cases h;exact .bN
 |.bO,v,_,_,h=>by cases h;exact .bO
 |.mp,v,_,_,h=>by cases h with|mp h=>exact .mp h
 |.fn f l,v,hc,hr,h=>by
   cases h with
   |fn hl hh=>
    have:=xn l _ (by simpa [AV.closed]using hc) (by simpa [dA]using hr) ⟨hl,hh⟩;exact .fn this.1 this.2
 |.agg l,v,hc,hr,h=>by
   cases h with
   |agg hl hh=>
    have:=xn l _ (by simpa [AV.closed]using hc) (by simpa [dA]using hr) ⟨hl,hh⟩;exact .agg this.1 this.2
 |.bc l,v,hc,hr,h=>by
   cases h with
   |bc hl hh=>
    have:=xn l _ (by simpa [AV.closed]using hc) (by simpa [dA]using hr) ⟨hl,hh⟩;exact .bc this.1 this.2
 |.np _,v,hc,_,_|.vw _ _ _ _,v,hc,_,_|.ptr _ _,v,hc,_,_|.sl _,v,hc,_,_|.ep _ _ _ _,v,hc,_,_|.opt _ _ _,v,hc,_,_=>by simp[AV.closed]at hc
 |.au _ _,v,_,hr,_|.rp _ _ _,v,_,hr,_=>by simp[dA]at hr
theorem xn:∀(l:List (AV K))(vs:List Value),dz l=true->bM l=false->aI D ρ S w l vs->aI D ρ' S' w' l vs
 |[],vs,_,_,h=>by rw[h.gR];exact .nil
 |x::r,vs,hc,hr,h=>by
  simp only[dz,Bool.and_eq_true]at hc;simp only[bM,Bool.or_eq_false_iff]at hr;obtain⟨u,t,rfl,h1,h2⟩:=h.cS;exact .cons (CQ x u hc.1 hr.1 h1) (xn r t hc.2 hr.2 h2)
end
def Ren(f:Nat->Option Nat)(ρ ρ':List Value):Prop:=∀(i j:Nat)(r:Value),f i=some j->ρ[i]?=some r->ρ'[j]?=some r
mutual
theorem lS(hD:aX D){f:Nat->Option Nat}(hm:Ren f ρ ρ'):∀(x x':AV K)(v:Value),cU f x=some x'->Rep D ρ S w x v->Rep D ρ' S w x' v
 |.ptr h o,x',v,hb,hx=>by
   simp only[cU,Option.map_eq_some_iff]at hb;obtain⟨j,hj,rfl⟩:=hb;obtain⟨b,rfl,hp⟩:=rR hx;exact .ptr (hm _ _ _ hj hp)
 |.vw h st lo hi,x',v,hb,hx=>by
   simp only[cU,Option.map_eq_some_iff]at hb;obtain⟨j,hj,rfl⟩:=hb;cases hx with
   |vw hp h1 h2 ha=>exact .vw (hm _ _ _ hj hp) h1 h2 ha
 |.np h,x',v,hb,hx=>by
   simp only[cU,Option.map_eq_some_iff]at hb;obtain⟨j,hj,rfl⟩:=hb;cases hx with
   |fU=>exact .fU
   |np hp=>exact .np (hm _ _ _ hj hp)
 |.sl h,x',v,hb,hx=>by
   simp only[cU,Option.map_eq_some_iff]at hb;obtain⟨j,hj,rfl⟩:=hb;obtain⟨hp,hkk⟩:=fa hx;exact .sl (hm _ _ _ hj hp) hkk
 |.ep h s i o,x',v,hb,hx=>by
   simp only[cU,Option.map_eq_some_iff]at hb;obtain⟨j,hj,rfl⟩:=hb;obtain⟨b,o',n,c,rfl,hp,hi⟩:=iF hx;exact .ep (hm _ _ _ hj hp) hi
 |.fn g l,x',v,hb,hx=>by
   simp only[cU,Option.map_eq_some_iff]at hb;obtain⟨l',hl',rfl⟩:=hb;cases hx with
   |fn hl hh=>
    have:=rY hD hm l l' _ hl' ⟨hl,hh⟩;exact .fn this.1 this.2
 |.agg l,x',v,hb,hx=>by
   simp only[cU,Option.map_eq_some_iff]at hb;obtain⟨l',hl',rfl⟩:=hb;cases hx with
   |agg hl hh=>
    have:=rY hD hm l l' _ hl' ⟨hl,hh⟩;exact .agg this.1 this.2
 |.bc l,x',v,hb,hx=>by
   simp only[cU,Option.map_eq_some_iff]at hb;obtain⟨l',hl',rfl⟩:=hb;cases hx with
   |bc hl hh=>
    have:=rY hD hm l l' _ hl' ⟨hl,hh⟩;exact .bc this.1 this.2
 |.opt _ _ _,x',v,hb,hx=>by simp[cU]at hb
 |.any,x',v,hb,hx=>by simp only[cU,Option.some.injEq]at hb;subst hb;exact .any _
 |.int _ _,x',v,hb,hx=>by simp only[cU,Option.some.injEq]at hb;subst hb;rw[cg hx];exact .int _ _
 |.bool _,x',v,hb,hx=>by simp only[cU,Option.some.injEq]at hb;subst hb;rw[eP hx];exact .bool _
 |.str _,x',v,hb,hx=>by simp only[cU,Option.some.injEq]at hb;subst hb;rw[fV hx];exact .str _
 |.bN,x',v,hb,hx=>by simp only[cU,Option.some.injEq]at hb;subst hb;cases hx;exact .bN
 |.bO,x',v,hb,hx=>by simp only[cU,Option.some.injEq]at hb;subst hb;cases hx;exact .bO
 |.mp,x',v,hb,hx=>by simp only[cU,Option.some.injEq]at hb;subst hb;cases hx with|mp h=>exact .mp h
 |.au c l,x',v,hb,hx=>by simp only[cU,Option.some.injEq]at hb;subst hb;exact hx.closed hD rfl
 |.rp c y o,x',v,hb,hx=>by simp only[cU,Option.some.injEq]at hb;subst hb;exact hx.closed hD rfl
theorem rY(hD:aX D){f:Nat->Option Nat}(hm:Ren f ρ ρ'):∀(l l':List (AV K))(vs:List Value),ek f l=some l'->aI D ρ S w l vs->aI D ρ' S w l' vs
 |[],l',vs,hb,h=>by simp only[ek,Option.some.injEq]at hb;subst hb;rw[h.gR];exact .nil
 |x::r,l',vs,hb,h=>by
  simp only[ek]at hb;split at hb
  ·rename_i x1 r1 hx1 hr1;simp only[Option.some.injEq]at hb;subst hb;obtain⟨u,t,rfl,h1,h2⟩:=h.cS;exact .cons (lS hD hm x x1 u hx1 h1) (rY hD hm r r1 t hr1 h2)
  ·cases hb
end
end Go.V
namespace Go.V
open Go
variable {K :bL}{D:aT K}{ρ ρ':List Value}{S S':Nat->Prop}{w w':World}{H H':List (Ob K)}
theorem iJ{f:Nat->Option Nat}{o o':Ob K}(h:eJ f o=some o'){r:Value}{b:Nat}:bj D w o' r b↔bj D w o r b:=by
 cases o<;>simp[eJ]at h
 ·subst h;exact Iff.rfl
 ·obtain⟨l,-,rfl⟩:=h;exact Iff.rfl
 ·subst h;exact Iff.rfl
 ·subst h;exact Iff.rfl
 ·subst h;exact Iff.rfl
 ·subst h;exact Iff.rfl
 ·subst h;exact Iff.rfl
theorem ic{f:Nat->Option Nat}{o o':Ob K}(h:eJ f o=some o'):o'.live=o.live:=by
 cases o<;>simp[eJ]at h
 ·subst h;rfl
 ·obtain⟨l,-,rfl⟩:=h;rfl
 ·subst h;rfl
 ·subst h;rfl
 ·subst h;rfl
 ·subst h;rfl
 ·subst h;rfl
theorem abR{f:Nat->Option Nat}{l l':List (AV K)}(h:ek f l=some l')(hn:fm l'=true):fm l=true:=by
 cases l with
 |nil=>simp[ek]at h;subst h;cases hn
 |cons v r=>
  simp only[ek]at h;split at h
  ·rename_i x y hx hy;simp only[Option.some.injEq]at h;subst h;cases v<;>simp only[cU,Option.map_eq_some_iff,Option.some.injEq,reduceCtorEq]at hx<;>first|rfl|(subst hx;cases hn)|(obtain⟨a,-,rfl⟩:=hx;cases hn)
  ·cases h
theorem CS(hD:aX D){f:Nat->Option Nat}(hm:Ren f ρ ρ'){o o':Ob K}{r:Value}(h:eJ f o=some o')(hs:cV D ρ S w o r):cV D ρ' S w o' r:=by
 cases o with
 |dead=>simp[eJ]at h;subst h;trivial
 |cT c l=>simp[eJ]at h;subst h;exact Rep.closed hD hs rfl
 |box cs=>
  simp only[eJ,Option.map_eq_some_iff]at h;obtain⟨l,hl,rfl⟩:=h;obtain⟨b,vs,T,e,h1,h2,h3⟩:=hs;exact⟨b,vs,T,e,h1,rY hD hm cs l _ hl h2,fun hn=>h3 (abR hl hn)⟩
 |tree c l=>simp[eJ]at h;subst h;exact hs
 |opn c l i off cs=>simp[eJ]at h
 |dt c x=>simp[eJ]at h;subst h;exact⟨hs.1.closed hD rfl,hs.2⟩
 |bf t m l=>simp[eJ]at h;subst h;exact hs
 |arr c l=>
  simp[eJ]at h;subst h;rcases hs with hs|⟨b,o,cap,vs,T,fr,e,h1,h2,h3,h4,h5⟩
  ·exact .inl hs
  ·exact .inr ⟨b,o,cap,vs,T,fr,e,h1,h2,h3,h4,fun i x hx=>(h5 i x hx).closed hD (hD.closed _ _)⟩
theorem CU{f:Ob K->Option (Ob K)}:∀(l l':List (Ob K)),hZ f l=some l'->l'.length=l.length/\∀(i:Nat) o o',l[i]?=some o->l'[i]?=some o'->f o=some o'
 |[],l',h=>by simp[hZ]at h;subst h;exact⟨rfl,fun i o o' h=>by simp at h⟩
 |x::r,l',h=>by
  simp only[hZ]at h;split at h
  ·rename_i y s hy hs;simp only[Option.some.injEq]at h;subst h;obtain⟨h1,h2⟩:=CU r s hs;refine⟨by simp[h1],fun i o o' ho ho'=>?_⟩;cases i with
   |zero=>simp at ho ho';subst ho;subst ho';exact hy
   |succ i=>exact h2 i o o' (by simpa using ho) (by simpa using ho')
  ·cases h
theorem uj:∀(m:List Nat),nD H m=true->(∀(i h:Nat),m[i]?=some h->h<H.length)/\∀(i j h:Nat),m[i]?=some h->m[j]?=some h->i=j
 |[],_=>⟨fun i h hi=>by simp at hi,fun i j h hi=>by simp at hi⟩
 |x::r,hp=>by
  simp only[nD,Bool.and_eq_true,decide_eq_true_eq,Bool.not_eq_true',List.contains_eq_mem,decide_eq_false_iff_not]at hp;obtain⟨h1,h2⟩:=uj r hp.2.2;refine⟨fun i h hi=>?_,fun i j h hi hj=>?_⟩
  ·cases i with
   |zero=>simp at hi;subst hi;exact hp.1
   |succ i=>exact h1 i h (by simpa using hi)
  ·cases i with
   |zero=>
    cases j with
    |zero=>rfl
    |succ j=>simp at hi hj;subst hi;exact absurd (List.mem_of_getElem? hj) hp.2.1
   |succ i=>
    cases j with
    |zero=>simp at hi hj;subst hj;exact absurd (List.mem_of_getElem? hi) hp.2.1
    |succ j=>rw[h2 i j h (by simpa using hi) (by simpa using hj)]
theorem uk:∀(m:List Nat)(H os:List (Ob K)),(eu H m os).length=H.length
 |[],H,os=>by simp[eu]
 |h::m,H,[]=>by simp[eu]
 |h::m,H,o::r=>by simp[eu,uk m]
theorem Oz:∀(m:List Nat)(H os:List (Ob K)),m.length<=os.length->∀(k:Nat)(o:Ob K),(eu H m os)[k]?=some o->(k∉m/\H[k]?=some o)\/∃i:Nat,m[i]?=some k/\os[i]?=some o
 |[],H,os,_,k,o,h=>.inl ⟨by simp,by simpa [eu]using h⟩
 |x::m,H,[],hl,k,o,h=>by simp at hl
 |x::m,H,y::r,hl,k,o,h=>by
  rcases Oz m (H.set x y) r (by simpa using hl) k o (by simpa [eu]using h)with⟨h1,h2⟩|⟨i,h1,h2⟩
  ·rcases cI h2 with⟨rfl,rfl,-⟩|⟨hne,h2⟩
   ·exact .inr ⟨0,rfl,rfl⟩
   ·exact .inl ⟨by simp[hne,h1],h2⟩
  ·exact .inr ⟨i+1,by simpa using h1,by simpa using h2⟩
theorem CV{m:List Nat}{n k i j:Nat}(h:(dB m n k)[i]?=some j):(i<m.length/\m[i]?=some j)\/(m.length<=i/\i<k/\j=n+(i-m.length)):=by
 unfold dB at h;by_cases hi:i<m.length
 ·rw[List.getElem?_append_left hi]at h;exact .inl ⟨hi,h⟩
 ·rw[List.getElem?_append_right (by omega)]at h;simp only[List.getElem?_map,Option.map_eq_some_iff]at h;obtain⟨a,ha,rfl⟩:=h;have:=List.getElem?_eq_some_iff.1 ha;obtain⟨h1,h2⟩:=this;simp at h1 h2;exact .inr ⟨by omega,by omega,by omega⟩
theorem join(hD:aX D)(hs:aD D ρ S w H){m:List Nat}(hm:nD H m=true){ρi:List Value}{Hi:List (Ob K)}(CW:∀(i h:Nat),m[i]?=some h->ρi[i]?=ρ[h]?)(hil:Hi.length=m.length)
 (hHi:∀(i h:Nat) o,m[i]?=some h->Hi[i]?=some o->∃o0,H[h]?=some o0/\o0.live=o.live/\∀r b,bj D w o r b↔bj D w o0 r b) (hsi:aD D ρi S w Hi)
 {ρo:List Value} {So:Nat->Prop} {Ho dH:List (Ob K)} (hso:aD D ρo So w' Ho) (st:Step D Hi.length ρi S Hi w ρo So Ho w') (hle:Hi.length<=Ho.length) (hb:hZ (nC (dB m H.length Ho.length)) Ho=some dH):
 aD D (ρ++ρo.drop m.length) So w' (eu H m (dH.take m.length)++dH.drop m.length)/\
  Step D H.length ρ S H w (ρ++ρo.drop m.length) So (eu H m (dH.take m.length)++dH.drop m.length) w'/\
  Ren (fun h=>(dB m H.length Ho.length)[h]?) ρo (ρ++ρo.drop m.length):=by
 obtain⟨lT,CX⟩:=uj m hm;obtain⟨hol,hog⟩:=CU _ _ hb;have hlen:=hs.len;have adW:=hsi.len;have adX:=hso.len;have j5:Ren (fun h=>(dB m H.length Ho.length)[h]?) ρo (ρ++ρo.drop m.length):=fun i j r hij hr=>by
  rcases CV hij with⟨h1,h2⟩|⟨h1,h2,rfl⟩
  ·rw[List.getElem?_append_left (by rw[hlen];exact lT i j h2),<-CW i j h2,<-st.pre i (by omega)];exact hr
  ·rw[List.getElem?_append_right (by omega),List.getElem?_drop,<-hr];congr 1;omega
 have hget:∀{k:Nat}{o:Ob K}{r:Value},(eu H m (dH.take m.length)++dH.drop m.length)[k]?=some o->(ρ++ρo.drop m.length)[k]?=some r->
  (k∉m/\H[k]?=some o/\ρ[k]?=some r)\/∃i o1,(dB m H.length Ho.length)[i]?=some k/\Ho[i]?=some o1/\nC (dB m H.length Ho.length) o1=some o/\ρo[i]?=some r:=fun{k o r} ho hr=>by
  have inner:∀{i:Nat},(dB m H.length Ho.length)[i]?=some k->dH[i]?=some o->∃i o1,(dB m H.length Ho.length)[i]?=some k/\Ho[i]?=some o1/\nC (dB m H.length Ho.length) o1=some o/\ρo[i]?=some r:=fun{i} h1 h2=>by
   have hi:i<Ho.length:=by rw[<-hol];exact(List.getElem?_eq_some_iff.1 h2).1
   have hg:=List.getElem?_eq_getElem hi;have hρ:=List.getElem?_eq_getElem (show i<ρo.length by omega);refine⟨i,_,h1,hg,hog i _ _ hg h2,?_⟩;rw[hρ,<-hr,<-j5 i k _ h1 hρ]
  by_cases hk:k<H.length
  ·rw[List.getElem?_append_left (by rw[uk];exact hk)]at ho;rcases Oz m H _ (by simp;omega) k o ho with⟨h1,h2⟩|⟨i,h1,h2⟩
   ·exact .inl ⟨h1,h2,by rwa [List.getElem?_append_left (by omega)]at hr⟩
   ·have him:=(List.getElem?_eq_some_iff.1 h1).1;rw[List.getElem?_take,if_pos him]at h2;exact .inr (inner (by unfold dB;rw[List.getElem?_append_left him];exact h1) h2)
  ·rw[List.getElem?_append_right (by rw[uk];omega),uk,List.getElem?_drop]at ho;have hlt:=(List.getElem?_eq_some_iff.1 ho).1;refine .inr (inner (i:=m.length+(k-H.length)) ?_ ho);unfold dB;rw[List.getElem?_append_right (by omega)];simp only[List.getElem?_map,Option.map_eq_some_iff];refine⟨k-H.length,?_,by omega⟩;rw[List.getElem?_range (by omega)];congr 1;omega
 have hinj:∀{i j k:Nat},(dB m H.length Ho.length)[i]?=some k->(dB m H.length Ho.length)[j]?=some k->i=j:=fun{i j k} h1 h2=>by
  rcases CV h1 with⟨a1,a2⟩|⟨a1,a2,a3⟩<;>rcases CV h2 with⟨b1,b2⟩|⟨b1,b2,b3⟩
  ·exact CX i j k a2 b2
  ·have:=lT i k a2;omega
  ·have:=lT j k b2;omega
  ·omega
 have CY:∀b,Own D w ρi Hi b->Own D w ρ H b:=fun b ⟨i,o,r,h1,h2,h3,h4⟩=>by
  have hi:i<m.length:=by rw[<-hil];exact(List.getElem?_eq_some_iff.1 h1).1
  have j6:=List.getElem?_eq_getElem hi;obtain⟨o0,e1,e2,e3⟩:=hHi i _ o j6 h1;exact⟨_,o0,r,e1,by rw[e2];exact h2,by rw[<-CW i _ j6];exact h3,(e3 r b).1 h4⟩
 have hapart:∀{k:Nat}{o:Ob K}{r:Value}{b:Nat},k∉m->H[k]?=some o->o.live=true->ρ[k]?=some r->bj D w o r b->¬Own D w ρi Hi b:=fun{k o r b} hk h1 h2 h3 h4 ⟨i,o1,r1,g1,g2,g3,g4⟩=>by
  have hi:i<m.length:=by rw[<-hil];exact(List.getElem?_eq_some_iff.1 g1).1
  have j6:=List.getElem?_eq_getElem hi;obtain⟨o0,e1,e2,e3⟩:=hHi i _ o1 j6 g1;have:=hs.ct k _ o o0 r r1 b h1 h2 h3 h4 e1 (by rw[e2];exact g2) (by rw[<-CW i _ j6];exact g3) ((e3 r1 b).1 g4);exact hk (by rw[this];exact List.getElem_mem hi)
 have hkeep:∀{k:Nat}{o:Ob K}{r:Value},k∉m->H[k]?=some o->o.live=true->ρ[k]?=some r->∀b,bj D w o r b->w'.heap[b]?=w.heap[b]?:=fun{k o r} hk h1 h2 h3 b h4=>st.old b (hs.lt b ⟨k,o,r,h1,h2,h3,h4⟩).1 (hapart hk h1 h2 h3 h4)
 have hSw:∀b,S b->w'.heap[b]?=w.heap[b]?:=st.nP hsi;have hpre:∀(h:Nat) r,ρ[h]?=some r->(ρ++ρo.drop m.length)[h]?=some r:=fun _ _ h=>jh h
 have OA:∀b,Own D w' (ρ++ρo.drop m.length) (eu H m (dH.take m.length)++dH.drop m.length) b->(Own D w ρ H b/\¬Own D w ρi Hi b)\/Own D w' ρo Ho b:=fun b ⟨k,o,r,h1,h2,h3,h4⟩=>by
  rcases hget h1 h3 with⟨a1,a2,a3⟩|⟨i,o1,a1,a2,a3,a4⟩
  ·have h4':=h4.old (hkeep a1 a2 h2 a3);exact .inl ⟨⟨k,o,r,a2,h2,a3,h4'⟩,hapart a1 a2 h2 a3 h4'⟩
  ·exact .inr ⟨i,o1,r,a2,by rw[<-ic a3];exact h2,a4,(iJ a3).1 h4⟩
 refine⟨⟨?_,?_,?_,?_,hso.slt,hso.base⟩,⟨st.os,st.tape,st.output,st.size,fun b hb hno=>st.old b hb fun h=>hno (CY b h),fun b hb=>?_,st.s1,fun b hb=>?_,fun h hh=>?_⟩,j5⟩
 ·simp only[List.length_append,uk,List.length_drop];omega
 ·intro k o r h1 h3;rcases hget h1 h3 with⟨a1,a2,a3⟩|⟨i,o1,a1,a2,a3,a4⟩
  ·exact(hs.ob k o r a2 a3).mono st.s1 hSw hpre fun b hl hb=>hkeep a1 a2 hl a3 b hb
  ·exact CS hD j5 a3 (hso.ob i o1 r a2 a4)
 ·intro k k' o o' r r' b h1 h2 h3 h4 g1 g2 g3 g4;rcases hget h1 h3 with⟨a1,a2,a3⟩|⟨i,o1,a1,a2,a3,a4⟩
  ·have h4':=h4.old (hkeep a1 a2 h2 a3);rcases hget g1 g3 with⟨c1,c2,c3⟩|⟨j,o2,c1,c2,c3,c4⟩
   ·exact hs.ct k k' o o' r r' b a2 h2 a3 h4' c2 g2 c3 (g4.old (hkeep c1 c2 g2 c3))
   ·exfalso;rcases st.own b ⟨j,o2,r',c2,by rw[<-ic c3];exact g2,c4,(iJ c3).1 g4⟩with h|h
    ·exact hapart a1 a2 h2 a3 h4' h
    ·have:=(hs.lt b ⟨k,o,r,a2,h2,a3,h4'⟩).1;omega
  ·have h4':=(iJ a3).1 h4;rcases hget g1 g3 with⟨c1,c2,c3⟩|⟨j,o2,c1,c2,c3,c4⟩
   ·exfalso;have g4':=g4.old (hkeep c1 c2 g2 c3);rcases st.own b ⟨i,o1,r,a2,by rw[<-ic a3];exact h2,a4,h4'⟩with h|h
    ·exact hapart c1 c2 g2 c3 g4' h
    ·have:=(hs.lt b ⟨k',o',r',c2,g2,c3,g4'⟩).1;omega
   ·have:=hso.ct i j o1 o2 r r' b a2 (by rw[<-ic a3];exact h2) a4 h4' c2 (by rw[<-ic c3];exact g2) c4 ((iJ c3).1 g4);subst this;rw[a1]at c1;simpa using c1
 ·intro b hb;rcases OA b hb with⟨h1,h2⟩|h
  ·refine⟨Nat.lt_of_lt_of_le (hs.lt b h1).1 st.size,fun hS=>?_⟩;rcases st.s2 b hS with h|h|h
   ·exact(hs.lt b h1).2 h
   ·exact h2 h
   ·have:=(hs.lt b h1).1;omega
  ·exact hso.lt b h
 ·rcases OA b hb with⟨h1,h2⟩|h
  ·exact .inl h1
  ·exact(st.own b h).imp (CY b) id
 ·exact(st.s2 b hb).imp id (Or.imp (CY b) id)
 ·rw[List.getElem?_append_left (by omega)]
end Go.V
namespace Go.V
open Go
variable {K :bL}{D:aT K}{ρ ρ':List Value}{S S':Nat->Prop}{w w':World}{H H':List (Ob K)}
theorem abS{m:List Nat}{h i:Nat}(hi:m.idxOf? h=some i):m[i]?=some h:=by
 rw[List.idxOf?_eq_some_iff]at hi;obtain⟨hlt,he,-⟩:=hi;rw[List.getElem?_eq_getElem hlt];simpa using he
def lU(ρ:List Value)(m:List Nat):List Value:=m.map fun h=>ρ.getD h undef
theorem CZ{m:List Nat}(hl:∀(i h:Nat),m[i]?=some h->h<ρ.length):∀(i h:Nat),m[i]?=some h->(lU ρ m)[i]?=ρ[h]?:=fun i h hi=>by
 simp only[lU,List.getElem?_map,hi,Option.map_some];rw[List.getD_eq_getElem?_getD,List.getElem?_eq_getElem (hl i h hi)];rfl
theorem OB(hD:aX D)(hs:aD D ρ S w H){m:List Nat}(hm:nD H m=true){Hi:List (Ob K)}(hb:hZ (wP m) (m.map fun h=>H.getD h .dead)=some Hi):
 aD D (lU ρ m) S w Hi/\Hi.length=m.length/\(∀(i h:Nat) o,m[i]?=some h->Hi[i]?=some o->∃o0,H[h]?=some o0/\o0.live=o.live/\∀r b,bj D w o r b↔bj D w o0 r b)/\Ren (fun h=>m.idxOf? h) ρ (lU ρ m):=by
 obtain⟨lT,CX⟩:=uj m hm;obtain⟨hol,hog⟩:=CU _ _ hb;have hlen:=hs.len;have hsub:=CZ (ρ:=ρ) (m:=m) (fun i h hi=>by rw[hlen];exact lT i h hi);have j5:Ren (fun h=>m.idxOf? h) ρ (lU ρ m):=fun i j r hij hr=>by rw[hsub j i (abS hij)];exact hr
 have hil:Hi.length=m.length:=by rw[hol];simp
 have hsrc:∀{i:Nat}{o:Ob K},Hi[i]?=some o->∃h o0,m[i]?=some h/\H[h]?=some o0/\wP m o0=some o:=fun{i o} ho=>by
  have hi:i<m.length:=by rw[<-hil];exact(List.getElem?_eq_some_iff.1 ho).1
  have j6:=List.getElem?_eq_getElem hi;have hh:=lT i _ j6;refine⟨_,H[m[i]],j6,List.getElem?_eq_getElem hh,hog i _ o ?_ ho⟩;simp only[List.getElem?_map,j6,Option.map_some];rw[List.getD_eq_getElem?_getD,List.getElem?_eq_getElem hh];rfl
 refine⟨⟨by simp[lU,hil],fun i o r h1 h2=>?_,fun i j o o' r r' b h1 h2 h3 h4 g1 g2 g3 g4=>?_,fun b ⟨i,o,r,h1,h2,h3,h4⟩=>?_,hs.slt,hs.base⟩,hil,fun i h o h1 h2=>?_,j5⟩
 ·obtain⟨h,o0,e1,e2,e3⟩:=hsrc h1;rw[hsub i h e1]at h2;exact CS hD j5 e3 (hs.ob h o0 r e2 h2)
 ·obtain⟨h,o0,e1,e2,e3⟩:=hsrc h1;obtain⟨h',C0,c1,c2,c3⟩:=hsrc g1;rw[hsub i h e1]at h3;rw[hsub j h' c1]at g3;have:=hs.ct h h' o0 C0 r r' b e2 (by rw[<-ic e3];exact h2) h3 ((iJ e3).1 h4) c2 (by rw[<-ic c3];exact g2) g3 ((iJ c3).1 g4);subst this;exact CX i j h e1 c1
 ·obtain⟨h,o0,e1,e2,e3⟩:=hsrc h1;rw[hsub i h e1]at h3;exact hs.lt b ⟨h,o0,r,e2,by rw[<-ic e3];exact h2,h3,(iJ e3).1 h4⟩
 ·obtain⟨h',o0,e1,e2,e3⟩:=hsrc h2;rw[h1]at e1;simp at e1;subst e1;exact⟨o0,e2,(ic e3).symm,fun r b=>iJ e3⟩
def aE(cx:Cx K):Prop:=(∀f args H r H',cx.call f args H=some (r,H',true)->RC cx.D cx.P f args H r H')/\(∀b f args H r H',cx.alt b f args H=some (r,H',true)->RC cx.D cx.P f args H r H')/\∀(R:Type)(a b:Option R) r,cx.ry a b=some r->a=some r\/b=some r
theorem rZ{cx:Cx K}(hD:aX cx.D)(hc:aE cx)(hs:aD cx.D ρ S w H){m:Mode}{f:FuncId}{args:List (AV K)}{vals:List Value}{v:AV K}{H':List (Ob K)}{t:List Nat}
 (h:fP cx m H f args=some (v,H',true,t)) (ha:aI cx.D ρ S w args vals):
 l3 cx.P f/\Calls cx.P f vals.toArray w fun e w'=>∃u ρ' S',e=.returned u/\aD cx.D ρ' S' w' H'/\Rep cx.D ρ' S' w' v u/\Step cx.D H.length ρ S H w ρ' S' H' w':=by
 unfold fP at h;split at h
 ·
  split at h
  ·rename_i hcl;split at h
   ·rename_i r c hcall;split at h
    ·rename_i hr;simp only[Option.some.injEq,Prod.mk.injEq]at h;obtain⟨rfl,rfl,rfl,rfl⟩:=h;simp only[Bool.and_eq_true,Bool.or_eq_true,Bool.not_eq_true']at hr;obtain⟨hf,gG⟩:=hc.1 _ _ _ _ _ hcall;refine⟨hf,?_⟩;by_cases hsl:nB args=true
     ·have hrd:dA r=false:=hr.2.resolve_right (by rw[hsl];simp);have ha1:=(rW hD hs args vals ha).closed (ρ':=[]) hD hcl;have hs1:aD cx.D [] (fun b=>S b\/Own cx.D w ρ H b) w ([]:List (Ob K)):=⟨rfl,fun _ _ _ h=>by simp at h,fun _ _ _ _ _ _ _ h=>by simp at h,fun b ⟨_,_,_,h,_⟩=>by simp at h,fun b hb=>hb.elim (hs.slt b) fun h=>(hs.lt b h).1,cx.D.base.mono (fun _ h=>.inl h) (fun _ _=>rfl) hs.base⟩;refine(gG [] _ w vals hs1 ha1).mono ?_
      rintro e w' ⟨u,ρ',S',rfl,h1,h2,h3⟩
      have hold:∀b,b<w.heap.size->w'.heap[b]?=w.heap[b]?:=fun b hb=>h3.old b hb fun⟨_,_,_,h,_⟩=>by simp at h
      have hO:∀b,Own cx.D w' ρ H b->Own cx.D w ρ H b:=fun b hb=>hb.old fun b hb=>hold b (hs.lt b hb).1
      exact⟨u,ρ,S,rfl,hs.world h3.size (fun b hb=>hold b (hs.lt b hb).1) (fun b hb=>hold b (hs.slt b hb)),CQ r u hr.1 hrd h2,
       ⟨h3.os,h3.tape,h3.output,h3.size,fun b hb _=>hold b hb,fun b hb=>.inl (hO b hb),fun _ h=>h,fun _ h=>.inl h,fun _ _=>rfl⟩⟩
     ·simp only[Bool.not_eq_true]at hsl;rw[rX args hsl]at hcl gG;have hs1:aD cx.D [] S w ([]:List (Ob K)):=⟨rfl,fun _ _ _ h=>by simp at h,fun _ _ _ _ _ _ _ h=>by simp at h,fun b ⟨_,_,_,h,_⟩=>by simp at h,hs.slt,hs.base⟩;refine(gG [] S w vals hs1 (ha.closed hD hcl)).mono ?_
      rintro e w' ⟨u,ρ',S',rfl,h1,h2,h3⟩
      have hold:∀b,b<w.heap.size->w'.heap[b]?=w.heap[b]?:=fun b hb=>h3.old b hb fun⟨_,_,_,h,_⟩=>by simp at h
      have hO:∀b,Own cx.D w' ρ H b->Own cx.D w ρ H b:=fun b hb=>hb.old fun b hb=>hold b (hs.lt b hb).1
      have hnew:∀b,S' b->S b\/w.heap.size<=b:=fun b hb=>(h3.s2 b hb).imp id fun h=>h.resolve_left fun⟨_,_,_,h,_⟩=>by simp at h
      have hs2:=hs.world h3.size (fun b hb=>hold b (hs.lt b hb).1) (fun b hb=>hold b (hs.slt b hb));refine⟨u,ρ,S',rfl,⟨hs.len,fun k o r' g1 g2=>(hs2.ob k o r' g1 g2).mono h3.s1 (fun _ _=>rfl) (fun _ _ h=>h) (fun _ _ _=>rfl),hs2.ct,fun b hb=>⟨(hs2.lt b hb).1,fun hS=>?_⟩,h1.slt,h1.base⟩,h2.closed hD hr.1,
       ⟨h3.os,h3.tape,h3.output,h3.size,fun b hb _=>hold b hb,fun b hb=>.inl (hO b hb),h3.s1,fun b hb=>(hnew b hb).imp id .inr,fun _ _=>rfl⟩⟩
      rcases hnew b hS with h|h
      ·exact(hs.lt b (hO b hb)).2 h
      ·have:=(hs.lt b (hO b hb)).1;omega
    ·cases h
   ·cases h
  ·cases h
 ·
  split at h
  ·rename_i hcl;simp only[Bool.and_eq_true,Bool.not_eq_true']at hcl;rw[rX args hcl.2]at h hcl;split at h
   ·rename_i r Hn c hcall;split at h
    ·rename_i r' nE hr C2;simp only[Option.some.injEq,Prod.mk.injEq]at h;obtain⟨rfl,rfl,rfl,rfl⟩:=h;obtain⟨hf,gG⟩:=hc.1 _ _ _ _ _ hcall;refine⟨hf,?_⟩;have hs1:aD cx.D [] S w ([]:List (Ob K)):=⟨rfl,fun _ _ _ h=>by simp at h,fun _ _ _ _ _ _ _ h=>by simp at h,fun b ⟨_,_,_,h,_⟩=>by simp at h,hs.slt,hs.base⟩;refine(gG [] S w vals hs1 (ha.closed hD hcl.1)).mono ?_
     rintro e w' ⟨u,ρn,S',rfl,h1,h2,h3⟩
     have hbm:dB [] H.length Hn.length=(List.range Hn.length).map (H.length+·):=by simp[dB]
     have:=join hD hs (m:=[]) rfl (ρi:=[]) (Hi:=[]) (fun i h hi=>by simp at hi) rfl (fun i h o hi=>by simp at hi) hs1 h1 h3 (Nat.zero_le _) (dH:=nE) (by rw[hbm];exact C2);obtain⟨j1,j2,j3⟩:=this;simp only[eu,List.length_nil,List.drop_zero]at j1 j2 j3;rw[hbm]at j3;exact⟨u,_,S',rfl,j1,lS hD j3 r r' u hr h2,j2⟩
    ·cases h
   ·cases h
  ·cases h
 ·
  split at h
  ·rename_i hcl;split at h
   ·rename_i r Hn c hcall;split at h
    ·rename_i hfl;simp only[Bool.and_eq_true,Bool.not_eq_true',List.all_eq_true]at hfl;split at h
     ·rename_i r' nE hr C2;simp only[Option.some.injEq,Prod.mk.injEq]at h;obtain⟨rfl,rfl,rfl,rfl⟩:=h;obtain⟨hf,gG⟩:=hc.1 _ _ _ _ _ hcall;refine⟨hf,?_⟩;have ha1:=(rW hD hs args vals ha).closed (ρ':=[]) hD hcl;have hs1:aD cx.D [] (fun b=>S b\/Own cx.D w ρ H b) w ([]:List (Ob K)):=⟨rfl,fun _ _ _ h=>by simp at h,fun _ _ _ _ _ _ _ h=>by simp at h,fun b ⟨_,_,_,h,_⟩=>by simp at h,fun b hb=>hb.elim (hs.slt b) fun h=>(hs.lt b h).1,cx.D.base.mono (fun _ h=>.inl h) (fun _ _=>rfl) hs.base⟩;have hs0:aD cx.D [] S w ([]:List (Ob K)):=⟨rfl,fun _ _ _ h=>by simp at h,fun _ _ _ _ _ _ _ h=>by simp at h,fun b ⟨_,_,_,h,_⟩=>by simp at h,hs.slt,hs.base⟩;refine(gG [] _ w vals hs1 ha1).mono ?_
      rintro e w' ⟨u,ρn,S',rfl,h1,h2,h3⟩
      have hown:∀b,Own cx.D w' ρn Hn b->w.heap.size<=b:=fun b hb=>(h3.own b hb).resolve_left fun⟨_,_,_,h,_⟩=>by simp at h
      have hn:aD cx.D ρn S w' Hn:=by
       refine⟨h1.len,fun k o rr g1 g2=>?_,h1.ct,fun b hb=>⟨(h1.lt b hb).1,fun hS=>?_⟩,fun b hb=>Nat.lt_of_lt_of_le (hs.slt b hb) h3.size,cx.D.base.mono (fun _ h=>h) (fun b hb=>h3.old b (hs.slt b hb) fun⟨_,_,_,h,_⟩=>by simp at h) hs.base⟩
       ·have:=h1.ob k o rr g1 g2;have hfo:=hfl.2 o (List.mem_of_getElem? g1);cases o with
        |arr c l=>
         simp only[lA,Bool.not_eq_true']at hfo;rcases this with this|⟨b,o,cap,vs,T,fr,e,q1,q2,q3,q4,q5⟩
         ·exact .inl this
         ·exact .inr ⟨b,o,cap,vs,T,fr,e,q1,q2,q3,q4,fun i x hx=>rU _ _ (by rw[hD.flat];exact hfo) (q5 i x hx)⟩
        |tree c l=>exact this
        |bf=>exact this
        |_=>cases hfo
       ·have:=hown b hb;have:=hs.slt b hS;omega
      have st:Step cx.D ([]:List (Ob K)).length [] S [] w ρn S Hn w':=⟨h3.os,h3.tape,h3.output,h3.size,h3.old,h3.own,fun _ h=>h,fun _ h=>.inl h,h3.pre⟩;have hbm:dB [] H.length Hn.length=(List.range Hn.length).map (H.length+·):=by simp[dB]
      have:=join hD hs (m:=[]) rfl (ρi:=[]) (Hi:=[]) (fun i h hi=>by simp at hi) rfl (fun i h o hi=>by simp at hi) hs0 hn st (Nat.zero_le _) (dH:=nE) (by rw[hbm];exact C2);obtain⟨j1,j2,j3⟩:=this;simp only[eu,List.length_nil,List.drop_zero]at j1 j2 j3;rw[hbm]at j3;exact⟨u,_,S,rfl,j1,lS hD j3 r r' u hr (fb r u hfl.1 h2),j2⟩
     ·cases h
    ·cases h
   ·cases h
  ·cases h
 ·cases h
 ·cases h
 ·
  split at h
  ·cases h
  ·rename_i hp;simp only[Bool.not_eq_true',Bool.not_eq_false]at hp;split at h
   ·rename_i args' Hi hargs hHi;split at h
    ·rename_i r Ho c hcall;split at h
     ·rename_i r' dH hr C3;split at h
      ·rename_i hle;simp only[Option.some.injEq,Prod.mk.injEq]at h;obtain⟨rfl,rfl,rfl,rfl⟩:=h;obtain⟨hf,gG⟩:=hc.1 _ _ _ _ _ hcall;refine⟨hf,?_⟩;obtain⟨s1,s2,s3,s4⟩:=OB hD hs hp hHi;refine(gG _ S w vals s1 (rY hD s4 args args' vals hargs ha)).mono ?_
       rintro e w' ⟨u,ρo,So,rfl,h1,h2,h3⟩
       have hbm:dB (reach H 64 (bg args) []) H.length Ho.length=reach H 64 (bg args) []++(List.range (Ho.length-Hi.length)).map (H.length+·):=by simp[dB,s2]
       obtain⟨lT,-⟩:=uj _ hp;have:=join hD hs hp (ρi:=lU ρ (reach H 64 (bg args) [])) (CZ fun i h hi=>by rw[hs.len];exact lT i h hi) s2 s3 s1 h1 h3 hle (dH:=dH) (by rw[hbm];exact C3);obtain⟨j1,j2,j3⟩:=this;rw[hbm]at j3;rw[s2];exact⟨u,_,So,rfl,j1,lS hD j3 r r' u hr h2,j2⟩
      ·cases h
     ·cases h
    ·cases h
   ·cases h
theorem xo{cx:Cx K}(hD:aX cx.D)(hc:aE cx)(hs:aD cx.D ρ S w H){m:Mode}{f:FuncId}{args:List (AV K)}{vals:List Value}{v:AV K}{H':List (Ob K)}{t:List Nat}
 (h:nF cx m H f args=some (v,H',true,t)) (ha:aI cx.D ρ S w args vals):
 l3 cx.P f/\Calls cx.P f vals.toArray w fun e w'=>∃u ρ' S',e=.returned u/\aD cx.D ρ' S' w' H'/\Rep cx.D ρ' S' w' v u/\Step cx.D H.length ρ S H w ρ' S' H' w':=by
 obtain⟨S1,g1,g2,g3⟩:=w8 (n0:=H.length) (bg args) hs;obtain⟨hf,gG⟩:=rZ hD hc g1 h (ud g1 _ _ (ha.mono g2.s1 (fun _ _=>rfl) (fun _ _ h=>h)));refine⟨hf,gG.mono ?_⟩
 rintro e w' ⟨u,ρ',S',rfl,h1,h2,h3⟩
 rw[g3]at h3;exact⟨u,ρ',S',rfl,h1,h2,g2.trans h3⟩
theorem OC{cx:Cx K}(hD:aX cx.D)(hc:aE cx)(hs:aD cx.D ρ S w H){q:Bool}{f:FuncId}{args:List (AV K)}{vals:List Value}{v:AV K}{H':List (Ob K)}{t:List Nat}
 (h:jP q cx H f args=some (v,H',true,t)) (ha:aI cx.D ρ S w args vals):
 l3 cx.P f/\Calls cx.P f vals.toArray w fun e w'=>∃u ρ' S',e=.returned u/\aD cx.D ρ' S' w' H'/\Rep cx.D ρ' S' w' v u/\Step cx.D H.length ρ S H w ρ' S' H' w':=by
 unfold jP at h;split at h
 ·exact rZ hD hc hs h ha
 ·split at h
  ·rename_i r hr;simp only[Option.some.injEq]at h;subst h;exact rZ hD hc hs hr ha
  ·split at h
   ·cases h
   ·exact xo hD hc hs h ha
 ·split at h
  ·cases h
  ·exact xo hD hc hs h ha
 ·split at h
  ·cases h
  ·exact rZ hD hc hs h ha
 ·split at h
  ·cases h
  ·exact xo hD hc hs h ha
 ·split at h
  ·cases h
  ·split at h
   ·rename_i r hr;simp only[Option.some.injEq]at h;subst h;exact rZ hD hc hs hr ha
   ·split at h
    ·rename_i r hr;simp only[Option.some.injEq]at h;subst h;exact rZ hD hc hs hr ha
    ·exact xo hD hc hs h ha
end Go.V
namespace Go.V
open Go
variable {K :bL}{D:aT K}{ρ ρ':List Value}{S S':Nat->Prop}{w w':World}{H H':List (Ob K)}
structure eM (D:aT K) (w:World) (v:AV K) (u:Value) (G:Nat->Prop):Prop where
 flat:v.gz=false->dA v=false/\Rep D [] (fun _=>False) w v u
 kid:∀(c:K.U)(l:List (K.El c)),v=.au c l->Tree D w c l u/\∀k,bS D w c l u k->G k
theorem eM.mono{v:AV K}{u:Value}{G G':Nat->Prop}(h:eM D w v u G)(hG:∀k,G k->G' k):eM D w v u G':=
 ⟨h.flat,fun c l e=>⟨(h.kid c l e).1,fun k hk=>hG k ((h.kid c l e).2 k hk)⟩⟩
theorem eM.world{v:AV K}{u:Value}{G:Nat->Prop}(h:eM D w v u G)(hw:∀k,G k->w'.heap[k]?=w.heap[k]?):eM D w' v u G:=
 ⟨fun hv=>⟨(h.flat hv).1,(h.flat hv).2.mono (fun _ h=>h) (fun _ h=>h.elim) (fun _ _ h=>h)⟩,fun c l e=>by
   obtain⟨h1,h2⟩:=h.kid c l e;have hk:∀k,bS D w c l u k->w'.heap[k]?=w.heap[k]?:=fun k hk=>hw k (h2 k hk)
   exact⟨h1.mono hk,fun k hk'=>h2 k (hk'.old hk)⟩⟩
structure Row (D:aT K) (w:World) (c:K.U) (l:List (K.El c)) (us:List Value) (F:Nat->Nat->Nat->Prop):Prop where
 len:us.length=l.length*K.sz c
 cell:∀i x,l[i]?=some x->∀(j:Nat) v u,(D.cells c x)[j]?=some v->us[i*K.sz c+j]?=some u->eM D w v u (F i j)
 um:∀i j i2 j2 k,F i j k->F i2 j2 k->i=i2/\j=j2
theorem Row.world{c:K.U}{l:List (K.El c)}{us:List Value}{F:Nat->Nat->Nat->Prop}(h:Row D w c l us F)(hw:∀i j k,F i j k->w'.heap[k]?=w.heap[k]?):Row D w' c l us F:=
 ⟨h.len,fun i x hx j v u hv hu=>(h.cell i x hx j v u hv hu).world (hw i j),h.um⟩
theorem r7{vs:Array Value}{p n j:Nat}(h:j<n):(bz vs p n)[j]?=vs.toList[p+j]?:=by
 simp only[bz,List.getElem?_take,List.getElem?_drop,if_pos h]
theorem iS{i j n sz:Nat}(hi:i<n)(hj:j<sz):i*sz+j<n*sz:=by
 have:(i+1)*sz<=n*sz:=Nat.mul_le_mul_right _ hi;rw[Nat.add_mul,Nat.one_mul]at this;omega
theorem Row.tree(hD:aX D){c:K.U}{l:List (K.El c)}{us:List Value}{F:Nat->Nat->Nat->Prop}(R:Row D w c l us F){b o cap:Nat}{vs:Array Value}{T:TypeId}{fr:Nat×Nat}(hb:w.heap[b]?=some (.cells vs T fr))(hcap:l.length<=cap/\lL D c T o fr)
 (hsz:o+cap*K.sz c<=vs.size) (hfr:∀k,o<=k->k<o+cap*K.sz c->¬(fr.1<=k/\k<fr.2)) (hus:∀k,k<l.length*K.sz c->vs.toList[o+k]?=us[k]?) (hF:∀i j,¬F i j b):
 Tree D w c l (.slice (some ⟨b,o,none⟩) l.length cap)/\∀k,bS D w c l (.slice (some ⟨b,o,none⟩) l.length cap) k->k=b\/∃i j,i<l.length/\F i j k:=by
 have hlc:l.length*K.sz c<=cap*K.sz c:=Nat.mul_le_mul_right _ hcap.1;have key:∀i x,l[i]?=some x->∀(j:Nat) v u,(D.cells c x)[j]?=some v->(bz vs (o+i*K.sz c) (K.sz c))[j]?=some u->eM D w v u (F i j):=fun i x hx j v u hv hu=>by
  have hj:j<K.sz c:=by rw[<-hD.len c x];exact(List.getElem?_eq_some_iff.1 hv).1
  have hi:=(List.getElem?_eq_some_iff.1 hx).1;rw[r7 hj,Nat.add_assoc,hus _ (iS hi hj)]at hu;exact R.cell i x hx j v u hv hu
 refine⟨.mk hb hcap hsz hfr (fun i x hx=>?_) (fun i x hx j v y hv hy hd=>(key i x hx j v y hv hy).flat hd) (fun i x hx j c' l' y hj hy=>((key i x hx j _ y hj hy).kid c' l' rfl).1)
  (fun i x hx j c' l' y hj hy hf=>hF i j (((key i x hx j _ y hj hy).kid c' l' rfl).2 _ hf))
  (fun i x hx j c' l' y hj hy i2 x2 hx2 j2 c2 l2 y2 hj2 hy2 k h1 h2=>R.um i j i2 j2 k (((key i x hx j _ y hj hy).kid c' l' rfl).2 _ h1) (((key i2 x2 hx2 j2 _ y2 hj2 hy2).kid c2 l2 rfl).2 _ h2)),fun k hk=>?_⟩
 ·rw[hD.len];have hi:=(List.getElem?_eq_some_iff.1 hx).1;have:(i+1)*K.sz c<=l.length*K.sz c:=Nat.mul_le_mul_right _ hi;rw[Nat.add_mul,Nat.one_mul]at this;simp[bz];omega
 ·cases hk with
  |here=>exact .inl rfl
  | @kid _ _ _ _ _ _ i j _ x c' l' y hx hj hy hk=>
    have hj':j<K.sz c:=by rw[<-hD.len c x];exact(List.getElem?_eq_some_iff.1 hj).1
    have hi:=(List.getElem?_eq_some_iff.1 hx).1;have hlt:=iS hi hj';have hs:(bz vs (o+i*K.sz c) (K.sz c))[j]?=some y:=by
     rw[r7 hj'];simp only[World.cell?,hb]at hy;simpa using hy
    exact .inr ⟨i,j,hi,((key i x hx j _ y hj hs).kid c' l' rfl).2 k hk⟩
theorem Tree.row(hD:aX D){c:K.U}{l:List (K.El c)}{r:Value}(h:Tree D w c l r):(r=.slice none 0 0/\l=[])\/∃b o cap vs T fr us F,r=.slice (some ⟨b,o,none⟩) l.length cap/\w.heap[b]?=some (.cells vs T fr)/\(l.length<=cap/\lL D c T o fr)/\o+cap*K.sz c<=vs.size/\
 (∀k,o<=k->k<o+cap*K.sz c->¬(fr.1<=k/\k<fr.2))/\(∀k,k<l.length*K.sz c->vs.toList[o+k]?=us[k]?)/\Row D w c l us F/\(∀i j,¬F i j b)/\∀i j k,F i j k->bS D w c l r k:=by
 cases h with
 |nil=>exact .inl ⟨rfl,rfl⟩
 | @mk _ _ b o cap vs T fr hb hcap hsz hfr hlen dR gA hself hdis=>
   have hlc:l.length*K.sz c<=cap*K.sz c:=Nat.mul_le_mul_right _ hcap.1;have hus:∀k,k<l.length*K.sz c->vs.toList[o+k]?=((vs.toList.drop o).take (l.length*K.sz c))[k]?:=fun k hk=>by
    simp only[List.getElem?_take,List.getElem?_drop,if_pos hk]
   have hseg:∀{i j:Nat}{x:K.El c}{v:AV K}{u:Value},l[i]?=some x->(D.cells c x)[j]?=some v->((vs.toList.drop o).take (l.length*K.sz c))[i*K.sz c+j]?=some u->(bz vs (o+i*K.sz c) (K.sz c))[j]?=some u:=fun{i j x v u} hx hv hu=>by
    have hj:j<K.sz c:=by rw[<-hD.len c x];exact(List.getElem?_eq_some_iff.1 hv).1
    have hi:=(List.getElem?_eq_some_iff.1 hx).1;rw[<-hus _ (iS hi hj),<-Nat.add_assoc]at hu;rw[r7 hj];exact hu
   refine .inr ⟨b,o,cap,vs,T,fr,_,fun i j k=>∃x c' l' u,l[i]?=some x/\(D.cells c x)[j]?=some (.au c' l')/\(bz vs (o+i*K.sz c) (K.sz c))[j]?=some u/\bS D w c' l' u k,rfl,hb,hcap,hsz,hfr,hus,⟨?_,?_,?_⟩,?_,?_⟩
   ·simp;omega
   ·intro i x hx j v u hv hu;have hs:=hseg hx hv hu;exact⟨fun hd=>dR i x hx j v u hv hs hd,fun c' l' e=>by subst e;exact⟨gA i x hx j c' l' u hv hs,fun k hk=>⟨x,c',l',u,hx,hv,hs,hk⟩⟩⟩
   ·rintro i j i2 j2 k ⟨x,c',l',u,h1,h2,h3,h4⟩ ⟨x2,c2,l2,u2,g1,g2,g3,g4⟩
    exact hdis i x h1 j c' l' u h2 h3 i2 x2 g1 j2 c2 l2 u2 g2 g3 k h4 g4
   ·rintro i j ⟨x,c',l',u,h1,h2,h3,h4⟩
    exact hself i x h1 j c' l' u h2 h3 h4
   ·rintro i j k ⟨x,c',l',u,h1,h2,h3,h4⟩
    exact .kid h1 h2 (seg_cell hb h3) h4
theorem Row.append(hD:aX D){c:K.U}{l1 l2:List (K.El c)}{OD OE:List Value}{F1 F2:Nat->Nat->Nat->Prop}(R1:Row D w c l1 OD F1)(R2:Row D w c l2 OE F2)(hd:∀i j i2 j2 k,F1 i j k->F2 i2 j2 k->False):
 Row D w c (l1++l2) (OD++OE) (fun i j k=>(i<l1.length/\F1 i j k)\/(l1.length<=i/\F2 (i-l1.length) j k)):=by
 refine⟨by rw[List.length_append,R1.len,R2.len,List.length_append,Nat.add_mul],fun i x hx j v u hv hu=>?_,?_⟩
 ·have hj:j<K.sz c:=by rw[<-hD.len c x];exact(List.getElem?_eq_some_iff.1 hv).1
  by_cases hi:i<l1.length
  ·rw[List.getElem?_append_left hi]at hx;have:=iS hi hj;rw[List.getElem?_append_left (by rw[R1.len];exact this)]at hu;exact(R1.cell i x hx j v u hv hu).mono fun k hk=>.inl ⟨hi,hk⟩
  ·rw[List.getElem?_append_right (by omega)]at hx;have h1:l1.length*K.sz c<=i*K.sz c:=Nat.mul_le_mul_right _ (by omega);have h2:i*K.sz c+j-l1.length*K.sz c=(i-l1.length)*K.sz c+j:=by rw[Nat.sub_mul];omega
   rw[List.getElem?_append_right (by rw[R1.len];omega),R1.len,h2]at hu;exact(R2.cell _ x hx j v u hv hu).mono fun k hk=>.inr ⟨by omega,hk⟩
 ·rintro i j i2 j2 k (⟨h1,h2⟩|⟨h1,h2⟩) (⟨g1,g2⟩|⟨g1,g2⟩)
  ·exact R1.um _ _ _ _ _ h2 g2
  ·exact(hd _ _ _ _ _ h2 g2).elim
  ·exact(hd _ _ _ _ _ g2 h2).elim
  ·have:=R2.um _ _ _ _ _ h2 g2;exact⟨by omega,this.2⟩
theorem Row.set(hD:aX D){c:K.U}{l:List (K.El c)}{us:List Value}{F:Nat->Nat->Nat->Prop}(R:Row D w c l us F){i off:Nat}{x0 y:K.El c}{xs:List Value}{G:Nat->Nat->Prop}(hx0:l[i]?=some x0)(hoff:off+xs.length<=K.sz c)
 (hout:∀j,(j<off\/off+xs.length<=j)->(D.cells c y)[j]?=(D.cells c x0)[j]?) (hin:∀j v u,(D.cells c y)[off+j]?=some v->xs[j]?=some u->eM D w v u (G j)) (hG:∀j j2 k,G j k->G j2 k->j=j2) (hGF:∀j i2 j2 k,G j k->¬F i2 j2 k):
 Row D w c (l.set i y) (df us (i*K.sz c+off) xs) (fun i2 j k=>(i2=i/\off<=j/\j<off+xs.length/\G (j-off) k)\/(¬(i2=i/\off<=j/\j<off+xs.length)/\F i2 j k)):=by
 have hi:=(List.getElem?_eq_some_iff.1 hx0).1;have hmul:(i+1)*K.sz c<=l.length*K.sz c:=Nat.mul_le_mul_right _ hi;rw[Nat.add_mul,Nat.one_mul]at hmul;refine⟨by rw[iH,R.len,List.length_set],fun i2 x hx j v u hv hu=>?_,?_⟩
 ·have hj:j<K.sz c:=by rw[<-hD.len c x];exact(List.getElem?_eq_some_iff.1 hv).1
  rw[gC _ _ _ _ (by rw[R.len];omega)]at hu;rcases cI hx with⟨rfl,rfl,-⟩|⟨hne,hx⟩
  ·by_cases hc:off<=j/\j<off+xs.length
   ·rw[if_pos (by omega)]at hu;have e1:i2*K.sz c+j-(i2*K.sz c+off)=j-off:=by omega
    rw[e1]at hu;have e2:off+(j-off)=j:=by omega
    exact(hin (j-off) v u (by rw[e2];exact hv) hu).mono fun k hk=>.inl ⟨rfl,hc.1,hc.2,hk⟩
   ·rw[if_neg (by omega)]at hu;rw[hout j (by omega)]at hv;exact(R.cell i2 x0 hx0 j v u hv hu).mono fun k hk=>.inr ⟨fun h=>hc ⟨h.2.1,h.2.2⟩,hk⟩
  ·rw[if_neg ?_]at hu
   ·exact(R.cell i2 x hx j v u hv hu).mono fun k hk=>.inr ⟨fun h=>hne h.1,hk⟩
   ·rcases Nat.lt_or_ge i2 i with h|h
    ·have:(i2+1)*K.sz c<=i*K.sz c:=Nat.mul_le_mul_right _ (by omega);rw[Nat.add_mul,Nat.one_mul]at this;omega
    ·have:(i+1)*K.sz c<=i2*K.sz c:=Nat.mul_le_mul_right _ (by omega);rw[Nat.add_mul,Nat.one_mul]at this;omega
 ·rintro i1 j1 i2 j2 k (⟨h1,h2,h3,h4⟩|⟨h1,h2⟩) (⟨g1,g2,g3,g4⟩|⟨g1,g2⟩)
  ·have:=hG _ _ _ h4 g4;exact⟨by omega,by omega⟩
  ·exact(hGF _ _ _ _ h4 g2).elim
  ·exact(hGF _ _ _ _ g4 h2).elim
  ·exact R.um _ _ _ _ _ h2 g2
end Go.V
namespace Go.V
open Go
variable {K :bL}{D:aT K}{ρ ρ':List Value}{S S':Nat->Prop}{w w':World}{H H':List (Ob K)}
theorem sd:∀(ks:List Nat)(H:List (Ob K)),(cR H ks).length=H.length
 |[],H=>rfl
 |h::r,H=>by rw[cR,sd r];simp
theorem xp:∀(ks:List Nat)(H:List (Ob K))(k:Nat)(o:Ob K),(cR H ks)[k]?=some o->o=.dead\/(k∉ks/\H[k]?=some o)
 |[],H,k,o,h=>.inr ⟨by simp,h⟩
 |x::r,H,k,o,h=>by
  rcases xp r _ k o h with h|⟨h1,h2⟩
  ·exact .inl h
  ·rcases cI h2 with⟨-,rfl,-⟩|⟨hne,h2⟩
   ·exact .inl rfl
   ·exact .inr ⟨by simp[hne,h1],h2⟩
theorem xq:∀(ks:List Nat){H:List (Ob K)},aD D ρ S w H->aD D ρ S w (cR H ks)
 |[],H,hs=>hs
 |h::r,H,hs=>xq r (hs.kill h)
theorem OF{ks:List Nat}{b:Nat}(hb:Own D w ρ (cR H ks) b):∃(h:Nat)(o:Ob K)(r:Value),h∉ks/\H[h]?=some o/\o.live=true/\ρ[h]?=some r/\bj D w o r b:=by
 obtain⟨h,o,r,h1,h2,h3,h4⟩:=hb;rcases xp ks H h o h1 with rfl|⟨g1,g2⟩
 ·cases h2
 ·exact⟨h,o,r,g1,g2,h2,h3,h4⟩
def dh(D:aT K)(w:World)(ρ:List Value)(H:List (Ob K))(ks:List Nat)(b:Nat):Prop:=∃(h:Nat)(o:Ob K)(r:Value),h∈ks/\H[h]?=some o/\o.live=true/\ρ[h]?=some r/\bj D w o r b
theorem dh.own{ks:List Nat}{b:Nat}(h:dh D w ρ H ks b):Own D w ρ H b:=by
 obtain⟨h,o,r,-,h1,h2,h3,h4⟩:=h;exact⟨h,o,r,h1,h2,h3,h4⟩
theorem dh.uo(hs:aD D ρ S w H){ks:List Nat}{b:Nat}(h:dh D w ρ H ks b):¬Own D w ρ (cR H ks) b:=fun hb=>by
 obtain⟨k,o,r,h0,h1,h2,h3,h4⟩:=h;obtain⟨k',o',r',g0,g1,g2,g3,g4⟩:=OF hb;have:=hs.ct k k' o o' r r' b h1 h2 h3 h4 g1 g2 g3 g4;subst this;exact g0 h0
theorem C4{ks:List Nat}{b:Nat}(hb:Own D w ρ (cR H ks) b):Own D w ρ H b:=by
 obtain⟨h,o,r,-,h1,h2,h3,h4⟩:=OF hb;exact⟨h,o,r,h1,h2,h3,h4⟩
theorem uu{P:Program}(hs:aD D ρ S w H){ks:List Nat}{c:K.U}{l:List (K.El c)}{a:Option Addr}{n cp:Nat}{s:Sem Next}(hrun:s.run P w=.ok (.value (.slice a n cp)) w')
 (hsz:w.heap.size<=w'.heap.size) (hold:∀k,k<w.heap.size->¬dh D w ρ H ks k->w'.heap[k]?=w.heap[k]?) (e1:w'.os=w.os) (e2:w'.tape=w.tape) (e3:w'.output=w.output)
 (hT:Tree D w' c l (.slice a n cp)) (hf:∀k,bS D w' c l (.slice a n cp) k->dh D w ρ H ks k\/w.heap.size<=k):Does D P ρ S H w s (.sl H.length) (cR H ks++[.tree c l]):=by
 have hs1:=xq ks hs;have hk1:∀k,Own D w ρ (cR H ks) k->w'.heap[k]?=w.heap[k]?:=fun k hk=>hold k (hs1.lt k hk).1 fun h=>h.uo hs hk
 have hS:∀k,S k->w'.heap[k]?=w.heap[k]?:=fun k hk=>hold k (hs.slt k hk) fun h=>(hs.lt k h.own).2 hk
 have hs2:aD D ρ S w' (cR H ks):=hs1.world hsz hk1 hS;have hlen:(cR H ks).length=H.length:=sd ks H;refine⟨_,_,w',ρ++[.slice a n cp],hrun,.inl rfl,hs2.push (o:=.tree c l) (r:=.slice a n cp) hT (fun k _ hk=>⟨hT.lt hk,fun xr=>?_,fun hO=>?_⟩),.sl ?_,⟨e1,e2,e3,hsz,fun k hk hno=>hold k hk fun h=>hno h.own,fun k hk=>?_,fun _ h=>h,fun _ h=>.inl h,fun k hk=>?_⟩⟩
 ·rcases hf k hk with h|h
  ·exact(hs.lt k h.own).2 xr
  ·have:=hs.slt k xr;omega
 ·have OG:=hO.old hk1;rcases hf k hk with h|h
  ·exact h.uo hs OG
  ·have:=(hs1.lt k OG).1;omega
 ·rw[List.getElem?_append_right (by rw[hs.len];exact Nat.le_refl _)];simp[hs.len]
 ·rcases rO (by rw[hs.len,hlen]) hk with h|⟨-,h⟩
  ·exact .inl (C4 (h.old hk1))
  ·rcases hf k h with h|h
   ·exact .inl h.own
   ·exact .inr h
 ·rw[List.getElem?_append_left (by rw[hs.len];exact hk)]
theorem OH{P:Program}(hs:aD D ρ S w H){h:Nat}{ks:List Nat}{o:Ob K}{r:Value}{c:K.U}{l':List (K.El c)}{s:Sem Next}(ho:H[h]?=some o)(hl:o.live=true)(hr:ρ[h]?=some r)(hrun:s.run P w=.ok .skip w')
 (hsz:w'.heap.size=w.heap.size) (hold:∀k,¬dh D w ρ H (h::ks) k->w'.heap[k]?=w.heap[k]?) (e1:w'.os=w.os) (e2:w'.tape=w.tape) (e3:w'.output=w.output)
 (hT:Tree D w' c l' r) (hf:∀k,bS D w' c l' r k->dh D w ρ H (h::ks) k):Does D P ρ S H w s .any ((cR H (h::ks)).set h (.tree c l')):=by
 have hs1:=xq (h::ks) hs;have hk1:∀k,Own D w ρ (cR H (h::ks)) k->w'.heap[k]?=w.heap[k]?:=fun k hk=>hold k fun h=>h.uo hs hk
 have hS:∀k,S k->w'.heap[k]?=w.heap[k]?:=fun k hk=>hold k fun h=>(hs.lt k h.own).2 hk
 have hs2:aD D ρ S w' (cR H (h::ks)):=hs1.world (by omega) hk1 hS;have hlt:h<H.length:=(List.getElem?_eq_some_iff.1 ho).1;have hd:(cR H (h::ks))[h]?=some .dead:=by
  have hlt':h<(cR H (h::ks)).length:=by rw[sd];exact hlt
  have hg:=List.getElem?_eq_getElem hlt';rcases xp _ _ _ _ hg with e|⟨hn,-⟩
  ·rw[hg,e]
  ·exact absurd (by simp) hn
 refine⟨.skip,undef,w',ρ,hrun,.inr ⟨rfl,rfl⟩,hs2.B9 hd hr hT fun k hk=>⟨hT.lt hk,fun xr=>(hs.lt k (hf k hk).own).2 xr,fun hO=>(hf k hk).uo hs (hO.old hk1)⟩,.any _,⟨e1,e2,e3,by omega,fun k hk hno=>hold k fun h=>hno h.own,fun k hk=>?_,fun _ h=>h,fun _ h=>.inl h,fun k hk=>rfl⟩⟩;obtain⟨k',o',r',g1,g2,g3,g4⟩:=hk;rcases cI g1 with⟨rfl,rfl,-⟩|⟨-,g1⟩
 ·rw[hr]at g3;simp at g3;subst g3;exact .inl (hf k g4).own
 ·exact .inl (C4 (Own.old (H:=cR H (h::ks)) ⟨k',o',r',g1,g2,g3,g4⟩ hk1))
def j7(D:aT K)(w:World)(ρ:List Value)(H:List (Ob K))(v:AV K)(k:Nat):Prop:=∃(h:Nat)(o:Ob K)(r:Value),v=.sl h/\H[h]?=some o/\o.live=true/\ρ[h]?=some r/\bj D w o r k
theorem xt(hD:aX D)(hs:aD D ρ S w H){v v':AV K}{u:Value}(h:wQ D H v=some v')(hr:Rep D ρ S w v u):eM D w v' u (j7 D w ρ H v)/\(v'=.bO->u=.slice none 0 0):=by
 unfold wQ at h;split at h
 ·rename_i h0;split at h
  ·rename_i c l ho;obtain⟨hp,a,n,cp,rfl⟩:=rS hs (.inl ho) hr;split at h
   ·cases h
   ·rename_i hfl;simp only[Option.some.injEq]at h;subst h;simp only[Bool.not_eq_true]at hfl;refine⟨⟨fun e=>(by cases e),fun c' l' e=>?_⟩,fun e=>by cases e⟩;cases e;have xu:∀x (j:Nat) c' l',(D.cells c x)[j]?≠some (.au c' l'):=fun x j c' l' hj=>by
     have:bM (D.cells c x)=true:=by
      have hm:=List.mem_of_getElem? hj;generalize D.cells c x=L at hm
      induction L with
      |nil=>cases hm
      |cons a r ih=>
       simp only[bM,Bool.or_eq_true];rcases List.mem_cons.1 hm with rfl|hm
       ·exact .inl rfl
       ·exact .inr (ih hm)
     rw[hD.flat]at this;rw[this]at hfl;cases hfl
    rcases lN hs ho hp with⟨e,rfl⟩|⟨b,o,cap,vs,T,fr,e,hblk,⟨hcap,bZ⟩,hsz,hfr,hall⟩
    ·cases e;exact⟨.nil,fun k hk=>by cases hk⟩
    ·cases e;refine⟨.mk hblk ⟨hcap,bZ⟩ hsz hfr (fun i x hx=>(hall i x hx).1) (fun i x hx j v y hv hy hd=>⟨(hD.kinds c x j v hv).2 hd,CQ v y (nO (hD.closed c x) hv) ((hD.kinds c x j v hv).2 hd) ((hall i x hx).2 j v y hv hy)⟩)
      (fun i x hx j c' l' y hj=>absurd hj (xu x j c' l')) (fun i x hx j c' l' y hj=>absurd hj (xu x j c' l')) (fun i x hx j c' l' y hj=>absurd hj (xu x j c' l')),fun k hk=>?_⟩
     cases hk with
     |here=>exact⟨h0,_,_,rfl,ho,rfl,hp,rfl⟩
     |kid hx hj hy hk=>exact absurd hj (xu _ _ _ _)
  ·rename_i c l ho;obtain⟨hp,a,n,cp,rfl⟩:=rS hs (.inr (.inr ho)) hr;simp only[Option.some.injEq]at h;subst h;refine⟨⟨fun e=>(by cases e),fun c' l' e=>?_⟩,fun e=>by cases e⟩;cases e;exact⟨hs.ob _ _ _ ho hp,fun k hk=>⟨h0,_,_,rfl,ho,rfl,hp,hk⟩⟩
  ·cases h
 ·simp only[Option.some.injEq]at h;subst h;have hu:u=.slice none 0 0:=by cases hr;rfl
  exact⟨⟨fun _=>⟨rfl,by rw[hu];exact .bO⟩,fun c l e=>by cases e⟩,fun _=>hu⟩
 ·simp only[Option.some.injEq]at h;subst h;exact⟨⟨fun _=>⟨rfl,by rw[cg hr];exact .int _ _⟩,fun c l e=>by cases e⟩,fun e=>by cases e⟩
 ·simp only[Option.some.injEq]at h;subst h;exact⟨⟨fun _=>⟨rfl,by rw[eP hr];exact .bool _⟩,fun c l e=>by cases e⟩,fun e=>by cases e⟩
 ·simp only[Option.some.injEq]at h;subst h;exact⟨⟨fun _=>⟨rfl,by rw[fV hr];exact .str _⟩,fun c l e=>by cases e⟩,fun e=>by cases e⟩
 ·simp only[Option.some.injEq]at h;subst h;have hu:u=.pointer none:=by cases hr;rfl
  exact⟨⟨fun _=>⟨rfl,by rw[hu];exact .bN⟩,fun c l e=>by cases e⟩,fun e=>by cases e⟩
 ·cases h
theorem se:∀(l l':List (AV K)),fQ D H l=some l'->l'.length=l.length/\∀(j:Nat) v,l[j]?=some v->∃v',l'[j]?=some v'/\wQ D H v=some v'
 |[],l',h=>by simp[fQ]at h;subst h;exact⟨rfl,fun j v h=>by simp at h⟩
 |x::r,l',h=>by
  simp only[fQ]at h;split at h
  ·rename_i y s hy hs;simp only[Option.some.injEq]at h;subst h;obtain⟨g1,g2⟩:=se r s hs;refine⟨by simp[g1],fun j v hv=>?_⟩;cases j with
   |zero=>simp at hv;subst hv;exact⟨y,rfl,hy⟩
   |succ j=>simpa using g2 j v (by simpa using hv)
  ·cases h
theorem OI:∀(l l':List (AV K)),rG D H l=some l'->l'.length=l.length/\∀(i:Nat) v,l[i]?=some v->∃cs,l'[i]?=some (.agg cs)/\fQ D H v.aZ=some cs
 |[],l',h=>by simp[rG]at h;subst h;exact⟨rfl,fun j v h=>by simp at h⟩
 |x::r,l',h=>by
  simp only[rG]at h;split at h
  ·rename_i y s hy hs;simp only[Option.some.injEq]at h;subst h;obtain⟨g1,g2⟩:=OI r s hs;refine⟨by simp[g1],fun j v hv=>?_⟩;cases j with
   |zero=>simp at hv;subst hv;exact⟨y,rfl,hy⟩
   |succ j=>simpa using g2 j v (by simpa using hv)
  ·cases h
theorem OJ(hD:aX D)(hs:aD D ρ S w H){c:K.U}{xs cs:List (AV K)}{y:K.El c}(hg:fQ D H xs=some cs)(hdec:D.dec c cs=some (y,true)){us:List Value}(hr:aI D ρ S w xs us):
 ∀(j:Nat) v u,(D.cells c y)[j]?=some v->us[j]?=some u->∃x,xs[j]?=some x/\eM D w v u (j7 D w ρ H x):=fun j v u hv hu=>by
 obtain⟨g1,g2⟩:=se _ _ hg;obtain⟨d1,d2⟩:=hD.rN c cs y hdec;have hj:j<xs.length:=by rw[hr.1];exact(List.getElem?_eq_some_iff.1 hu).1
 have hx:=List.getElem?_eq_getElem hj;obtain⟨v',hv',hgc⟩:=g2 j _ hx;obtain⟨k1,k2⟩:=xt hD hs hgc (hr.2 j _ _ hx hu);refine⟨_,hx,?_⟩;rcases d2 j v' v hv' hv with rfl|⟨rfl,c',rfl⟩
 ·exact k1
 ·rw[k2 rfl];refine⟨fun e=>(by cases e),fun c l e=>?_⟩;cases e;exact⟨.nil,fun k hk=>by cases hk⟩
theorem sf:∀{l:List Nat},fp l=true->l.Nodup
 |[],_=>List.nodup_nil
 |x::r,h=>by
  simp only[fp,Bool.and_eq_true,Bool.not_eq_true',List.contains_eq_mem,decide_eq_false_iff_not]at h;exact List.nodup_cons.2 ⟨h.1,sf h.2⟩
theorem sg:∀{r:List (AV K)}{h i:Nat},r[i]?=some (.sl h)->h∈bg r
 |[],h,i,hi=>by simp at hi
 |x::s,h,i,hi=>by
  simp only[bg,List.mem_append];cases i with
  |zero=>simp at hi;subst hi;exact .inl (by simp[hands])
  |succ i=>exact .inr (sg (i:=i) (by simpa using hi))
theorem uv:∀{l:List (AV K)},(bg l).Nodup->∀{i j h:Nat},l[i]?=some (.sl h)->l[j]?=some (.sl h)->i=j
 |[],_,i,j,h,hi,_=>by simp at hi
 |v::r,hn,i,j,h,hi,hj=>by
  simp only[bg]at hn;obtain⟨n1,n2,n3⟩:=List.nodup_append.1 hn;have hin:∀{i:Nat},r[i]?=some (.sl h)->h∈bg r:=fun{i} hi=>sg hi
  cases i with
  |zero=>
   simp at hi;subst hi;cases j with
   |zero=>rfl
   |succ j=>exact absurd rfl (n3 h (by simp[hands]) h (hin (by simpa using hj)))
  |succ i=>
   cases j with
   |zero=>simp at hj;subst hj;exact absurd rfl (n3 h (by simp[hands]) h (hin (by simpa using hi)))
   |succ j=>exact congrArg (· +1) (uv (h:=h) n2 (by simpa using hi) (by simpa using hj))
theorem C5(v:AV K):bg v.aZ=hands v:=by
 cases v<;>simp[AV.aZ,bg,hands]
theorem C6:∀(l:List (AV K)),bg l=bg (l.map AV.aZ).flatten
 |[]=>rfl
 |v::r=>by
  simp only[bg,List.map_cons,List.flatten_cons];have app:∀(a b:List (AV K)),bg (a++b)=bg a++bg b:=fun a b=>by
   induction a with
   |nil=>rfl
   |cons x s ih=>simp only[List.cons_append,bg,ih,List.append_assoc]
  rw[app,C5,C6 r]
end Go.V
namespace Go.V
open Go
variable {K :bL}{D:aT K}{ρ ρ':List Value}{S S':Nat->Prop}{w w':World}{H H':List (Ob K)}
theorem abT{P:Program}(hD:aX D)(hs:aD D ρ S w H){t e:TypeId}{c:K.U}{z:AV K}{zs:List (AV K)}{y:K.El c}{kl kc:IntKind}{n m:Int}(ht:elemOf? P t=some e)(hsz:bY P e=some (K.sz c))(hroom:room e P=true)
 (hz:zeroOf P e=some z) (hk:z.known=true) (hg:fQ D [] z.aZ=some zs) (hdec:D.dec c zs=some (y,true)) (h0:0<=n) (h1:n<=m) (h2:m<=1073741824) (bZ:eF D c e 0):
 Does D P ρ S H w (do pure (.value (<-Instr.makeSlice t (.int kl n) (.int kc m)))) (.sl H.length) (H++[.tree c (List.replicate n.toNat y)]):=by
 obtain⟨i,hi,hisz⟩:=j0 hsz;obtain⟨v,hv,hov⟩:=rV hz hi;have hb:=ug hroom hi;have hs0:aD D [] S w ([]:List (Ob K)):=⟨rfl,fun _ _ _ h=>by simp at h,fun _ _ _ _ _ _ _ h=>by simp at h,fun b ⟨_,_,_,h,_⟩=>by simp at h,hs.slt,hs.base⟩;have hrz:aI D [] S w z.aZ v.cells.toList:=fc (lO v z hov) hk;have hcell:=OJ hD hs0 hg hdec hrz;have hvs:v.cells.size=K.sz c:=by
  have h1:=hrz.1;have h2:=(hD.rN c zs y hdec).1;have h3:=(se _ _ hg).1;simp at h1;omega
 have hmul:(i.bytes:Int)*m<=4096*1073741824:=Int.mul_le_mul (by omega) h2 (by omega) (by omega);have hrun:=run_make (P:=P) w t e i v (dZ ht) hi hv kl kc n m h0 h1 (by omega) (by omega);rw[hisz]at hrun;have hmn:n.toNat<=m.toNat:=by omega
 have abU:n.toNat*K.sz c<=m.toNat*K.sz c:=Nat.mul_le_mul_right _ hmn
 let W:=w.alloc (.cells (madeCells v.cells (m.toNat*K.sz c)) e)
 have R:Row D W c (List.replicate n.toNat y) ((madeCells v.cells (m.toNat*K.sz c)).toList.take (n.toNat*K.sz c)) (fun _ _ _=>False):=by
  refine⟨by rw[List.length_take,Array.length_toList,size_madeCells,List.length_replicate,Nat.min_eq_left abU],fun k x hx j a u ha hu=>?_,fun _ _ _ _ _ h=>h.elim⟩;have hkn:k<n.toNat:=by have:=(List.getElem?_eq_some_iff.1 hx).1;simpa using this
  have hxy:x=y:=by
   rw[List.getElem?_replicate]at hx;split at hx
   ·simpa using hx.symm
   ·rename_i hn;exact absurd hkn hn
  subst hxy;have hj:j<K.sz c:=by rw[<-hD.len c x];exact(List.getElem?_eq_some_iff.1 ha).1
  rw[List.getElem?_take,if_pos (iS hkn hj)]at hu;have hu':v.cells.toList[j]?=some u:=by
   rw[<-CE hvs (show k<m.toNat by omega),r7 hj];exact hu
  obtain⟨x',-,hc⟩:=hcell j a u ha hu';have hF:∀k,¬j7 D w [] ([]:List (Ob K)) x' k:=fun k ⟨_,_,_,_,h,_⟩=>by simp at h
  exact(hc.mono (G':=fun _=>False) fun k hk=>hF k hk).world fun _ h=>h.elim
 obtain⟨T1,T2⟩:=R.tree hD (b:=w.heap.size) (o:=0) (cap:=m.toNat) (vs:=madeCells v.cells (m.toNat*K.sz c)) (T:=e) (fr:=(0,0)) (nV _ _) ⟨by simpa using hmn,bZ,Nat.le_refl _⟩ (by rw[size_madeCells];omega) (fun k _ _ hh=>by have:=hh.2;simp at this)
  (fun k hk=>by rw[List.length_replicate]at hk;rw[Nat.zero_add,List.getElem?_take,if_pos hk]) (fun _ _ h=>h)
 have hn:(List.replicate n.toNat y).length=n.toNat:=List.length_replicate;rw[hn]at T1 T2;exact uu hs (ks:=[]) (w':=W) (cN (f:=.value) hrun) (by simp[W]) (fun k hk _=>jj hk) rfl rfl rfl T1 fun k hk=>by
  rcases T2 k hk with rfl|⟨_,_,_,h⟩
  ·exact .inr (Nat.le_refl _)
  ·exact h.elim
theorem abV{P:Program}{ev:Operand->AV K}{ρe:Operand->Value}(hev:∀x,Rep D ρ S w (ev x) (ρe x)){t e:TypeId}{c:K.U}{len:Nat}{parts:Array (Nat×Operand)}{l:List (AV K)}
 (ht:elemOf? P t=some e) (hsz:bY P e=some (K.sz c)) (hz:iD P e=true) (hl:inOrder ev 0 parts.toList=some l) (hlen:l.length=len) (h1:len<=4096) (h2:K.sz c<=4096)
 (hall:l.all (fun v=>v.known&&decide (v.aZ.length=K.sz c))=true):
 ∃cs':Array Value,(do pure (.value (<-Instr.buildSlice t len (parts.map fun(i,x)=>(i,ρe x)))):Sem Next).run P w=.ok (.value (.slice (some ⟨w.heap.size,0,none⟩) len len)) (w.alloc (.cells cs' e))/\len*K.sz c<=cs'.size/\
  ∀i v,l[i]?=some v->∃u,aI D ρ S w v.aZ u/\bz cs' (i*K.sz c) (K.sz c)=u:=by
 obtain⟨i,hi,hisz⟩:=j0 hsz;obtain⟨zv,hzv,-⟩:=xk hz hi;obtain⟨el,er⟩:=xl _ _ _ hl;have hpl:parts.toList.length=len:=by rw[<-hlen,el];simp
 have hmul:len*K.sz c<=4096*4096:=Nat.mul_le_mul h1 h2;have hget:∀(j:Nat) v,l[j]?=some v->v.known=true/\v.aZ.length=K.sz c:=fun j v hv=>by
  have:=List.all_eq_true.1 hall v (List.mem_of_getElem? hv);simpa using this
 generalize hus:parts.toList.map (fun p=>ρe p.2)=us;have hrel:∀(j:Nat) v u,l[j]?=some v->us[j]?=some u->Rep D ρ S w v u:=fun j v u hv hu=>by
  rw[el]at hv;rw[<-hus]at hu;simp only[List.getElem?_map,Option.map_eq_some_iff]at hv hu;obtain⟨p,hp,rfl⟩:=hv;obtain⟨q,hq,rfl⟩:=hu;rw[hp]at hq;simp at hq;subst hq;exact hev _
 have lR:us.length=l.length:=by rw[<-hus,el];simp
 have hcs:∀u∈us,u.cells.size=K.sz c:=fun u hu=>by
  obtain⟨j,hj,rfl⟩:=List.getElem_of_mem hu;have hjl:j<l.length:=by omega
  obtain⟨hk,hn⟩:=hget j _ (List.getElem?_eq_getElem hjl);have:=(fc (hrel j _ _ (List.getElem?_eq_getElem hjl) (List.getElem?_eq_getElem hj)) hk).1;rw[hn]at this;simpa using this.symm
 let zero:Array Value:=if len*K.sz c=0 then #[]else zv.cells
 obtain⟨cs',e1,e2,-,e4⟩:=CG (sz:=K.sz c) us 0 ((Array.range (len*K.sz c)).map (zero[· %zero.size]!)) hcs (by simp[lR,hlen]);have hparts:(parts.map fun(x:Nat×Operand)=>match x with|(i,x)=>(i,ρe x)).toList=(us.zipIdx 0).map fun p=>(p.2,p.1):=by
  rw[<-hus,<-CH parts.toList ρe 0 (by rw[er])];simp
 have hrun:(Instr.buildSlice t len (parts.map fun(i,x)=>(i,ρe x))).run P w=.ok (.slice (some ⟨w.heap.size,0,none⟩) len len) (w.alloc (.cells cs' e)):=by
  have hsize:(sizeOf e).run P w=.ok (K.sz c) w:=eK hsz;unfold Instr.buildSlice;rw[hparts];simp only[Sem.run_bind,cE (dZ ht),Result.andThen_ok,hsize];rw[if_neg (by omega)];by_cases h0:len*K.sz c=0
  ·rw[if_pos h0];have e1':=e1;simp only[zero,if_pos h0]at e1';simp only[Sem.run_bind,Sem.run_pure,Result.andThen_ok,e1'];simp[newRow]
  ·rw[if_neg h0];have e1':=e1;simp only[zero,if_neg h0]at e1';have uh:(zeroValue e).run P w=.ok zv w:=by simp[zeroValue,typeInfo,hi,hzv]
   simp only[Sem.run_bind,Sem.run_pure,Result.andThen_ok,uh,e1'];simp[newRow]
 refine⟨cs',cN (f:=.value) hrun,by rw[e2];simp,fun j v hv=>?_⟩;have hj:j<l.length:=(List.getElem?_eq_some_iff.1 hv).1;have iI:=List.getElem?_eq_getElem (show j<us.length by omega);obtain⟨hk,-⟩:=hget j _ hv;have:=e4 j _ iI;rw[Nat.zero_add]at this;exact⟨_,fc (hrel j _ _ hv iI) hk,this⟩
theorem flat_get{sz:Nat}:∀(l:List (List (AV K)))(i j:Nat)(v:List (AV K))(x:AV K),(∀a∈l,a.length=sz)->l[i]?=some v->v[j]?=some x->l.flatten[i*sz+j]?=some x
 |[],i,j,v,x,_,h,_=>by simp at h
 |a::r,i,j,v,x,hl,hv,hx=>by
  have ha:=hl a (by simp);rw[List.flatten_cons];cases i with
  |zero=>
   simp at hv;subst hv;rw[Nat.zero_mul,Nat.zero_add,List.getElem?_append_left (List.getElem?_eq_some_iff.1 hx).1];exact hx
  |succ i=>
   rw[List.getElem?_append_right (by rw[Nat.add_mul,Nat.one_mul,ha];omega),show(i+1)*sz+j-a.length=i*sz+j by rw[Nat.add_mul,Nat.one_mul,ha];omega];exact flat_get r i j v x (fun b hb=>hl b (by simp[hb])) (by simpa using hv) hx
theorem abW{P:Program}(hD:aX D)(hs:aD D ρ S w H){ev:Operand->AV K}{ρe:Operand->Value}(hev:∀x,Rep D ρ S w (ev x) (ρe x)){t e:TypeId}{c:K.U}{len:Nat}{parts:Array (Nat×Operand)}{l l':List (AV K)}{y:List (K.El c)}
 (ht:elemOf? P t=some e) (hsz:bY P e=some (K.sz c)) (hz:iD P e=true) (hl:inOrder ev 0 parts.toList=some l) (hlen:l.length=len) (h1:len<=4096) (h2:K.sz c<=4096)
 (hall:l.all (fun v=>v.known&&decide (v.aZ.length=K.sz c))=true) (hnd:fp (bg l)=true) (hg:rG D H l=some l') (hdec:jb D c l'=some (y,true)) (bZ:eF D c e 0):
 Does D P ρ S H w (do pure (.value (<-Instr.buildSlice t len (parts.map fun(i,x)=>(i,ρe x))))) (.sl H.length) (cR H (bg l)++[.tree c y]):=by
 obtain⟨cs',hrun,hcs,hseg⟩:=abV (P:=P) hev ht hsz hz hl hlen h1 h2 hall;obtain⟨g1,g2⟩:=OI _ _ hg;obtain⟨d1,d2⟩:=CJ l' c y hdec;have hyl:y.length=len:=by rw[d1,g1,hlen]
 have hcl:∀a∈l.map AV.aZ,a.length=K.sz c:=fun a ha=>by
  obtain⟨v,hv,rfl⟩:=List.mem_map.1 ha;have:=List.all_eq_true.1 hall v hv;simp only[Bool.and_eq_true,decide_eq_true_eq]at this;exact this.2
 have hnd':(bg (l.map AV.aZ).flatten).Nodup:=by rw[<-C6];exact sf hnd
 let W:=w.alloc (.cells cs' e)
 let F:Nat->Nat->Nat->Prop:=fun i j k=>j<K.sz c/\∃v x,l[i]?=some v/\v.aZ[j]?=some x/\j7 D w ρ H x k
 have C7:∀i j k,F i j k->dh D w ρ H (bg l) k:=by
  rintro i j k ⟨hj,v,x,hv,hx,h,o,r,rfl,ho,hlv,hr,hf⟩
  refine⟨h,o,r,?_,ho,hlv,hr,hf⟩;rw[C6];have hm:=List.mem_of_getElem? (flat_get (l.map AV.aZ) i j v.aZ _ hcl (by simp[hv]) hx);generalize (l.map AV.aZ).flatten=L at hm
  induction L with
  |nil=>cases hm
  |cons a r ih=>
   simp only[bg,List.mem_append];rcases List.mem_cons.1 hm with rfl|hm
   ·exact .inl (by simp[hands])
   ·exact .inr (ih hm)
 have R0:Row D w c y (cs'.toList.take (len*K.sz c)) F:=by
  refine⟨by simp[hyl];omega,fun i x hx j a u ha hu=>?_,?_⟩
  ·have hi:i<l.length:=by rw[hlen,<-hyl];exact(List.getElem?_eq_some_iff.1 hx).1
   have hv:=List.getElem?_eq_getElem hi;have hj:j<K.sz c:=by rw[<-hD.len c x];exact(List.getElem?_eq_some_iff.1 ha).1
   obtain⟨us,hus,hse⟩:=hseg i _ hv;obtain⟨cs,hcs1,hcs2⟩:=g2 i _ hv;have hdx:=d2 i _ x hcs1 hx;rw[List.getElem?_take,if_pos (iS (show i<len by omega) hj),<-r7 hj,hse]at hu;obtain⟨x',hx',hc⟩:=OJ hD hs hcs2 hdx hus j a u ha hu;exact hc.mono fun k hk=>⟨hj,_,x',hv,hx',hk⟩
  ·rintro i j i2 j2 k ⟨hj,v,x,hv,hx,h,o,r,rfl,ho,hlv,hr,hf⟩ ⟨hj2,v2,x2,hv2,hx2,h',o',r',rfl,ho',abY,hr',hf'⟩
   have e1:=hs.ct h h' o o' r r' k ho hlv hr hf ho' abY hr' hf';subst e1;have e2:=uv hnd' (flat_get (l.map AV.aZ) i j v.aZ _ hcl (by simp[hv]) hx) (flat_get (l.map AV.aZ) i2 j2 v2.aZ _ hcl (by simp[hv2]) hx2);have:i=i2:=by
    rcases Nat.lt_trichotomy i i2 with h|h|h
    ·have:(i+1)*K.sz c<=i2*K.sz c:=Nat.mul_le_mul_right _ (by omega);rw[Nat.add_mul,Nat.one_mul]at this;omega
    ·exact h
    ·have:(i2+1)*K.sz c<=i*K.sz c:=Nat.mul_le_mul_right _ (by omega);rw[Nat.add_mul,Nat.one_mul]at this;omega
   subst this;exact⟨rfl,by omega⟩
 have R:Row D W c y (cs'.toList.take (len*K.sz c)) F:=R0.world fun i j k hk=>jj (hs.lt k (C7 i j k hk).own).1
 obtain⟨T1,T2⟩:=R.tree hD (b:=w.heap.size) (o:=0) (cap:=len) (vs:=cs') (T:=e) (fr:=(0,0)) (nV _ _) ⟨by omega,bZ,Nat.le_refl _⟩ (by omega) (fun k _ _ hh=>by have:=hh.2;simp at this)
  (fun k hk=>by rw[hyl]at hk;rw[Nat.zero_add,List.getElem?_take,if_pos hk]) (fun i j h=>by have:=(hs.lt _ (C7 i j _ h).own).1;omega)
 rw[hyl]at T1 T2;exact uu hs (ks:=bg l) (w':=W) hrun (by simp[W]) (fun k hk _=>jj hk) rfl rfl rfl T1 fun k hk=>by
  rcases T2 k hk with rfl|⟨i,j,_,h⟩
  ·exact .inr (Nat.le_refl _)
  ·exact .inl (C7 i j k h)
end Go.V
namespace Go.V
open Go
variable {K :bL}{D:aT K}{ρ ρ':List Value}{S S':Nat->Prop}{w w':World}{H H':List (Ob K)}
theorem abZ(hD:aX D){c:K.U}{l:List (K.El c)}{us:List Value}{F:Nat->Nat->Nat->Prop}(R:Row D w c l us F):∀x∈us,x.oneCell'=true:=fun x hx=>by
 obtain⟨k,hk,rfl⟩:=List.getElem_of_mem hx;rw[R.len]at hk;have hsz:0<K.sz c:=by
  rcases Nat.eq_zero_or_pos (K.sz c)with h0|h0
  ·rw[h0]at hk;simp at hk
  ·exact h0
 have hi:k/K.sz c<l.length:=Nat.div_lt_of_lt_mul (by rw[Nat.mul_comm];exact hk);have hj:k%K.sz c<K.sz c:=Nat.mod_lt _ hsz;have e:k/K.sz c*K.sz c+k%K.sz c=k:=by rw[Nat.mul_comm];exact Nat.div_add_mod _ _
 have hx:=List.getElem?_eq_getElem hi;have hv:=List.getElem?_eq_getElem (show k%K.sz c<(D.cells c l[k/K.sz c]).length by rw[hD.len];exact hj);have hu:us[k/K.sz c*K.sz c+k%K.sz c]?=some us[k]:=by rw[e];exact List.getElem?_eq_getElem _
 have hc:=R.cell _ _ hx _ _ _ hv hu;have h1:=List.all_eq_true.1 (hD.one c l[k/K.sz c]) _ (List.getElem_mem (show k%K.sz c<(D.cells c l[k/K.sz c]).length by rw[hD.len];exact hj));generalize (D.cells c l[k/K.sz c])[k%K.sz c]'(by rw[hD.len];exact hj)=v at hc h1;cases hd:v.gz
 ·exact one_cell (hc.flat hd).2 h1
 ·obtain⟨c',l',rfl⟩:=wY hd;obtain⟨a,cp,e⟩:=wZ (hc.kid c' l' rfl).1;rw[e];rfl
theorem OK{P:Program}(hD:aX D)(hs:aD D ρ S w H){c:K.U}{x:AV K}{m:List (K.El c)}{ks:List Nat}{X:Value}(h:jQ H c x=some (m,ks))(hx:Rep D ρ S w x X):
 (Builtin.lenOf X).run P w=.ok m.length w/\∃news F,Row D w c m news F/\(∀i j k,F i j k->dh D w ρ H ks k)/\∀w':World,w'.heap=w.heap->(Builtin.firstCells (K.sz c) m.length X).run P w'=.ok news.toArray w':=by
 unfold jQ at h;split at h
 ·simp only[Option.some.injEq,Prod.mk.injEq]at h;obtain⟨rfl,rfl⟩:=h;have e:X=.slice none 0 0:=by cases hx;rfl
  subst e;exact⟨by simp[Builtin.lenOf],[],fun _ _ _=>False,⟨by simp,fun i x h=>by simp at h,fun _ _ _ _ _ h=>h.elim⟩,fun _ _ _ h=>h.elim,fun w' _=>by simp[Builtin.firstCells]⟩
 ·rename_i h0;split at h
  ·rename_i c' l ho;obtain⟨hp,a,n,cp,rfl⟩:=rS hs (.inr (.inr ho)) hx;cases hd:K.ee c' c with
   |isFalse hn=>simp[hd]at h
   |isTrue he=>
    subst he;simp only[hd,Option.some.injEq,Prod.mk.injEq]at h;obtain⟨rfl,rfl⟩:=h;have hT:Tree D w c' l (.slice a n cp):=hs.ob _ _ _ ho hp;rcases hT.row hD with⟨e,rfl⟩|⟨b,o,cap,vs,T,fr,us,F,e,hb,hcap,hsz,hfr,hus,R,si,hF⟩
    ·cases e;exact⟨by simp[Builtin.lenOf],[],fun _ _ _=>False,⟨by simp,fun i x h=>by simp at h,fun _ _ _ _ _ h=>h.elim⟩,fun _ _ _ h=>h.elim,fun w' _=>by simp[Builtin.firstCells]⟩
    ·cases e;refine⟨by simp[Builtin.lenOf],us,F,R,fun i j k hk=>⟨h0,_,_,by simp,ho,rfl,hp,hF i j k hk⟩,fun w' hw=>?_⟩;have hcells:dJ w' b o us:=fun k v hv=>by
      have hk:k<l.length*K.sz c':=by rw[<-R.len];exact(List.getElem?_eq_some_iff.1 hv).1
      have:=hus k hk;rw[hv]at this;rw[cell?_of_heap (w:=w) (a:=⟨b,o+k,none⟩) (by rw[hw])];simp only[World.cell?,hb];simpa using this
     have:=xd (P:=P) hcells;rw[R.len]at this;simpa [Builtin.firstCells]using this
  ·cases h
 ·cases h
theorem OL{P:Program}(hD:aX D)(hs:aD D ρ S w H){t xT ty e:TypeId}{d:TypeDesc}{i:TypeInfo}{z:Value}{c:K.U}(ht:P.underlying t=some (.slice e))(hx:P.underlying xT=some d)(hd:∀k,d≠.int k)
 (hi:P.info? e=some i) (hisz:i.size=K.sz c) (hz:i.zero=some z) (hzs:z.cells.size=K.sz c) (hb:i.bytes<=4096) {base:Option Addr} {cap:Nat} {X:Value} {l m:List (K.El c)} {us:List Value} {F:Nat->Nat->Nat->Prop} {ks:List Nat} {olds news:List Value}
 (R:Row D w c (l++m) us F) (hF:∀i j k,F i j k->dh D w ρ H ks k) (hus:us=olds++news) (hlen:(Builtin.lenOf X).run P w=.ok m.length w) (hnew:(Builtin.firstCells (K.sz c) m.length X).run P w.drew=.ok news.toArray w.drew)
 (hold:(Builtin.firstCells (K.sz c) l.length (.slice base l.length cap)).run P w.drew=.ok olds.toArray w.drew) (hroom:cap<l.length+m.length) (hsmall:l.length+m.length<=1073741824) (hE:eF D c e 0):
 Does D P ρ S H w (do pure (.value (<-Builtin.append_ #[t,xT] ty #[.slice base l.length cap,X]))) (.sl H.length) (cR H ks++[.tree c (l++m)]):=by
 have hrun:=Oc (P:=P) (w:=w) (ty:=ty) ht hx hd hi hz hlen (by rw[hisz];exact hnew) (by rw[hisz];exact hold) hroom hsmall hb;have hge:=grownCap_ge w (l.length+m.length) cap e
 let vs:=(olds++news++(Builtin.zeroCells z.cells (grownCap w (l.length+m.length) cap e-(l.length+m.length))).toList).toArray
 let W:=w.drew.alloc (.cells vs e)
 have hR:Row D W c (l++m) us F:=R.world fun i j k hk=>jj (hs.lt k (hF i j k hk).own).1
 have lR:us.length=(l.length+m.length)*K.sz c:=by rw[R.len,List.length_append]
 have hzc:(Builtin.zeroCells z.cells (grownCap w (l.length+m.length) cap e-(l.length+m.length))).size=(grownCap w (l.length+m.length) cap e-(l.length+m.length))*K.sz c:=by simp[Builtin.zeroCells,hzs]
 have hcz:(l.length+m.length)*K.sz c+(grownCap w (l.length+m.length) cap e-(l.length+m.length))*K.sz c=grownCap w (l.length+m.length) cap e*K.sz c:=by rw[<-Nat.add_mul];congr 1;omega
 have hvl:vs.toList=us++(Builtin.zeroCells z.cells (grownCap w (l.length+m.length) cap e-(l.length+m.length))).toList:=by simp[vs,hus]
 obtain⟨T1,T2⟩:=hR.tree hD (b:=w.heap.size) (o:=0) (cap:=grownCap w (l.length+m.length) cap e) (vs:=vs) (T:=e) (fr:=(0,0)) (nV _ _) ⟨by simpa using hge,hE,Nat.le_refl _⟩
  (by
    have:vs.size=us.length+(Builtin.zeroCells z.cells (grownCap w (l.length+m.length) cap e-(l.length+m.length))).size:=by rw[<-Array.length_toList,hvl];simp
    rw[this,hzc,lR];omega)
  (fun k _ _ hh=>by have:=hh.2;simp at this) (fun k hk=>by rw[Nat.zero_add,hvl,List.getElem?_append_left (by rw[R.len];exact hk)]) (fun i j h=>by have:=(hs.lt _ (hF i j _ h).own).1;omega)
 rw[List.length_append]at T1 T2;exact uu hs (ks:=ks) (w':=W) (cN (f:=.value) hrun) (by simp[W]) (fun k hk _=>jj hk) rfl rfl rfl T1 fun k hk=>by
  rcases T2 k hk with rfl|⟨i,j,_,h⟩
  ·exact .inr (Nat.le_refl _)
  ·exact .inl (hF i j k h)
theorem dh.more{ks ks':List Nat}(h:∀x∈ks,x∈ks'){k:Nat}(hk:dh D w ρ H ks k):dh D w ρ H ks' k:=by
 obtain⟨a,o,r,g1,g2,g3,g4,g5⟩:=hk;exact⟨a,o,r,h a g1,g2,g3,g4,g5⟩
theorem ab1{P:Program}(hD:aX D)(hs:aD D ρ S w H){t xT ty e:TypeId}{d:TypeDesc}{i:TypeInfo}{z:Value}{c:K.U}(ht:P.underlying t=some (.slice e))(hx:P.underlying xT=some d)(hd:∀k,d≠.int k)
 (hi:P.info? e=some i) (hisz:i.size=K.sz c) (hz:i.zero=some z) (hzs:z.cells.size=K.sz c) (hb:i.bytes<=4096) {s x:AV K} {Y X:Value} {l m:List (K.El c)} {ks ks':List Nat} (hl:jQ H c s=some (l,ks)) (hm:jQ H c x=some (m,ks'))
 (hnd:fp (ks++ks')=true) (hY:Rep D ρ S w s Y) (hX:Rep D ρ S w x X) (hsmall:l.length+m.length<=1073741824) (hE:eF D c e 0):
 Does D P ρ S H w (do pure (.value (<-Builtin.append_ #[t,xT] ty #[Y,X]))) (.sl H.length) (cR H (ks++ks')++[.tree c (l++m)]):=by
 have hnd':=sf hnd;obtain⟨n1,n2,n3⟩:=List.nodup_append.1 hnd';obtain⟨hlen,news,F2,R2,hF2,hnew⟩:=OK (P:=P) hD hs hm hX;obtain⟨-,olds,F1,R1,hF1,hold⟩:=OK (P:=P) hD hs hl hY;have hapart:∀{a b:Nat},dh D w ρ H ks a->dh D w ρ H ks' b->a≠b:=fun{a b} ha hb e=>by
  subst e;obtain⟨h1,o1,r1,a1,a2,a3,a4,a5⟩:=ha;obtain⟨h2,o2,r2,b1,b2,b3,b4,b5⟩:=hb;have:=hs.ct h1 h2 o1 o2 r1 r2 a a2 a3 a4 a5 b2 b3 b4 b5;subst this;exact n3 h1 a1 h1 b1 rfl
 have R:=R1.append hD R2 fun i j i2 j2 k h1 h2=>hapart (hF1 _ _ _ h1) (hF2 _ _ _ h2) rfl
 have hF:∀i j k,((i<l.length/\F1 i j k)\/(l.length<=i/\F2 (i-l.length) j k))->dh D w ρ H (ks++ks') k:=fun i j k h=>by
  rcases h with⟨-,h⟩|⟨-,h⟩
  ·exact(hF1 _ _ _ h).more fun x hx=>List.mem_append.2 (.inl hx)
  ·exact(hF2 _ _ _ h).more fun x hx=>List.mem_append.2 (.inr hx)
 have hs':(Y=.slice none 0 0/\l=[])\/∃h0 b o cap vs T fr,ks=[h0]/\H[h0]?=some (.tree c l)/\ρ[h0]?=some Y/\Y=.slice (some ⟨b,o,none⟩) l.length cap/\w.heap[b]?=some (.cells vs T fr)/\(l.length<=cap/\lL D c T o fr)/\o+cap*K.sz c<=vs.size/\
  (∀k,o<=k->k<o+cap*K.sz c->¬(fr.1<=k/\k<fr.2))/\∃us F,(∀k,k<l.length*K.sz c->vs.toList[o+k]?=us[k]?)/\Row D w c l us F/\(∀i j,¬F i j b)/\∀i j k,F i j k->bS D w c l Y k:=by
  unfold jQ at hl;split at hl
  ·simp only[Option.some.injEq,Prod.mk.injEq]at hl;obtain⟨rfl,rfl⟩:=hl;exact .inl ⟨by cases hY;rfl,rfl⟩
  ·rename_i h0;split at hl
   ·rename_i c' l0 ho;obtain⟨hp,a,n,cp,rfl⟩:=rS hs (.inr (.inr ho)) hY;cases hd:K.ee c' c with
    |isFalse hn=>simp[hd]at hl
    |isTrue he=>
     subst he;simp only[hd,Option.some.injEq,Prod.mk.injEq]at hl;obtain⟨rfl,rfl⟩:=hl;have hT:Tree D w c' l0 (.slice a n cp):=hs.ob _ _ _ ho hp;rcases hT.row hD with⟨e,rfl⟩|⟨b,o,cap,vs,T,fr,us,F,e,hb,hcap,hsz,hfr,hus,R,si,hF⟩
     ·exact .inl ⟨e,rfl⟩
     ·exact .inr ⟨h0,b,o,cap,vs,T,fr,rfl,ho,hp,e,hb,hcap,hsz,hfr,us,F,hus,R,si,hF⟩
   ·cases hl
  ·cases hl
 rcases hs' with⟨rfl,rfl⟩|⟨h0,b,o,cap,vs,T,fr,rfl,ho,hp,rfl,hblk,⟨hcap,bZ⟩,hsz,hfr,us,F,hus,R0,si,OM⟩
 ·by_cases h0:m.length=0
  ·have hm0:m=[]:=List.eq_nil_of_length_eq_zero h0;subst hm0;have hrun:=CM (P:=P) (w:=w) (ty:=ty) (base:=none) (n:=0) (cap:=0) ht hx hd hi hlen (by rw[hisz];exact hnew w rfl) (by simp);exact uu hs (ks:=ks++ks') (a:=none) (n:=0) (cp:=0) (w':=w) (cN (f:=.value) (by simpa using hrun)) (Nat.le_refl _) (fun _ _ _=>rfl) rfl rfl rfl (by simpa using Tree.nil) fun k hk=>by simp at hk;cases hk
  ·have hO:olds=[]:=List.eq_nil_of_length_eq_zero (by have:=R1.len;simpa using this);subst hO;exact OL (P:=P) (ty:=ty) (base:=none) (cap:=0) (l:=[]) (olds:=[]) hD hs ht hx hd hi hisz hz hzs hb R hF rfl hlen (hnew w.drew rfl) (by simp[Builtin.firstCells]) (by simp;omega) (by simpa using hsmall) hE
 ·by_cases hroom:l.length+m.length<=cap
  ·have hlm:(l.length+m.length)*K.sz c<=cap*K.sz c:=Nat.mul_le_mul_right _ hroom;rw[Nat.add_mul]at hlm;have hrl:=R2.len;obtain⟨w',vs',e1,e2,e3,e4,e5,e6,e7,e8⟩:=jZ (P:=P) (b:=b) (o:=o+l.length*K.sz c) news 0 vs w hblk (by omega) (fun k hk hk'=>hfr k (by omega) (by omega)) (abZ hD R2);rw[Nat.add_zero]at e3;have j8:dh D w ρ H [h0] b:=⟨h0,_,_,by simp,ho,rfl,hp,.here⟩;have hrun:=CM (P:=P) (w:=w) (ty:=ty) (base:=some ⟨b,o,none⟩) (n:=l.length) (cap:=cap) ht hx hd hi hlen (by rw[hisz];exact hnew w rfl) hroom;simp only[hisz,add_plain,e1,Result.andThen_ok]at hrun;have hsize:vs'.size=vs.size:=by have:=congrArg List.length e3;rw[iH]at this;simpa using this
   have RA:=R0.append hD R2 fun i j i2 j2 k h1 h2=>hapart ⟨h0,_,_,by simp,ho,rfl,hp,OM i j k h1⟩ (hF2 _ _ _ h2) rfl
   have C9:∀i j k,((i<l.length/\F i j k)\/(l.length<=i/\F2 (i-l.length) j k))->dh D w ρ H ([h0]++ks') k/\k≠b:=fun i j k h=>by
    rcases h with⟨-,h⟩|⟨-,h⟩
    ·exact⟨⟨h0,_,_,by simp,ho,rfl,hp,OM i j k h⟩,fun e=>by subst e;exact si _ _ h⟩
    ·exact⟨(hF2 _ _ _ h).more fun x hx=>List.mem_append.2 (.inr hx),fun e=>hapart j8 (hF2 _ _ _ h) e.symm⟩
   have RW:Row D w' c (l++m) (us++news) _:=RA.world fun i j k hk=>e5 k (C9 i j k hk).2
   obtain⟨T1,T2⟩:=RW.tree hD e2 (o:=o) (cap:=cap) ⟨by simpa using hroom,bZ⟩ (by omega) hfr (fun k hk=>by
    rw[List.length_append,Nat.add_mul]at hk;rw[e3];by_cases hkl:k<l.length*K.sz c
    ·rw[N5 _ _ _ _ (.inl (by omega)),hus k hkl,List.getElem?_append_left (by rw[R0.len];exact hkl)]
    ·rw[gC _ _ _ _ (by simp;omega),if_pos (by omega),List.getElem?_append_right (by rw[R0.len];omega),R0.len];congr 1;omega) (fun i j h=>(C9 i j b h).2 rfl)
   rw[List.length_append]at T1 T2;exact uu hs (ks:=[h0]++ks') (w':=w') (cN (f:=.value) hrun) (by omega) (fun k _ hno=>e5 k fun e=>by subst e;exact hno (j8.more fun x hx=>List.mem_append.2 (.inl hx))) e6 e7 e8 T1 fun k hk=>by
    rcases T2 k hk with rfl|⟨i,j,_,h⟩
    ·exact .inl (j8.more fun x hx=>List.mem_append.2 (.inl hx))
    ·exact .inl (C9 i j k h).1
  ·have hnl:(Builtin.firstCells (K.sz c) l.length (.slice (some ⟨b,o,none⟩) l.length cap)).run P w.drew=.ok olds.toArray w.drew:=hold w.drew rfl;exact OL (P:=P) (ty:=ty) (base:=some ⟨b,o,none⟩) (cap:=cap) (l:=l) (olds:=olds) hD hs ht hx hd hi hisz hz hzs hb R hF rfl hlen (hnew w.drew rfl) hnl (by omega) hsmall hE
theorem ab2{P:Program}(hD:aX D)(hs:aD D ρ S w H){t:TypeId}{n h i off:Nat}{c:K.U}{l:List (K.El c)}{y:K.El c}{x:AV K}{xs:List (AV K)}{X A:Value}(hn:bY P t=some n)(ft:x.aZ.length=n)
 (h1:x.aZ.all AV.one=true) (ho:H[h]?=some (.tree c l)) (hoff:off+n<=K.sz c) (hnd:fp (h::bg x.aZ)=true) (hg:fQ D H x.aZ=some xs) (hdec:D.dec c (setCells (D.cells c (l.getD i (K.zero c))) off xs)=some (y,true))
 (hx:Rep D ρ S w x X) (hA:Rep D ρ S w (.ep h (K.sz c) i off) A):Does D P ρ S H w (do Instr.storeAt t A X;pure .skip) .any ((cR H (h::bg x.aZ)).set h (.tree c (l.set i y))):=by
 obtain⟨b,o,m,cp,rfl,hb,hi⟩:=iF hA;have hT:Tree D w c l (.slice (some ⟨b,o,none⟩) m cp):=hs.ob _ _ _ ho hb;obtain⟨hn1,hn2⟩:=List.nodup_cons.1 (sf hnd);rcases hT.row hD with⟨e,-⟩|⟨b',o',cap,vs,T,fr,us,F,e,hblk,⟨hcap,bZ⟩,hsz,hfr,hus,R,si,hF⟩
 ·cases e
 ·simp only[Value.slice.injEq,Option.some.injEq,Addr.mk.injEq]at e;obtain⟨⟨rfl,rfl,-⟩,rfl,rfl⟩:=e;have hc:=fc hx (uf h1);have hlen:X.cells.toList.length=n:=by rw[<-hc.1,ft]
  have hmul:(i+1)*K.sz c<=cp*K.sz c:=Nat.mul_le_mul_right _ (by omega);have Da:(i+1)*K.sz c<=l.length*K.sz c:=Nat.mul_le_mul_right _ (by omega);rw[Nat.add_mul,Nat.one_mul]at hmul Da;obtain⟨w',vs',e1,e2,e3,e4,e5,e6,e7,e8⟩:=jZ (P:=P) (b:=b) (o:=o+i*K.sz c+off) X.cells.toList 0 vs w hblk (by omega) (fun k hk hk'=>hfr k (by omega) (by omega)) (nU hc h1);rw[Nat.add_zero]at e3;have hx0:=getD_some (K.zero c) hi;obtain⟨gl,gg⟩:=se _ _ hg;obtain⟨dl,dd⟩:=hD.rN _ _ _ hdec;have j9:∀j,(setCells (D.cells c (l.getD i (K.zero c))) off xs)[j]?=if off<=j/\j<off+n then xs[j-off]? else(D.cells c (l.getD i (K.zero c)))[j]?:=fun j=>by
   have key:∀(zs cs:List (AV K))(q j:Nat),q+zs.length<=cs.length->(setCells cs q zs)[j]?=if q<=j/\j<q+zs.length then zs[j-q]? else cs[j]?:=fun zs=>by
    induction zs with
    |nil=>intro cs q j _;rw[if_neg (by first|omega|simp)];rfl
    |cons z r ih=>
     intro cs q j hq;simp only[List.length_cons]at hq;rw[setCells,ih _ _ _ (by simp;omega)];by_cases h1:q+1<=j/\j<q+1+r.length
     ·rw[if_pos h1,if_pos (by simp;omega),show j-q=(j-(q+1))+1 by omega];rfl
     ·rw[if_neg h1];by_cases h2:j=q
      ·subst h2;rw[if_pos (by simp),List.getElem?_set];simp;omega
      ·rw[if_neg (by simp;omega),List.getElem?_set,if_neg (by omega)]
   have:=key xs (D.cells c (l.getD i (K.zero c))) off j (by rw[hD.len];omega);rw[gl,ft]at this;exact this
  let G:Nat->Nat->Prop:=fun j k=>∃v,x.aZ[j]?=some v/\j7 D w ρ H v k
  have Db:∀j k,G j k->dh D w ρ H (bg x.aZ) k:=by
   rintro j k ⟨v,hv,h',o',r',rfl,ho',hl',hr',hf'⟩
   refine⟨h',o',r',?_,ho',hl',hr',hf'⟩;have hm:=List.mem_of_getElem? hv;generalize x.aZ=L at hm
   induction L with
   |nil=>cases hm
   |cons a r ih=>
    simp only[bg,List.mem_append];rcases List.mem_cons.1 hm with rfl|hm
    ·exact .inl (by simp[hands])
    ·exact .inr (ih hm)
  have hapart:∀{a k:Nat},dh D w ρ H (bg x.aZ) k->bS D w c l (.slice (some ⟨b,o,none⟩) l.length cp) a->a≠k:=fun{a k} hk ha e=>by
   subst e;obtain⟨h2,o2,r2,b1,b2,b3,b4,b5⟩:=hk;have:=hs.ct h h2 _ o2 _ r2 a ho rfl hb ha b2 b3 b4 b5;subst this;exact hn1 b1
  have R2:=R.set hD (i:=i) (off:=off) (x0:=l.getD i (K.zero c)) (y:=y) (xs:=X.cells.toList) (G:=G) hx0 (by rw[hlen];exact hoff) (fun j hj=>by
   rw[hlen]at hj;have hg2:=j9 j;rw[if_neg (by omega)]at hg2;by_cases hjs:j<K.sz c
   ·have ha:=List.getElem?_eq_getElem (show j<(D.cells c (l.getD i (K.zero c))).length by rw[hD.len];exact hjs);have hb':=List.getElem?_eq_getElem (show j<(D.cells c y).length by rw[hD.len];exact hjs);rw[ha]at hg2;rcases dd j _ _ hg2 hb' with e|⟨e,-⟩
    ·rw[ha,hb',e]
    ·exact absurd e (hD.kinds c _ j _ ha).1
   ·rw[List.getElem?_eq_none (by rw[hD.len];omega),List.getElem?_eq_none (by rw[hD.len];omega)])
   (fun j v u hv hu=>by
     have hjn:j<n:=by rw[<-hlen];exact(List.getElem?_eq_some_iff.1 hu).1
     have iK:=List.getElem?_eq_getElem (show j<x.aZ.length by omega);obtain⟨v',hv',hgc⟩:=gg j _ iK;obtain⟨k1,k2⟩:=xt hD hs hgc (hc.2 j _ _ iK hu);have hg2:=j9 (off+j);rw[if_pos (by omega),show off+j-off=j by omega,hv']at hg2;rcases dd (off+j) _ v hg2 hv with rfl|⟨rfl,c',rfl⟩
     ·exact k1.mono fun k hk=>⟨_,iK,hk⟩
     ·rw[k2 rfl];refine⟨fun e=>(by cases e),fun c l e=>?_⟩;cases e;exact⟨.nil,fun k hk=>by cases hk⟩)
   (fun j j2 k ⟨v,hv,h',o',r',e1,ho',hl',hr',hf'⟩ ⟨v2,hv2,h2,o2,r2,e2',ho2,hl2,hr2,hf2⟩=>by
     subst e1;subst e2';have:=hs.ct h' h2 o' o2 r' r2 k ho' hl' hr' hf' ho2 hl2 hr2 hf2;subst this;exact uv hn2 hv hv2)
   (fun j i2 j2 k hk hf=>hapart (Db j k hk) (hF _ _ _ hf) rfl)
  have nY:∀i2 j k,((i2=i/\off<=j/\j<off+X.cells.toList.length/\G (j-off) k)\/(¬(i2=i/\off<=j/\j<off+X.cells.toList.length)/\F i2 j k))->dh D w ρ H (h::bg x.aZ) k/\k≠b:=fun i2 j k hk=>by
   rcases hk with⟨-,-,-,hk⟩|⟨-,hk⟩
   ·exact⟨(Db _ _ hk).more fun x hx=>List.mem_cons.2 (.inr hx),fun e=>hapart (Db _ _ hk) .here e.symm⟩
   ·exact⟨⟨h,_,_,by simp,ho,rfl,hb,hF _ _ _ hk⟩,fun e=>by subst e;exact si _ _ hk⟩
  have RW:Row D w' c (l.set i y) _ _:=R2.world fun i j k hk=>e5 k (nY i j k hk).2
  have hsize:vs'.size=vs.size:=by have:=congrArg List.length e3;rw[iH]at this;simpa using this
  have hlc:l.length*K.sz c<=cp*K.sz c:=Nat.mul_le_mul_right _ hcap;have hlz:X.cells.size=n:=by simpa using hlen
  obtain⟨T1,T2⟩:=RW.tree hD e2 (o:=o) (cap:=cp) ⟨by simpa using hcap,bZ⟩ (by omega) hfr (fun k hk=>by
   rw[List.length_set]at hk;rw[e3,gC _ _ _ _ (by simp;omega),gC _ _ _ _ (by rw[R.len];omega)];by_cases hc2:i*K.sz c+off<=k/\k<i*K.sz c+off+X.cells.toList.length
   ·rw[if_pos (by omega),if_pos hc2];congr 1;omega
   ·rw[if_neg (by omega),if_neg hc2];exact hus k hk) (fun i j h=>(nY i j b h).2 rfl)
  rw[List.length_set]at T1 T2;have j8:dh D w ρ H (h::bg x.aZ) b:=⟨h,_,_,by simp,ho,rfl,hb,.here⟩;refine OH hs ho rfl hb (w':=w') ?_ e4 (fun k hno=>e5 k fun e=>by subst e;exact hno j8) e6 e7 e8 T1 fun k hk=>?_
  ·have:(storeVar t ⟨b,o+i*K.sz c+off,none⟩ X).run P w=.ok () w':=by rw[xi hn (by simpa using hlen)];exact e1
   simp[Instr.storeAt,Instr.sureAddr,this]
  ·rcases T2 k hk with rfl|⟨i,j,_,h⟩
   ·exact j8
   ·exact(nY i j k h).1
theorem ab3{P:Program}(hD:aX D)(hs:aD D ρ S w H){t:TypeId}{n h i off:Nat}{c:K.U}{l:List (K.El c)}{cs:List (AV K)}{y:K.El c}{x:AV K}{xs:List (AV K)}{X A:Value}(hn:bY P t=some n)(hcn:n=cs.length)(ft:x.aZ.length=n)
 (h1:x.aZ.all AV.one=true) (ho:H[h]?=some (.opn c l i off cs)) (hnd:fp (h::bg x.aZ)=true) (hg:fQ D H x.aZ=some xs) (hdec:D.dec c (setCells (D.cells c (l.getD i (K.zero c))) off xs)=some (y,true))
 (hx:Rep D ρ S w x X) (hA:Rep D ρ S w (.ep h (K.sz c) i off) A):Does D P ρ S H w (do Instr.storeAt t A X;pure .skip) .any ((cR H (h::bg x.aZ)).set h (.tree c (l.set i y))):=by
 obtain⟨b,o,m,cp,rfl,hb,hi⟩:=iF hA;obtain⟨b',o',cap,vs,T,fr,e,hblk,⟨hcap,bZ⟩,hsz,hfr,hi',hoff,h7,h8,h9⟩:=(hs.ob _ _ _ ho hb:gB D ρ S w c l i off cs _);obtain⟨hn1,hn2⟩:=List.nodup_cons.1 (sf hnd);simp only[Value.slice.injEq,Option.some.injEq,Addr.mk.injEq]at e;obtain⟨⟨rfl,rfl,-⟩,rfl,rfl⟩:=e;have hc:=fc hx (uf h1);have hlen:X.cells.toList.length=n:=by rw[<-hc.1,ft]
 have hmul:(i+1)*K.sz c<=cp*K.sz c:=Nat.mul_le_mul_right _ (by omega);have Da:(i+1)*K.sz c<=l.length*K.sz c:=Nat.mul_le_mul_right _ (by omega);rw[Nat.add_mul,Nat.one_mul]at hmul Da;have hlc:l.length*K.sz c<=cp*K.sz c:=Nat.mul_le_mul_right _ hcap;obtain⟨w',vs',e1,e2,e3,e4,e5,e6,e7,e8⟩:=jZ (P:=P) (b:=b) (o:=o+i*K.sz c+off) X.cells.toList 0 vs w hblk (by omega) (fun k hk hk'=>hfr k (by omega) (by omega)) (nU hc h1);rw[Nat.add_zero]at e3;have hx0:=getD_some (K.zero c) hi;generalize l.getD i (K.zero c)=x0 at hx0 hdec;obtain⟨gl,gg⟩:=se _ _ hg;obtain⟨dl,dd⟩:=hD.rN _ _ _ hdec;have j9:∀j,(setCells (D.cells c x0) off xs)[j]?=if off<=j/\j<off+n then xs[j-off]? else(D.cells c x0)[j]?:=fun j=>by
  have key:∀(zs cs:List (AV K))(q j:Nat),q+zs.length<=cs.length->(setCells cs q zs)[j]?=if q<=j/\j<q+zs.length then zs[j-q]? else cs[j]?:=fun zs=>by
   induction zs with
   |nil=>intro cs q j _;rw[if_neg (by first|omega|simp)];rfl
   |cons z r ih=>
    intro cs q j hq;simp only[List.length_cons]at hq;rw[setCells,ih _ _ _ (by simp;omega)];by_cases h1:q+1<=j/\j<q+1+r.length
    ·rw[if_pos h1,if_pos (by simp;omega),show j-q=(j-(q+1))+1 by omega];rfl
    ·rw[if_neg h1];by_cases h2:j=q
     ·subst h2;rw[if_pos (by simp),List.getElem?_set];simp;omega
     ·rw[if_neg (by simp;omega),List.getElem?_set,if_neg (by omega)]
  have:=key xs (D.cells c x0) off j (by rw[hD.len];omega);rw[gl,ft]at this;exact this
 have xw:∀(i' j:Nat) u,((vs.toList.drop o).take (l.length*K.sz c))[i'*K.sz c+j]?=some u->w.cell? ⟨b,o+i'*K.sz c+j,none⟩=some u:=fun i' j u hu=>by
  rw[List.getElem?_take]at hu;split at hu
  ·rw[List.getElem?_drop]at hu;have:w.cell? ⟨b,o+i'*K.sz c+j,none⟩=vs.toList[o+i'*K.sz c+j]?:=by simp[World.cell?,hblk]
   rw[this,Nat.add_assoc];exact hu
  ·cases hu
 have hbl:((vs.toList.drop o).take (l.length*K.sz c)).length=l.length*K.sz c:=by simp;omega
 have nZ:∀k,e9 D w c l i off cs.length (.slice (some ⟨b,o,none⟩) l.length cp) k->∀v,j7 D w ρ H v k->∀j,x.aZ[j]?=some v->False:=fun k hk v ⟨h',o',r',e,ho',hl',hr',hf'⟩ j hj=>by
  subst e;have:=hs.ct _ _ _ _ _ _ _ ho rfl hb hk ho' hl' hr' hf';subst this;exact hn1 (sg hj)
 let F:Nat->Nat->Nat->Prop:=fun i' j k=>(iE i off cs.length i' j/\∃v,x.aZ[j-off]?=some v/\j7 D w ρ H v k)\/
     (¬iE i off cs.length i' j/\∃(x:K.El c)(c':K.U)(l':List (K.El c'))(u:Value),l[i']?=some x/\(D.cells c x)[j]?=some (.au c' l')/\w.cell? ⟨b,o+i'*K.sz c+j,none⟩=some u/\bS D w c' l' u k)
 have R:Row D w c (l.set i y) (df ((vs.toList.drop o).take (l.length*K.sz c)) (i*K.sz c+off) X.cells.toList) F:=by
  refine⟨by rw[iH,hbl,List.length_set],fun i' x1 hx1 j v u hv hu=>?_,?_⟩
  ·have hj:j<K.sz c:=by rw[<-hD.len c x1];exact(List.getElem?_eq_some_iff.1 hv).1
   rw[gC _ _ _ _ (by rw[hbl];omega)]at hu;have out:∀{x1:K.El c},¬iE i off cs.length i' j->l[i']?=some x1->(D.cells c x1)[j]?=some v->w.cell? ⟨b,o+i'*K.sz c+j,none⟩=some u->eM D w v u (F i' j):=fun{x1} hh hx1 hv1 hu'=>by
    obtain⟨k1,k2⟩:=h7 i' x1 hx1 j v u hh hv1 hu';exact(eM.mk (G:=fun k=>∃(c':K.U)(l':List (K.El c')),v=.au c' l'/\bS D w c' l' u k) k1 fun c' l' e=>⟨(k2 c' l' e).1,fun k hk=>⟨c',l',e,hk⟩⟩).mono fun k ⟨c',l',e,hk⟩=>.inr ⟨hh,x1,c',l',u,hx1,by rw[hv1,e],hu',hk⟩
   rcases cI hx1 with⟨rfl,rfl,-⟩|⟨hne,hx1⟩
   ·by_cases hh:off<=j/\j<off+cs.length
    ·rw[if_pos (by omega)]at hu;have e1:i'*K.sz c+j-(i'*K.sz c+off)=j-off:=by omega
     rw[e1]at hu;have iK:=List.getElem?_eq_getElem (show j-off<x.aZ.length by omega);obtain⟨v',hv',hgc⟩:=gg _ _ iK;obtain⟨k1,k2⟩:=xt hD hs hgc (hc.2 _ _ _ iK hu);have hg2:=j9 j;rw[if_pos (by omega),hv']at hg2;rcases dd j _ v hg2 hv with rfl|⟨rfl,c',rfl⟩
     ·exact k1.mono fun k hk=>.inl ⟨⟨rfl,hh⟩,_,iK,hk⟩
     ·rw[k2 rfl];refine⟨fun e=>(by cases e),fun c l e=>?_⟩;cases e;exact⟨.nil,fun k hk=>by cases hk⟩
    ·rw[if_neg (by omega)]at hu;have hg2:=j9 j;rw[if_neg (by omega)]at hg2;have ha:=List.getElem?_eq_getElem (show j<(D.cells c x0).length by rw[hD.len];exact hj);have hv0:(D.cells c x0)[j]?=some v:=by
      rw[ha]at hg2;rcases dd j _ _ hg2 hv with e|⟨e,-⟩
      ·rw[ha,e]
      ·exact absurd e (hD.kinds c _ j _ ha).1
     exact out (fun h=>hh h.2) hx0 hv0 (xw _ _ _ hu)
   ·have hno:¬(i*K.sz c+off<=i'*K.sz c+j/\i'*K.sz c+j<i*K.sz c+off+X.cells.toList.length):=fun⟨q1,q2⟩=>by
     rcases Nat.lt_or_gt_of_ne hne with hlt|hlt
     ·have:=Nat.mul_le_mul_right (K.sz c) (show i'+1<=i by omega);rw[Nat.add_mul,Nat.one_mul]at this;omega
     ·have:=Nat.mul_le_mul_right (K.sz c) (show i+1<=i' by omega);rw[Nat.add_mul,Nat.one_mul]at this;omega
    rw[if_neg hno]at hu;exact out (fun h=>hne h.1) hx1 hv (xw _ _ _ hu)
  ·rintro i1 j1 i2 j2 k (⟨a1,v1,a2,a3⟩|⟨a1,x1,c1,l1,u1,a2,a3,a4,a5⟩) (⟨e1,v2,e2,e3⟩|⟨e1,x2,c2,l2,u2,e2,e3,e4,e5⟩)
   ·obtain⟨h1,o1,r1,q1,q2,q3,q4,q5⟩:=a3;obtain⟨h2,o2,r2,p1,p2,p3,p4,p5⟩:=e3;subst q1;subst p1;have:=hs.ct _ _ _ _ _ _ _ q2 q3 q4 q5 p2 p3 p4 p5;subst this;have:=uv hn2 a2 e2;obtain⟨rfl,b1,b2⟩:=a1;obtain⟨rfl,d1,d2⟩:=e1;exact⟨rfl,by omega⟩
   ·exact(nZ k ⟨b,o,_,cp,rfl,.inr ⟨i2,j2,x2,c2,l2,u2,e1,e2,e3,e4,e5⟩⟩ v1 a3 _ a2).elim
   ·exact(nZ k ⟨b,o,_,cp,rfl,.inr ⟨i1,j1,x1,c1,l1,u1,a1,a2,a3,a4,a5⟩⟩ v2 e3 _ e2).elim
   ·exact h8 i1 j1 i2 j2 x1 x2 c1 l1 c2 l2 u1 u2 k a1 e1 a2 e2 a3 e3 a4 e4 a5 e5
 have j8:dh D w ρ H (h::bg x.aZ) b:=⟨h,_,_,by simp,ho,rfl,hb,b,o,_,cp,rfl,.inl rfl⟩;have nY:∀i2 j k,F i2 j k->dh D w ρ H (h::bg x.aZ) k/\k≠b:=fun i2 j k hk=>by
  rcases hk with⟨-,v,a2,a3⟩|⟨a1,x1,c1,l1,u1,a2,a3,a4,a5⟩
  ·refine⟨?_,fun e=>by subst e;exact nZ _ ⟨_,o,_,cp,rfl,.inl rfl⟩ v a3 _ a2⟩;obtain⟨h',o',r',e,q2,q3,q4,q5⟩:=a3;subst e;exact⟨h',o',r',List.mem_cons.2 (.inr (sg a2)),q2,q3,q4,q5⟩
  ·refine⟨⟨h,_,_,by simp,ho,rfl,hb,b,o,_,cp,rfl,.inr ⟨i2,j,x1,c1,l1,u1,a1,a2,a3,a4,a5⟩⟩,fun e=>?_⟩;subst e;exact((h7 i2 x1 a2 j _ u1 a1 a3 a4).2 c1 l1 rfl).2 a5
 have RW:Row D w' c (l.set i y) _ F:=R.world fun i j k hk=>e5 k (nY i j k hk).2
 have hsize:vs'.size=vs.size:=by have:=congrArg List.length e3;rw[iH]at this;simpa using this
 have hlz:X.cells.size=n:=by simpa using hlen
 obtain⟨T1,T2⟩:=RW.tree hD e2 (o:=o) (cap:=cp) ⟨by simpa using hcap,bZ⟩ (by omega) hfr (fun k hk=>by
  rw[List.length_set]at hk;rw[e3,gC _ _ _ _ (by simp;omega),gC _ _ _ _ (by rw[hbl];omega)];by_cases hc2:i*K.sz c+off<=k/\k<i*K.sz c+off+X.cells.toList.length
  ·rw[if_pos (by omega),if_pos hc2];congr 1;omega
  ·rw[if_neg (by omega),if_neg hc2,List.getElem?_take,if_pos hk,List.getElem?_drop]) (fun i j h=>(nY i j b h).2 rfl)
 rw[List.length_set]at T1 T2;refine OH hs ho rfl hb (w':=w') ?_ e4 (fun k hno=>e5 k fun e=>by subst e;exact hno j8) e6 e7 e8 T1 fun k hk=>?_
 ·have:(storeVar t ⟨b,o+i*K.sz c+off,none⟩ X).run P w=.ok () w':=by rw[xi hn (by simpa using hlen)];exact e1
  simp[Instr.storeAt,Instr.sureAddr,this]
 ·rcases T2 k hk with rfl|⟨i,j,_,h⟩
  ·exact j8
  ·exact(nY i j k h).1
theorem ab4{cx:Cx K}(hD:aX cx.D)(hs:aD cx.D ρ S w H){ev:Operand->AV K}{ρe:Operand->Value}(hev:∀x,Rep cx.D ρ S w (ev x) (ρe x)){o:Oper}{v:AV K}{H':List (Ob K)}{c:Bool}{t:List Nat}
 (h:lB cx ev H o.op=some (v,H',c,t)) (hc:c=true):Does cx.D cx.P ρ S H w (execOp ρe o) v H':=by
 unfold lB at h;unfold execOp;split at h
 all_goals first|(cases h;done)|(rename_i hop;rw[hop];dsimp only)
 ·
  rename_i T len cap;split at h
  ·cases h
  ·rename_i e he;split at h
   ·rename_i cc z kl n kc m hty hz hl hcp;split at h
    ·rename_i hcond;obtain⟨-,hsz,hroom,hk⟩:=hcond;split at h
     ·rename_i zs hg;split at h
      ·rename_i y b hdec;simp only[Option.some.injEq,Prod.mk.injEq]at h;obtain⟨rfl,rfl,rfl,rfl⟩:=h;have h1:=hev len;rw[hl]at h1;have h2:=hev cap;rw[hcp]at h2;rw[cg h1,cg h2];simp only[Bool.and_eq_true,decide_eq_true_eq]at hc;obtain⟨hb,hc⟩:=hc;subst hb;exact abT hD hs he hsz hroom hz hk hg hdec hc.1 hc.2.1 hc.2.2 (jY hty)
      ·cases h
     ·cases h
    ·cases h
   ·cases h
 ·
  rename_i T len parts;split at h
  ·cases h
  ·rename_i e he;split at h
   ·rename_i cc l hty hl;split at h
    ·rename_i hcond;obtain⟨-,hsz,hz,hlen,h1,h2,hall,hnd⟩:=hcond;split at h
     ·rename_i l' hg;split at h
      ·rename_i y b hdec;simp only[Option.some.injEq,Prod.mk.injEq]at h;obtain⟨rfl,rfl,rfl,rfl⟩:=h;subst hc;exact abW hD hs hev he hsz hz hl hlen h1 h2 hall hnd hg hdec (jY hty)
      ·cases h
     ·cases h
    ·cases h
   ·cases h
 ·
  rename_i T p x;split at h
  ·rename_i hh st i off n hp hn;split at h
   ·rename_i cc l hob;split at h
    ·rename_i hcond;obtain⟨rfl,hoff,ft,h1,hnd⟩:=hcond;split at h
     ·rename_i xs hg;split at h
      ·rename_i y b hdec;simp only[Option.some.injEq,Prod.mk.injEq]at h;obtain⟨rfl,rfl,rfl,rfl⟩:=h;subst hc;have hA:=hev p;rw[hp]at hA;exact ab2 hD hs hn ft h1 hob hoff hnd hg hdec (hev x) hA
      ·cases h
     ·cases h
    ·cases h
   ·rename_i cc l i' off' cs hob;split at h
    ·rename_i hcond;obtain⟨rfl,rfl,hcn,ft,h1,hnd⟩:=hcond;split at h
     ·rename_i xs hg;split at h
      ·rename_i y b hdec;simp only[Option.some.injEq,Prod.mk.injEq]at h;obtain⟨rfl,rfl,rfl,rfl⟩:=h;simp only[Bool.and_eq_true,decide_eq_true_eq]at hc;obtain⟨rfl,rfl⟩:=hc;have hA:=hev p;rw[hp]at hA;exact ab3 hD hs hn hcn ft h1 hob hnd hg hdec (hev x) hA
      ·cases h
     ·cases h
    ·cases h
   ·cases h
  ·cases h
 ·
  rename_i args argTypes;split at h
  ·rename_i s x sT xT hargs hat;have ea:args= #[s,x]:=by rw[<-Array.toArray_toList (xs:=args),hargs]
   have et:argTypes= #[sT,xT]:=by rw[<-Array.toArray_toList (xs:=argTypes),hat]
   subst ea;subst et;have hres:(do let d<-resolve ρe {callee:=.builtin .append,args:= #[s,x],argTypes:= #[sT,xT]} o.type;invoke d.target d.args:Sem Next)=
    (do pure (.value (<-Builtin.append_ #[sT,xT] o.type #[ρe s,ρe x])):Sem Next):=by simp[resolve,invoke,builtin]
   rw[hres];split at h
   ·cases h
   ·rename_i hxT;simp only[Bool.or_eq_true,not_or,Bool.not_eq_true,Option.isSome_eq_false_iff,Option.isNone_iff_eq_none]at hxT;obtain⟨hx1,hx2⟩:=hxT;obtain⟨d,hd⟩:=Option.ne_none_iff_exists'.1 hx2;have hdk:∀k,d≠.int k:=fun k e=>by subst e;simp[rA,hd]at hx1
    split at h
    ·cases h
    ·rename_i e he;split at h
     ·cases h
     ·rename_i cc hty;split at h
      ·rename_i hcond;obtain⟨-,hsz,hroom,hz⟩:=hcond;obtain⟨i,hi,hisz⟩:=j0 hsz;obtain⟨z,hzv,hzs⟩:=xk hz hi;have hb:=ug hroom hi;split at h
       ·rename_i l ks m ks' hl hm;split at h
        ·rename_i hnd;simp only[Option.some.injEq,Prod.mk.injEq]at h;obtain⟨rfl,rfl,rfl,rfl⟩:=h;exact ab1 hD hs (dZ he) hd hdk hi hisz hzv (by rw[hzs,hisz]) hb hl hm hnd (hev s) (hev x) (by simpa using hc) (jY hty)
        ·cases h
       ·cases h
      ·cases h
  ·cases h
theorem ab5{cx:Cx K}(hD:aX cx.D)(hs:aD cx.D ρ S w H){ev:Operand->AV K}{ρe:Operand->Value}(hev:∀x,Rep cx.D ρ S w (ev x) (ρe x)){o:Oper}{v:AV K}{H':List (Ob K)}{c:Bool}{t:List Nat}
 (h:lF cx ev H o.op=some (v,H',c,t)) (hc:c=true):∃S1 H1,Step cx.D H.length ρ S H w ρ S1 H1 w/\H1.length=H.length/\Does cx.D cx.P ρ S1 H1 w (execOp ρe o) v H':=by
 unfold lF at h;split at h
 ·rename_i r hd;simp only[Option.some.injEq]at h;subst h;exact⟨S,H,Step.refl,rfl,ab4 hD hs (fun x=>ji hs _ _ (hev x)) hd hc⟩
 split at h
 ·exact⟨S,H,Step.refl,rfl,Oi hD hs (fun x=>ji hs _ _ (hev x)) h hc⟩
 ·generalize eZ ev o.op=hs0 at h;obtain⟨S1,g1,g2,g3⟩:=w8 (n0:=H.length) hs0 hs;have hev1:∀x,Rep cx.D ρ S1 w (bW (eb H hs0) (ev x)) (ρe x):=fun x=>ji g1 _ _ ((hev x).mono g2.s1 (fun _ _=>rfl) (fun _ _ h=>h))
  refine⟨S1,_,g2,g3,?_⟩;split at h
  ·rename_i v1 c1 hp;simp only[Option.some.injEq,Prod.mk.injEq]at h;obtain⟨rfl,rfl,rfl,rfl⟩:=h;obtain⟨u,hu,hr⟩:=N4 hD g1 hev1 hp hc;exact⟨_,u,w,ρ,hu,.inl rfl,g1,hr,Step.refl⟩
  ·exact Oi hD g1 hev1 h hc
end Go.V
namespace Go.V
open Go
variable {K :bL}{D:aT K}{ρ ρ':List Value}{S S':Nat->Prop}{w w':World}{H H':List (Ob K)}
theorem ab6:∀(zs cs:List (AV K))(q j:Nat),q+zs.length<=cs.length->(setCells cs q zs)[j]?=if q<=j/\j<q+zs.length then zs[j-q]? else cs[j]?:=fun zs=>by
 induction zs with
 |nil=>intro cs q j _;rw[if_neg (by first|omega|simp)];rfl
 |cons z r ih=>
  intro cs q j hq;simp only[List.length_cons]at hq;rw[setCells,ih _ _ _ (by simp;omega)];by_cases h1:q+1<=j/\j<q+1+r.length
  ·rw[if_pos h1,if_pos (by simp;omega),show j-q=(j-(q+1))+1 by omega];rfl
  ·rw[if_neg h1];by_cases h2:j=q
   ·subst h2;rw[if_pos (by simp),List.getElem?_set];simp;omega
   ·rw[if_neg (by simp;omega),List.getElem?_set,if_neg (by omega)]
theorem aD.split(hs:aD D ρ S w H){h:Nat}{o o':Ob K}{r:Value}{os:List (Ob K)}{rs:List Value}(h1:H[h]?=some o)(h2:o.live=true)(h3:ρ[h]?=some r)(hl:rs.length=os.length)
 (ho:∀(m:Nat) p q,os[m]?=some p->rs[m]?=some q->cV D (ρ++rs) S w p q/\∀k,bj D w p q k->bj D w o r k)
 (hd:∀(m m':Nat) p p' q q' k,os[m]?=some p->rs[m]?=some q->os[m']?=some p'->rs[m']?=some q'->bj D w p q k->bj D w p' q' k->m=m')
 (ho':cV D (ρ++rs) S w o' r) (hf':∀k,bj D w o' r k->bj D w o r k) (hx:∀(m:Nat) p q k,os[m]?=some p->rs[m]?=some q->bj D w p q k->¬bj D w o' r k):
 aD D (ρ++rs) S w (H.set h o'++os)/\Step D H.length ρ S H w (ρ++rs) S (H.set h o'++os) w:=by
 have hlen:=hs.len;have key:∀(k:Nat) x y,(H.set h o'++os)[k]?=some x->(ρ++rs)[k]?=some y->(k=h/\x=o'/\y=r)\/(k≠h/\k<H.length/\H[k]?=some x/\ρ[k]?=some y)\/(H.length<=k/\os[k-H.length]?=some x/\rs[k-H.length]?=some y):=fun k x y hk hy=>by
  by_cases hkl:k<H.length
  ·rw[List.getElem?_append_left (by simpa using hkl)]at hk;rw[List.getElem?_append_left (by omega)]at hy;rcases cI hk with⟨rfl,rfl,-⟩|⟨hne,hk⟩
   ·rw[h3]at hy;simp at hy;exact .inl ⟨rfl,rfl,hy.symm⟩
   ·exact .inr (.inl ⟨hne,hkl,hk,hy⟩)
  ·rw[List.getElem?_append_right (by simp;omega)]at hk;rw[List.getElem?_append_right (by omega)]at hy;simp only[List.length_set]at hk;rw[hlen]at hy;exact .inr (.inr ⟨by omega,hk,hy⟩)
 have own:∀b,Own D w (ρ++rs) (H.set h o'++os) b->Own D w ρ H b:=fun b ⟨k,x,y,g1,g2,g3,g4⟩=>by
  rcases key k x y g1 g3 with⟨-,rfl,rfl⟩|⟨-,-,a,b⟩|⟨-,a,b⟩
  ·exact⟨h,o,_,h1,h2,h3,hf' _ g4⟩
  ·exact⟨k,x,y,a,g2,b,g4⟩
  ·exact⟨h,o,r,h1,h2,h3,(ho _ _ _ a b).2 _ g4⟩
 refine⟨⟨by simp[hlen,hl],fun k x y g1 g3=>?_,fun k k' x x' y y' b g1 g2 g3 g4 e1 e2 e3 e4=>?_,fun b hb=>hs.lt b (own b hb),hs.slt,hs.base⟩,rfl,rfl,rfl,Nat.le_refl _,fun _ _ _=>rfl,fun b hb=>.inl (own b hb),fun _ h=>h,fun _ h=>.inl h,fun k hk=>?_⟩
 ·rcases key k x y g1 g3 with⟨-,rfl,rfl⟩|⟨-,-,a,b⟩|⟨-,a,b⟩
  ·exact ho'
  ·exact(hs.ob _ _ _ a b).mono (fun _ h=>h) (fun _ _=>rfl) (fun _ _ h=>jh h) (fun _ _ _=>rfl)
  ·exact(ho _ _ _ a b).1
 ·have other:∀{k:Nat}{x:Ob K}{y:Value},k≠h->H[k]?=some x->x.live=true->ρ[k]?=some y->bj D w x y b->¬bj D w o r b:=fun{k x y} hn a1 a2 a3 a4 a5=>hn (hs.ct _ _ _ _ _ _ _ a1 a2 a3 a4 h1 h2 h3 a5)
  rcases key k x y g1 g3 with⟨rfl,rfl,rfl⟩|⟨n1,l1,a1,b1⟩|⟨l1,a1,b1⟩
  ·rcases key k' x' y' e1 e3 with⟨rfl,rfl,rfl⟩|⟨n2,l2,a2,b2⟩|⟨l2,a2,b2⟩
   ·rfl
   ·exact absurd (hf' _ g4) (other n2 a2 e2 b2 e4)
   ·exact absurd g4 (hx _ _ _ _ a2 b2 e4)
  ·rcases key k' x' y' e1 e3 with⟨rfl,rfl,rfl⟩|⟨n2,l2,a2,b2⟩|⟨l2,a2,b2⟩
   ·exact absurd (hf' _ e4) (other n1 a1 g2 b1 g4)
   ·exact hs.ct _ _ _ _ _ _ _ a1 g2 b1 g4 a2 e2 b2 e4
   ·exact absurd ((ho _ _ _ a2 b2).2 _ e4) (other n1 a1 g2 b1 g4)
  ·rcases key k' x' y' e1 e3 with⟨rfl,rfl,rfl⟩|⟨n2,l2,a2,b2⟩|⟨l2,a2,b2⟩
   ·exact absurd e4 (hx _ _ _ _ a1 b1 g4)
   ·exact absurd ((ho _ _ _ a1 b1).2 _ g4) (other n2 a2 e2 b2 e4)
   ·have:=hd _ _ _ _ _ _ _ a1 b1 a2 b2 g4 e4;omega
 ·rw[List.getElem?_append_left (by omega)]
theorem Tree.arr(hD:aX D){c:K.U}{l:List (K.El c)}{r:Value}(hfl:bM (D.cells c (K.zero c))=false)(h:Tree D w c l r):cV D ρ S w (.arr c l) r/\∀k,dj r=some k->bS D w c l r k:=by
 cases h with
 |nil=>exact⟨.inl ⟨rfl,rfl⟩,fun k hk=>by cases hk⟩
 | @mk _ _ b o cap vs T fr hb hcap hsz hfr hlen dR gA hself hdis=>
   refine⟨.inr ⟨b,o,cap,vs,T,fr,rfl,hb,hcap,hsz,hfr,fun i x hx=>⟨hlen i x hx,fun j v y hv hy=>?_⟩⟩,fun k hk=>?_⟩
   ·have hrd:v.gz=false:=by
     cases hd:v.gz
     ·rfl
     ·obtain⟨c',l',rfl⟩:=wY hd;have:bM (D.cells c x)=true:=by
       have hm:=List.mem_of_getElem? hv;generalize D.cells c x=L at hm
       induction L with
       |nil=>cases hm
       |cons a r ih=>
        simp only[bM,Bool.or_eq_true];rcases List.mem_cons.1 hm with rfl|hm
        ·exact .inl rfl
        ·exact .inr (ih hm)
      rw[hD.flat,hfl]at this;cases this
    exact(dR i x hx j v y hv hy hrd).2.mono (fun _ h=>h.elim) (fun _ h=>h.elim) (fun _ _ h=>by simp at h)
   ·simp only[dj,Option.some.injEq]at hk;subst hk;exact .here
theorem Dc(hD:aX D){dp:K.U->Bool}:∀(cells:List (AV K))(us:List Value)(n:Nat)(cs:List (AV K))(os:List (Ob K))(G:Nat->Nat->Prop),lC D dp n cells=some (cs,os)->cells.length=us.length->
 (∀(j:Nat) v u,cells[j]?=some v->us[j]?=some u->eM D w v u (G j))->∃(rs:List Value)(f:Nat->Nat),rs.length=os.length/\cs.length=cells.length/\(∀m m',f m=f m'->m=m')/\(∀m,m<os.length->f m<cells.length)/\
   (∀ρ0:List Value,ρ0.length=n->∀(j:Nat) v u,cs[j]?=some v->us[j]?=some u->Rep D (ρ0++rs) S w v u)/\
   ∀(m:Nat) p q,os[m]?=some p->rs[m]?=some q->(∀ρ,cV D ρ S w p q)/\∀k,bj D w p q k->G (f m) k
 |[],us,n,cs,os,G,h,hl,hok=>by
   simp only[lC,Option.some.injEq,Prod.mk.injEq]at h;obtain⟨rfl,rfl⟩:=h;exact⟨[],id,rfl,rfl,fun _ _ h=>h,fun m hm=>by simp at hm,fun _ _ j v u h=>by simp at h,fun m p q h=>by simp at h⟩
 |x::r,us,n,cs,os,G,h,hl,hok=>by
  cases us with
  |nil=>simp at hl
  |cons y t=>
   have hx:=hok 0 x y rfl rfl;have hok':∀(j:Nat) v u,r[j]?=some v->t[j]?=some u->eM D w v u (G (j+1)):=fun j v u hv hu=>hok (j+1) v u (by simpa using hv) (by simpa using hu)
   have hl':r.length=t.length:=by simpa using hl
   by_cases hd:x.gz=true
   ·obtain⟨c,l,rfl⟩:=wY hd;simp only[lC]at h;split at h
    ·rename_i hc;split at h
     ·rename_i cs' os' hr;simp only[Option.some.injEq,Prod.mk.injEq]at h;obtain⟨rfl,rfl⟩:=h;obtain⟨rs,f,a1,a2,a3,a4,a5,a6⟩:=Dc hD r t (n+1) cs' os' (fun j=>G (j+1)) hr hl' hok';obtain⟨hT,hG⟩:=hx.kid c l rfl;refine⟨y::rs,fun m=>match m with|0=>0|m+1=>f m+1,by simp[a1],by simp[a2],fun m m' e=>?_,fun m hm=>?_,fun ρ0 h0 j v u hv hu=>?_,fun m p q hp hq=>?_⟩
      ·cases m<;>cases m'<;>simp at e<;>first|rfl|exact congrArg (· +1) (a3 _ _ e)
      ·cases m with
       |zero=>simp
       |succ m=>have:=a4 m (by simpa using hm);simp;exact this
      ·cases j with
       |zero=>
        simp at hv hu;subst hv;subst hu;obtain⟨a,cp,e⟩:=wZ hT;rw[e];exact .sl (by rw[List.getElem?_append_right (by omega),h0];simp[e])
       |succ j=>
        have:=a5 (ρ0++[y]) (by simp[h0]) j v u (by simpa using hv) (by simpa using hu);simpa using this
      ·cases m with
       |zero=>
        simp at hp hq;subst hp;subst hq;cases hdp:dp c
        ·rw[hdp]at hc;have hc':bM (D.cells c (K.zero c))=false:=by simpa using hc
         simp only[cond_false];exact⟨fun ρ=>(hT.arr hD hc').1,fun k hk=>hG k ((hT.arr (ρ:=[]) (S:=S) hD hc').2 k hk)⟩
        ·simp only[cond_true];exact⟨fun ρ=>hT,fun k hk=>hG k hk⟩
       |succ m=>exact a6 m p q (by simpa using hp) (by simpa using hq)
     ·cases h
    ·cases h
   ·have hd':x.gz=false:=by simpa using hd
    have e:lC D dp n (x::r)=(match lC D dp n r with
     |some (cs,os)=>some (x::cs,os)
     |none=>none):=by
     cases x<;>first|rfl|(simp[AV.gz]at hd)
    rw[e]at h;split at h
    ·rename_i cs' os' hr;simp only[Option.some.injEq,Prod.mk.injEq]at h;obtain⟨rfl,rfl⟩:=h;obtain⟨rs,f,a1,a2,a3,a4,a5,a6⟩:=Dc hD r t n cs' os' (fun j=>G (j+1)) hr hl' hok';refine⟨rs,fun m=>f m+1,a1,by simp[a2],fun m m' e=>a3 _ _ (by simpa using e),fun m hm=>by have:=a4 m hm;simp;exact this,fun ρ0 h0 j v u hv hu=>?_,fun m p q hp hq=>a6 m p q hp hq⟩;cases j with
     |zero=>
      simp at hv hu;subst hv;subst hu;exact(hx.flat hd').2.mono (fun _ h=>h.elim) (fun _ h=>h.elim) (fun _ _ h=>by simp at h)
     |succ j=>exact a5 ρ0 h0 j v u (by simpa using hv) (by simpa using hu)
    ·cases h
theorem ON{b:Nat}{vs:Array Value}{T:TypeId}{fr:Nat×Nat}(hb:w.heap[b]?=some (.cells vs T fr))(k:Nat):w.cell? ⟨b,k,none⟩=vs.toList[k]?:=by
 simp[World.cell?,hb]
theorem ab7{b p n j:Nat}{vs:Array Value}{T:TypeId}{fr:Nat×Nat}(hb:w.heap[b]?=some (.cells vs T fr))(hj:j<n):w.cell? ⟨b,p+j,none⟩=(bz vs p n)[j]?:=by
 rw[ON hb,r7 hj]
theorem ab8{cx:Cx K}(hD:aX cx.D)(hs:aD cx.D ρ S w H){ev:Operand->AV K}{ρe:Operand->Value}(hev:∀x,Rep cx.D ρ S w (ev x) (ρe x)){o:Oper}{v:AV K}{H':List (Ob K)}{c:Bool}{t:List Nat}
 (h:lD cx ev H o.op=some (v,H',c,t)):Does cx.D cx.P ρ S H w (execOp ρe o) v H':=by
 unfold lD at h;unfold execOp;split at h
 ·rename_i T p hop;rw[hop];dsimp only;split at h
  ·split at h
   ·rename_i hh st i off ag n hp hag hn;split at h
    ·rename_i c0 l ho;split at h
     ·rename_i hcond;obtain⟨hst,hoff,hn0⟩:=hcond;subst hst;split at h
      ·rename_i cs os OO;simp only[Option.some.injEq,Prod.mk.injEq]at h;obtain⟨rfl,rfl,-,-⟩:=h;have hX:=hev p;rw[hp]at hX;obtain⟨b,q,m,cp,hXe,hb,hi⟩:=iF hX;have hT:Tree cx.D w c0 l (.slice (some ⟨b,q,none⟩) m cp):=hs.ob _ _ _ ho hb;have hfr0:∀k,e9 cx.D w c0 l i off cs.length (.slice (some ⟨b,q,none⟩) m cp) k->bS cx.D w c0 l (.slice (some ⟨b,q,none⟩) m cp) k:=by
        rintro k ⟨b',q',m',cp',e,rfl|⟨i',j',x,c',l',y,-,g2,g3,g4,g5⟩⟩
        ·cases e;exact .here
        ·cases e;exact .kid g2 g3 g4 g5
       generalize hR:(Value.slice (some ⟨b,q,none⟩) m cp)=R at hT hfr0;cases hT with
       |nil=>cases hR
       | @mk _ _ b' q' cap vs TT fr hblk hcap hsz hfr hlen dR gA hself hdis=>
       cases hR;have hx0:=getD_some (K.zero c0) hi;generalize l.getD i (K.zero c0)=x0 at hx0 OO;have hc0:(cx.D.cells c0 x0).length=K.sz c0:=hD.len _ _;have hcl:(((cx.D.cells c0 x0).drop off).take n).length=n:=by simp[hc0];omega
       have hsl:(bz vs (q+i*K.sz c0) (K.sz c0)).length=K.sz c0:=by rw[<-hlen i x0 hx0,hc0]
       have lR:(((bz vs (q+i*K.sz c0) (K.sz c0)).drop off).take n).length=n:=by simp[hsl];omega
       have hcg:∀j,j<n->(((cx.D.cells c0 x0).drop off).take n)[j]?=(cx.D.cells c0 x0)[off+j]?:=fun j hj=>by rw[List.getElem?_take,if_pos hj,List.getElem?_drop]
       have Df:∀j,j<n->(((bz vs (q+i*K.sz c0) (K.sz c0)).drop off).take n)[j]?=(bz vs (q+i*K.sz c0) (K.sz c0))[off+j]?:=fun j hj=>by rw[List.getElem?_take,if_pos hj,List.getElem?_drop]
       have hlt:∀{j:Nat}{v:AV K},(((cx.D.cells c0 x0).drop off).take n)[j]?=some v->j<n:=fun{j v} h=>by rw[<-hcl];exact(List.getElem?_eq_some_iff.1 h).1
       obtain⟨rs,f,a1,a2,a3,a4,a5,a6⟩:=Dc (S:=S) (w:=w) hD _ (((bz vs (q+i*K.sz c0) (K.sz c0)).drop off).take n) H.length cs os
        (fun j k=>∃(c':K.U)(l':List (K.El c'))(u:Value),(cx.D.cells c0 x0)[off+j]?=some (.au c' l')/\(bz vs (q+i*K.sz c0) (K.sz c0))[off+j]?=some u/\bS cx.D w c' l' u k) OO (by rw[hcl,lR]) (fun j v u hv hu=>by
          have hj:=hlt hv;rw[hcg j hj]at hv;rw[Df j hj]at hu;exact⟨fun hd=>dR i x0 hx0 _ _ _ hv hu hd,fun c' l' e=>by subst e;exact⟨gA i x0 hx0 _ _ _ _ hv hu,fun k hk=>⟨c',l',u,hv,hu,hk⟩⟩⟩)
       rw[hcl]at a2 a4;have hrl:=hs.len;have hG:∀j k,(∃(c':K.U)(l':List (K.El c'))(u:Value),(cx.D.cells c0 x0)[off+j]?=some (.au c' l')/\(bz vs (q+i*K.sz c0) (K.sz c0))[off+j]?=some u/\bS cx.D w c' l' u k)->
        bS cx.D w c0 l (.slice (some ⟨b,q,none⟩) l.length cp) k:=fun j k ⟨c',l',u,g1,g2,g3⟩=>.kid hx0 g1 (seg_cell hblk g2) g3
       have hseg:∀{i' j':Nat}{x:K.El c0}{v:AV K}{u:Value},(cx.D.cells c0 x)[j']?=some v->w.cell? ⟨b,q+i'*K.sz c0+j',none⟩=some u->(bz vs (q+i'*K.sz c0) (K.sz c0))[j']?=some u:=fun{i' j' x v u} hv hu=>by
        rw[<-ab7 hblk (by rw[<-hD.len c0 x];exact(List.getElem?_eq_some_iff.1 hv).1)];exact hu
       have hfm:∀{m:Nat}{p:Ob K},os[m]?=some p->f m<n:=fun{m p} h=>a4 m (List.getElem?_eq_some_iff.1 h).1
       obtain⟨s1,s2⟩:=hs.split (o':=.opn c0 l i off cs) (os:=os) (rs:=rs) ho rfl hb a1
        (fun m p q h1 h2=>⟨(a6 m p q h1 h2).1 _,fun k hk=>hG _ _ ((a6 m p q h1 h2).2 k hk)⟩)
        (fun m m' p p' q q' k h1 h2 h3 h4 h5 h6=>by
          obtain⟨c1,l1,u1,g1,g2,g3⟩:=(a6 m p q h1 h2).2 k h5;obtain⟨c2,l2,u2,e1,e2,e3⟩:=(a6 m' p' q' h3 h4).2 k h6;have:=(hdis i x0 hx0 _ _ _ _ g1 g2 i x0 hx0 _ _ _ _ e1 e2 k g3 e3).2;exact a3 _ _ (by omega))
        (by
          refine⟨b,q,cp,vs,TT,fr,rfl,hblk,hcap,hsz,hfr,hi,by rw[a2];exact hoff,fun i' x hx j' v u hh hv hu=>?_,fun i1 j1 i2 j2 x1 x2 c1 l1 c2 l2 u1 u2 k _ _ b1 b2 b3 b4 b5 b6 b7 b8=>?_,fun j v hv=>?_⟩
          ·have hu':=hseg hv hu;exact⟨fun hd=>dR i' x hx _ _ _ hv hu' hd,fun c' l' e=>by subst e;exact⟨gA i' x hx _ _ _ _ hv hu',hself i' x hx _ _ _ _ hv hu'⟩⟩
          ·exact hdis i1 x1 b1 j1 c1 l1 u1 b3 (hseg b3 b5) i2 x2 b2 j2 c2 l2 u2 b4 (hseg b4 b6) k b7 b8
          ·have hj:j<n:=by rw[<-a2];exact(List.getElem?_eq_some_iff.1 hv).1
           have hu:=List.getElem?_eq_getElem (show j<(((bz vs (q+i*K.sz c0) (K.sz c0)).drop off).take n).length by rw[lR];exact hj);refine⟨_,?_,a5 ρ hrl j v _ hv hu⟩;rw[Df j hj]at hu;have:=seg_cell hblk hu
           rwa [<-Nat.add_assoc]at this)
        hfr0
        (fun m p q' k h1 h2 h3 hO=>by
          obtain⟨c1,l1,u1,g1,g2,g3⟩:=(a6 m p q' h1 h2).2 k h3;obtain⟨b',q',m',cp',e,rfl|⟨i',j',x,c',l',y,hh,k2,k3,k4,k5⟩⟩:=hO
          ·cases e;exact hself i x0 hx0 _ _ _ _ g1 g2 g3
          ·cases e;obtain⟨rfl,rfl⟩:=hdis i x0 hx0 _ _ _ _ g1 g2 i' x k2 _ _ _ _ k3 (hseg k3 k4) k g3 k5;exact hh ⟨rfl,by omega,by have:=hfm h1;omega⟩)
       have hM:aI cx.D (ρ++rs) S w (List.replicate off .any++cs++List.replicate (K.sz c0-off-n) .any) (bz vs (q+i*K.sz c0) (K.sz c0)):=by
        refine⟨by simp[hsl,a2];omega,fun j v u hv hu=>?_⟩;by_cases h1:j<off
        ·rw[List.getElem?_append_left (by simp;omega),List.getElem?_append_left (by simpa using h1),List.getElem?_replicate,if_pos h1]at hv;simp at hv;subst hv;exact .any _
        ·by_cases h2:j<off+n
         ·rw[List.getElem?_append_left (by simp[a2];omega),List.getElem?_append_right (by simp;omega),List.length_replicate]at hv;refine a5 ρ hrl (j-off) v u hv ?_;rw[Df _ (by omega),show off+(j-off)=j by omega];exact hu
         ·rw[List.getElem?_append_right (by simp[a2];omega),List.getElem?_replicate]at hv;split at hv
          ·simp at hv;subst hv;exact .any _
          ·cases hv
       have htk:fl cx.P T (List.replicate off .any++cs++List.replicate (K.sz c0-off-n) .any) off=some (cond ag (.agg cs) (cs.getD 0 .any)):=by
        unfold fl;rw[hag,hn];have hdr:(List.replicate off AV.any++cs++List.replicate (K.sz c0-off-n) AV.any).drop off=cs++List.replicate (K.sz c0-off-n) (AV.any:AV K):=by
         rw[List.append_assoc,List.drop_append_of_le_length (by simp)];simp
        cases ag with
        |true=>
         simp only[cond_true];rw[if_pos (by simp[a2]),hdr,List.take_append_of_le_length (by omega),List.take_of_length_le (by omega)]
        |false=>
         simp only[cond_false];rw[List.append_assoc,List.getElem?_append_right (by simp)];simp only[List.length_replicate,Nat.sub_self];rw[List.getElem?_append_left (by omega)];rw[List.getD_eq_getElem?_getD,List.getElem?_eq_getElem (by omega)];rfl
       obtain⟨u,hu,hr⟩:=nS (P:=cx.P) (o:=q+i*K.sz c0) (b:=b) htk (by
        intro j y hy;have:=lP hblk (q+i*K.sz c0) (K.sz c0) j y hy;exact this) hM
       refine⟨_,u,w,ρ++rs,cN (f:=.value) ?_,.inl rfl,s1,hr,s2⟩;rw[hXe];simpa [Instr.loadAt,Instr.sureAddr]using hu
      ·cases h
     ·cases h
    ·cases h
   ·cases h
  ·cases h
 ·cases h
theorem OP(hD:aX D)(hs:aD D ρ S w H){n0:Nat}{t:List Nat}(h:shut D H=some (H',true,t)):aD D ρ S w H'/\Step D n0 ρ S H w ρ S H' w/\H'.length=H.length:=by
 unfold shut at h;split at h
 ·simp only[Option.some.injEq,Prod.mk.injEq]at h;obtain⟨rfl,-,-⟩:=h;exact⟨hs,Step.refl,rfl⟩
 ·rename_i h0 _;split at h
  ·rename_i c l i off cs ho;split at h
   ·rename_i hnd;split at h
    ·rename_i xs hg;split at h
     ·rename_i y bb hdec;simp only[Option.some.injEq,Prod.mk.injEq]at h;obtain⟨rfl,rfl,-⟩:=h;have hlt:h0<H.length:=(List.getElem?_eq_some_iff.1 ho).1;have hr:=List.getElem?_eq_getElem (show h0<ρ.length by rw[hs.len];exact hlt);generalize ρ[h0]'(by rw[hs.len];exact hlt)=r at hr;obtain⟨hn1,hn2⟩:=List.nodup_cons.1 (sf hnd);have hO:gB D ρ S w c l i off cs r:=hs.ob _ _ _ ho hr;obtain⟨b,o,cap,vs,T,fr,rfl,hblk,⟨hcap,bZ⟩,hsz,hfr,hi,hoff,h7,h8,h9⟩:=hO;have hx0:=getD_some (K.zero c) hi;generalize l.getD i (K.zero c)=x0 at hx0 hdec;obtain⟨gl,gg⟩:=se _ _ hg;obtain⟨dl,dd⟩:=hD.rN _ _ _ hdec;have j9:=fun j=>ab6 xs (D.cells c x0) off j (by rw[hD.len];omega)
      rw[gl]at j9;have hlc:l.length*K.sz c<=cap*K.sz c:=Nat.mul_le_mul_right _ hcap;have xw:∀(i' j:Nat) u,((vs.toList.drop o).take (l.length*K.sz c))[i'*K.sz c+j]?=some u->w.cell? ⟨b,o+i'*K.sz c+j,none⟩=some u:=fun i' j u hu=>by
       rw[List.getElem?_take]at hu;split at hu
       ·rw[List.getElem?_drop]at hu;rw[ON hblk,Nat.add_assoc];exact hu
       ·cases hu
      have nZ:∀k,e9 D w c l i off cs.length (.slice (some ⟨b,o,none⟩) l.length cap) k->∀v,j7 D w ρ H v k->∀j,cs[j]?=some v->False:=fun k hk v ⟨h',o',r',e,ho',hl',hr',hf'⟩ j hj=>by
       subst e;have:=hs.ct _ _ _ _ _ _ _ ho rfl hr hk ho' hl' hr' hf';subst this;exact hn1 (sg hj)
      let F:Nat->Nat->Nat->Prop:=fun i' j k=>(iE i off cs.length i' j/\∃v,cs[j-off]?=some v/\j7 D w ρ H v k)\/
          (¬iE i off cs.length i' j/\∃(x:K.El c)(c':K.U)(l':List (K.El c'))(u:Value),l[i']?=some x/\(D.cells c x)[j]?=some (.au c' l')/\w.cell? ⟨b,o+i'*K.sz c+j,none⟩=some u/\bS D w c' l' u k)
      have R:Row D w c (l.set i y) ((vs.toList.drop o).take (l.length*K.sz c)) F:=by
       refine⟨by simp;omega,fun i' x hx j v u hv hu=>?_,?_⟩
       ·have hu':=xw i' j u hu;have hj:j<K.sz c:=by rw[<-hD.len c x];exact(List.getElem?_eq_some_iff.1 hv).1
        have out:∀{x1:K.El c},¬iE i off cs.length i' j->l[i']?=some x1->(D.cells c x1)[j]?=some v->eM D w v u (F i' j):=fun{x1} hh hx1 hv1=>by
         obtain⟨k1,k2⟩:=h7 i' x1 hx1 j v u hh hv1 hu';exact(eM.mk (G:=fun k=>∃(c':K.U)(l':List (K.El c')),v=.au c' l'/\bS D w c' l' u k) k1 fun c' l' e=>⟨(k2 c' l' e).1,fun k hk=>⟨c',l',e,hk⟩⟩).mono fun k ⟨c',l',e,hk⟩=>.inr ⟨hh,x1,c',l',u,hx1,by rw[hv1,e],hu',hk⟩
        rcases cI hx with⟨rfl,rfl,-⟩|⟨hne,hx⟩
        ·by_cases hh:off<=j/\j<off+cs.length
         ·have hjn:j-off<cs.length:=by omega
          have iK:=List.getElem?_eq_getElem hjn;obtain⟨v',hv',hgc⟩:=gg _ _ iK;obtain⟨u',OQ,Ci⟩:=h9 _ _ iK;have hidx:o+i'*K.sz c+off+(j-off)=o+i'*K.sz c+j:=by omega
          rw[hidx,hu']at OQ;cases OQ;obtain⟨k1,k2⟩:=xt hD hs hgc Ci;have hg2:=j9 j;rw[if_pos (by omega),hv']at hg2;rcases dd j _ v hg2 hv with rfl|⟨rfl,c',rfl⟩
          ·exact k1.mono fun k hk=>.inl ⟨⟨rfl,hh⟩,_,iK,hk⟩
          ·rw[k2 rfl];refine⟨fun e=>(by cases e),fun c l e=>?_⟩;cases e;exact⟨.nil,fun k hk=>by cases hk⟩
         ·have hg2:=j9 j;rw[if_neg (by omega)]at hg2;have ha:=List.getElem?_eq_getElem (show j<(D.cells c x0).length by rw[hD.len];exact hj);have hv0:(D.cells c x0)[j]?=some v:=by
           rw[ha]at hg2;rcases dd j _ _ hg2 hv with e|⟨e,-⟩
           ·rw[ha,e]
           ·exact absurd e (hD.kinds c _ j _ ha).1
          exact out (fun h=>hh h.2) hx0 hv0
        ·exact out (fun h=>hne h.1) hx hv
       ·rintro i1 j1 i2 j2 k (⟨a1,v1,a2,a3⟩|⟨a1,x1,c1,l1,u1,a2,a3,a4,a5⟩) (⟨e1,v2,e2,e3⟩|⟨e1,x2,c2,l2,u2,e2,e3,e4,e5⟩)
        ·obtain⟨h1,o1,r1,q1,q2,q3,q4,q5⟩:=a3;obtain⟨h2,o2,r2,p1,p2,p3,p4,p5⟩:=e3;subst q1;subst p1;have:=hs.ct _ _ _ _ _ _ _ q2 q3 q4 q5 p2 p3 p4 p5;subst this;have:=uv hn2 a2 e2;obtain⟨rfl,b1,b2⟩:=a1;obtain⟨rfl,d1,d2⟩:=e1;exact⟨rfl,by omega⟩
        ·exact(nZ k ⟨b,o,_,cap,rfl,.inr ⟨i2,j2,x2,c2,l2,u2,e1,e2,e3,e4,e5⟩⟩ v1 a3 _ a2).elim
        ·exact(nZ k ⟨b,o,_,cap,rfl,.inr ⟨i1,j1,x1,c1,l1,u1,a1,a2,a3,a4,a5⟩⟩ v2 e3 _ e2).elim
        ·exact h8 i1 j1 i2 j2 x1 x2 c1 l1 c2 l2 u1 u2 k a1 e1 a2 e2 a3 e3 a4 e4 a5 e5
      obtain⟨T1,T2⟩:=R.tree hD hblk (o:=o) (cap:=cap) ⟨by simpa using hcap,bZ⟩ hsz hfr (fun k hk=>by
       rw[List.length_set]at hk;rw[List.getElem?_take,if_pos hk,List.getElem?_drop]) (fun i' j hF=>by
       rcases hF with⟨-,v,a2,a3⟩|⟨a1,x1,c1,l1,u1,a2,a3,a4,a5⟩
       ·exact nZ b ⟨b,o,_,cap,rfl,.inl rfl⟩ v a3 _ a2
       ·exact((h7 i' x1 a2 j _ u1 a1 a3 a4).2 c1 l1 rfl).2 a5)
      rw[List.length_set]at T1 T2;have hKF:∀k,bS D w c (l.set i y) (.slice (some ⟨b,o,none⟩) l.length cap) k->dh D w ρ H (h0::bg cs) k:=fun k hk=>by
       rcases T2 k hk with e|⟨i',j,-,⟨-,v,a2,h',o',r',e,q2,q3,q4,q5⟩|⟨a1,x1,c1,l1,u1,a2,a3,a4,a5⟩⟩
       ·exact⟨h0,_,_,by simp,ho,rfl,hr,b,o,_,cap,rfl,.inl e⟩
       ·subst e;exact⟨h',o',r',List.mem_cons.2 (.inr (sg a2)),q2,q3,q4,q5⟩
       ·exact⟨h0,_,_,by simp,ho,rfl,hr,b,o,_,cap,rfl,.inr ⟨i',j,x1,c1,l1,u1,a1,a2,a3,a4,a5⟩⟩
      have hs1:=xq (h0::bg cs) hs;have hd:(cR H (h0::bg cs))[h0]?=some .dead:=by
       have hg:=List.getElem?_eq_getElem (show h0<(cR H (h0::bg cs)).length by rw[sd];exact hlt);rcases xp _ _ _ _ hg with e|⟨hn,-⟩
       ·rw[hg,e]
       ·exact absurd (by simp) hn
      refine⟨hs1.B9 hd hr T1 fun k hk=>⟨(hs.lt k (hKF k hk).own).1,(hs.lt k (hKF k hk).own).2,fun hO=>(hKF k hk).uo hs hO⟩,
       ⟨rfl,rfl,rfl,Nat.le_refl _,fun _ _ _=>rfl,fun k hk=>.inl ?_,fun _ h=>h,fun _ h=>.inl h,fun _ _=>rfl⟩,by simp[sd]⟩
      obtain⟨k',o',r',g1,g2,g3,g4⟩:=hk;rcases cI g1 with⟨rfl,rfl,-⟩|⟨-,g1⟩
      ·rw[hr]at g3;simp at g3;subst g3;exact(hKF k g4).own
      ·exact C4 ⟨k',o',r',g1,g2,g3,g4⟩
     ·cases h
    ·cases h
   ·cases h
  ·cases h
theorem aca{cx:Cx K}(hD:aX cx.D)(hc:aE cx)(hs:aD cx.D ρ S w H){q:Bool}{f:FuncId}{args:List (AV K)}{vals:List Value}{v:AV K}{H':List (Ob K)}{t:List Nat}
 (h:rH q cx H f args=some (v,H',true,t)) (ha:aI cx.D ρ S w args vals):
 l3 cx.P f/\Calls cx.P f vals.toArray w fun e w'=>∃u ρ' S',e=.returned u/\aD cx.D ρ' S' w' H'/\Rep cx.D ρ' S' w' v u/\Step cx.D H.length ρ S H w ρ' S' H' w':=by
 unfold rH at h;split at h
 ·split at h
  ·rename_i r H1 c1 t1 hcall;split at h
   ·rename_i H2 b t2 hsh;simp only[Option.some.injEq,Prod.mk.injEq,Bool.and_eq_true]at h;obtain⟨rfl,rfl,⟨rfl,rfl⟩,-⟩:=h;obtain⟨k1,k2⟩:=OC hD hc hs hcall ha;refine⟨k1,k2.mono ?_⟩
    rintro e w' ⟨u,ρ',S',rfl,g1,g2,g3⟩
    obtain⟨s1,s2,-⟩:=OP (n0:=H.length) hD g1 hsh;exact⟨u,ρ',S',rfl,s1,g2,g3.trans s2⟩
   ·cases h
  ·cases h
 ·exact OC hD hc hs h ha
end Go.V
