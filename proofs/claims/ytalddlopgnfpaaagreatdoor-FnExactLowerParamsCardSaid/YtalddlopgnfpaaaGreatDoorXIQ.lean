/-
  LOWERING to flat numbers, in plain Lean: one function that both sides compute; what it keeps.
-/
import Derived.Test.YtalddlopgnfpaaaGreatDoorXILc
import Derived.Test.YtalddlopgnfpaaaGreatDoorXITQ
set_option linter.unusedVariables false
set_option linter.unusedSimpArgs false
namespace M
open Go Go.V
def lJ(l:List Int)(n:Nat):List Int:=l++List.replicate (n-l.length) 0
def small(n:Int):Int:=dX .and .i64 n 4294967295
mutual
noncomputable def eZ(enc:Int):aa->ae->ba->List Int×ba
 |.mk k nm ls ks,v,st=>
   if st.2.2≠0 then([],st)
   else if k=1 then([],st)
   else if k=11\/k=12 then([(dN enc (cY enc ah) (.mk k nm ls ks) v st).1,(dN enc (cY enc ah) (.mk k nm ls ks) v st).2.1],(dN enc (cY enc ah) (.mk k nm ls ks) v st).2.2)
   else if k=15\/k=16 then c9 enc ks v.Kids st
   else if k=13\/k=14\/k=17 then(match v.Kids with
    |[]=>(lJ [v.Num] (ct (.mk k nm ls ks)).length,st)
    |w::_=>(lJ ([v.Num]++(oU enc ks (if k=13 then 0 else v.Num.toNat) w st).1) (ct (.mk k nm ls ks)).length,(oU enc ks (if k=13 then 0 else v.Num.toNat) w st).2))
   else(if k=9 then[v.Num]else[small v.Num],st)
noncomputable def c9(enc:Int):List aa->List ae->ba->List Int×ba
 |[],_,st=>([],st)
 |t::ts,vs,st=>match vs with
  |[]=>([],st)
  |v::r=>((eZ enc t v st).1++(c9 enc ts r (eZ enc t v st).2).1,(c9 enc ts r (eZ enc t v st).2).2)
noncomputable def oU(enc:Int):List aa->Nat->ae->ba->List Int×ba
 |[],_,_,st=>([],st)
 |t::r,0,w,st=>eZ enc t w st
 |_::r,i+1,w,st=>oU enc r i w st
end
theorem KI(enc:Int):∀(l:List aa)(i:Nat)(w:ae)(st:ba),i<l.length->oU enc l i w st=eZ enc (l.getD i aa.zero) w st
 |t::r,0,w,st,_=>by rw[oU];rfl
 |t::r,i+1,w,st,h=>by rw[oU,KI enc r i w st (by simpa using h)];rfl
noncomputable def Bd(enc:Int)(t:aa)(v:ae)(st:ba):List Int×ba:=match v.Kids with
 |[]=>(lJ [v.Num] (ct t).length,st)
 |w::_=>(lJ ([v.Num]++(eZ enc (fN t v.Num) w st).1) (ct t).length,(eZ enc (fN t v.Num) w st).2)
theorem KJ(enc:Int)(t:aa)(v:ae)(st:ba)(hs:bj t=true)(hf:bY v t=true):eZ enc t v st=
 (if st.2.2≠0 then([],st)
 else if t.Kind=1 then([],st)
 else if t.Kind=11\/t.Kind=12 then([(dN enc (cY enc ah) t v st).1,(dN enc (cY enc ah) t v st).2.1],(dN enc (cY enc ah) t v st).2.2)
 else if t.Kind=15\/t.Kind=16 then c9 enc t.Kids v.Kids st
 else if t.Kind=13\/t.Kind=14\/t.Kind=17 then Bd enc t v st
 else(if t.Kind=9 then[v.Num]else[small v.Num],st)):=by
 have hi:∀hk:t.Kind=13\/t.Kind=14\/t.Kind=17,∀w r,v.Kids=w::r->oU enc t.Kids (if t.Kind=13 then 0 else v.Num.toNat) w st=eZ enc (fN t v.Num) w st:=fun hk w r hv=>by
  obtain⟨n0,n1,l1,hall⟩:=vi hs hf hk;by_cases h13:t.Kind=13
  ·have hp:=sH hs h13;rw[av h13,KI enc _ _ _ _ hp];have hc:bB t=[.mk 1 [] [] [],t.Kids.getD 0 aa.zero]:=by unfold bB;rw[av h13]
   have hn:v.Num=0\/v.Num=1:=by rw[hc]at n1;simp at n1;omega
   rcases hn with hn|hn
   ·
    exfalso;obtain⟨ts,h1,h2,h3⟩:=Fe hf;unfold kT at h1;rw[an (by omega),an (by omega),av h13,av hn]at h1;simp only[ar]at h1;subst h1;rw[hv]at h2;simp at h2
   ·unfold fN;rw[hc,hn];rfl
  ·rw[an h13];have hc:bB t=t.Kids:=by unfold bB;rw[an h13]
   rw[hc]at n1;rw[KI enc _ _ _ _ (by omega)];unfold fN;rw[hc]
 cases t with
 |mk k nm ls ks=>
  rw[eZ];simp only[aa.Kind,aa.Kids]at hi⊢;refine ite_congr rfl (fun _=>rfl) fun _=>ite_congr rfl (fun _=>rfl) fun _=>ite_congr rfl (fun _=>rfl) fun _=>ite_congr rfl (fun _=>rfl) fun _=>ite_congr rfl (fun hk=>?_) fun _=>rfl
  unfold Bd;cases hv:v.Kids with
  |nil=>rfl
  |cons w r=>
   show(lJ ([v.Num]++(oU enc ks (if k=13 then 0 else v.Num.toNat) w st).1) _,(oU enc ks (if k=13 then 0 else v.Num.toNat) w st).2)=_
   have e:oU enc ks (if k=13 then 0 else v.Num.toNat) w st=eZ enc (fN (aa.mk k nm ls ks) v.Num) w st:=hi hk w r hv;rw[e]
theorem Fo(l:List Int)(n:Nat):(lJ l n).length=max l.length n:=by unfold lJ;rw[cI,gw];omega
theorem join_le:∀(l:List aa)(a:List Int),a.length<=(gG a l).length
 |[],a=>bg _
 |x::r,a=>by rw[gG];exact eS (by rw[yv];omega) (join_le r _)
theorem X2:∀(l:List aa)(a:List Int)(x:aa),x∈l->(ct x).length<=(gG a l).length
 |y::r,a,x,h=>by
  rw[gG];rcases dY.1 h with rfl|h
  ·exact eS (by rw[yv];omega) (join_le r _)
  ·exact X2 r _ x h
theorem KL{t:aa}{n:Int}(hs:bj t=true)(hk:t.Kind=13\/t.Kind=14\/t.Kind=17)(h0:0<=n)(h1:n<((bB t).length:Int)):1+(ct (fN t n)).length<=(ct t).length:=by
 rw[KN hs hk,bX];have:=X2 (bB t) [] _ (lI h0 h1);omega
theorem Be(enc:Int)(L:Nat):∀(n:Nat)(t:aa)(v:ae)(st:ba),t.sz<n->bj t=true->bY v t=true->Inv L st->Inv L (eZ enc t v st).2/\(eZ enc t v st).1.length<=(ct t).length
 |0,t,v,st,h,_,_,_=>absurd h (en _)
 |n+1,t,v,st,h,hs,hf,hI=>by
  rw[KJ enc t v st hs hf];split
  ·exact⟨hI,cU _⟩
  split
  ·exact⟨hI,cU _⟩
  split
  ·rename_i h1 hk;refine⟨Fh t v st hs hf hk hI fun h12 w hw a' st' hi hle=>?_,?_⟩
   ·have dE:=qx hs h12;have hks:bj (t.Kids.getD 0 aa.zero)=true:=by rw[getD_lt dE];exact fu hs _ (bn _)
    exact mf enc L ah _ w a' st' hks ((qw hf h12).2 w hw) hi hle
   ·rw[eG,an h1,an (by omega),av hk];simp
  split
  ·rename_i h1 hp hk;obtain⟨hl,hall⟩:=yu hf hk;have key:∀(ts:List aa)(vs:List ae)(st:ba),ts.length=vs.length->(∀x∈ts,x.sz<n/\bj x=true)->(∀k (hk:k<vs.length),bY vs[k] (ts.getD k aa.zero)=true)->Inv L st->Inv L (c9 enc ts vs st).2/\(c9 enc ts vs st).1.length<=(dx ts).length:=by
    intro ts
    induction ts with
    |nil=>intro vs st _ _ _ hi;rw[c9];exact⟨hi,bg _⟩
    |cons x r ih=>
     intro vs st hl hx hv hi;cases vs with
     |nil=>simp at hl
     |cons w vr=>
      have hxm:=hx x (ek ..);obtain⟨g1,g2⟩:=Be enc L n x w st hxm.1 hxm.2 (hv 0 (by simp)) hi;obtain⟨g3,g4⟩:=ih vr _ (by simpa using hl) (fun y hy=>hx y (fL _ hy)) (fun k hk=>hv (k+1) (by simpa using hk)) g1;rw[c9];exact⟨g3,by rw[cI,dx,cI];omega⟩
   have:=key t.Kids v.Kids st hl (fun x hx=>⟨by have:=aa.cX (a:=t) hx;omega,fu hs x hx⟩) hall hI;rw[eG,an h1,an (by omega),an hp,av hk];exact this
  split
  ·rename_i h1 hp hp2 hk;obtain⟨n0,n1,l1,hall⟩:=vi hs hf hk;have hcf:=KL hs hk n0 n1;unfold Bd;split
   ·exact⟨hI,by rw[Fo];simp;omega⟩
   ·rename_i w r e;obtain⟨g1,g2⟩:=Be enc L n (fN t v.Num) w st (by have:=kL hs hk _ (lI n0 n1);omega) (lF hs hk _ (lI n0 n1)) (hall w (by rw[e];exact ek ..)) hI;exact⟨g1,by rw[Fo];simp;omega⟩
  ·rename_i h1 hp hp2 hp3;refine⟨hI,?_⟩;by_cases h9:t.Kind=9
   ·rw[av h9,eG,an h1,av h9];simp
   ·rw[an h9,eG,an h1,an h9,an hp,an hp2,an (by omega),an (by omega)];simp
theorem X3(enc:Int){ts:List aa}{vs:List ae}{k:Nat}{st:ba}(h1:k<ts.length)(h2:k<vs.length):
 c9 enc (ts.drop k) (vs.drop k) st=((eZ enc ts[k] vs[k] st).1++(c9 enc (ts.drop (k+1)) (vs.drop (k+1)) (eZ enc ts[k] vs[k] st).2).1,(c9 enc (ts.drop (k+1)) (vs.drop (k+1)) (eZ enc ts[k] vs[k] st).2).2):=by
 rw[dZ h1,dZ h2,c9]
theorem ali(enc:Int)(t:aa)(v:ae)(st:ba)(h:st.2.2≠0):eZ enc t v st=([],st):=by
 cases t;rw[eZ,av h]
theorem Fp(enc:Int):∀(ts:List aa)(vs:List ae)(st:ba),st.2.2≠0->c9 enc ts vs st=([],st)
 |[],vs,st,h=>by rw[c9]
 |t::ts,[],st,h=>by rw[c9]
 |t::ts,v::vs,st,h=>by rw[c9,ali enc t v st h,Fp enc ts vs st h];rfl
end M
namespace M
open Go Go.V
theorem X4(a:Int)(ks:List ae)(n:Int):∀(f:Nat)(i x c:Int)(v:ae)(t:aa)(B:List UInt8)(F:List af),M.xG a ks n f i x c v t B F=M.iS M.oo a ks n f i x c v t B F
 |0,_,_,_,_,_,_,_=>rfl
 |f+1,i,x,c,v,t,B,F=>by
  rw[M.xG,M.iS];simp only[X4 a ks n f]
theorem alj(t:aa)(v:ae)(x c:Int)(B:List UInt8)(F:List af):M.xH t v x c B F=M.rW M.oo t v x c B F:=by
 unfold M.xH M.rW;simp only[X4]
def yw(enc:Int)(r:List Int×ba)(n:Nat)(o:Option (Int×Int×List Int×List UInt8×List af)):Prop:=
 ∃fl,o=some (enc,r.2.2.2,fl,r.2.1,r.2.2.1)/\(r.2.2.2=0->fl=r.1)/\fl.length<=n
abbrev alk :=(List M.aa)->(List M.ae)->Int->Int->(List UInt8)->(List M.af)->Option (Int×Int×(List Int)×(List UInt8)×(List M.af))
theorem alm{n:Int}(h0:0<=n)(h1:n<=4294967295):small n=n:=by
 obtain⟨m,rfl⟩:=mW h0;unfold small;have e:(BitVec.ofInt 64 (m:Int)&&& BitVec.ofInt 64 (4294967295:Int)).toNat=m%4294967296:=by
  rw[BitVec.toNat_and];have g1:(BitVec.ofInt 64 (m:Int)).toNat=m:=by rw[BitVec.toNat_ofInt];omega
  have g2:(BitVec.ofInt 64 (4294967295:Int)).toNat=4294967295:=by decide
  rw[g1,g2];exact Nat.and_two_pow_sub_one_eq_mod m 32
 show IntKind.wrap .i64 (((BitVec.ofInt 64 (m:Int)&&& BitVec.ofInt 64 (4294967295:Int)).toNat:Nat):Int)=_
 rw[e,m5 _ (by omega)];omega
theorem aln{n:Nat}(h:n<=16):0<=Go.V.lv .i64 (1:Int) (n:Int)/\Go.V.lv .i64 (1:Int) (n:Int)<=65536:=by
 have:∀m:Fin 17,0<=Go.V.lv .i64 (1:Int) ((m.val:Nat):Int)/\Go.V.lv .i64 (1:Int) ((m.val:Nat):Int)<=65536:=by decide+kernel
 exact this ⟨n,by omega⟩
theorem alo{v:ae}{t:aa}(hN:t.sz<=1048576)(hs:bj t=true)(hn:fY v.Num t=true)(hk:¬(3<=t.Kind/\t.Kind<=9)):0<=v.Num/\v.Num<=4294967295:=by
 have hlab:t.bu.length<=1048576:=by
  have:=aa.dW t;have:=ed List.length t.bu;omega
 unfold fY at hn;split at hn
 ·simp only[aZ,bh]at hn;omega
 ·split at hn
  ·unfold KO at hn;simp only[i5,aZ,bh]at hn;omega
  ·simp only[aZ,bh]at hn
   ·refine⟨hn.1,Int.le_trans hn.2 ?_⟩;unfold sQ;split
    ·rw[wrap_i64 (by omega) (by omega)];omega
    ·split
     ·rename_i h19;obtain⟨g1,g2⟩:=Xf hs h19;unfold Fq;have:=aln g2;rw[wrap_i64 (by omega) (by omega)];omega
     ·split
      ·decide
      ·decide
theorem alp(k:Int):∃b,M.nM k=some ((kP k).1,(kP k).2,b)/\(b=true↔3<=k/\k<=9):=by
 unfold M.nM kP;by_cases h3:k=3
 ·subst h3;exact⟨true,rfl,by decide⟩
 by_cases h4:k=4
 ·subst h4;exact⟨true,rfl,by decide⟩
 by_cases h5:k=5
 ·subst h5;exact⟨true,rfl,by decide⟩
 by_cases h6:k=6
 ·subst h6;exact⟨true,rfl,by decide⟩
 by_cases h7:k=7
 ·subst h7;exact⟨true,rfl,by decide⟩
 by_cases h8:k=8
 ·subst h8;exact⟨true,rfl,by decide⟩
 by_cases h9:k=9
 ·subst h9;exact⟨true,rfl,by decide⟩
 rw[cr h3,cr h4,cr h5,cr h6,cr h7,cr h8,cr h9,an h3,an h4,an h5,an h6,an h7,an h8,an h9];exact⟨false,rfl,⟨fun h=>Bool.noConfusion h,fun h=>by omega⟩⟩
section
variable {enc :Int}{L:Nat}
theorem X5(rec:alk)(n:Nat)
 (hr:∀(ts:List aa)(vs:List ae)(st:ba),aR aa.sz ts<n->aR aa.sz ts<=1048576->aR ae.sz vs<=1048576->ts.length=vs.length->(∀x∈ts,bj x=true)->(∀k (hk:k<vs.length),bY vs[k] (ts.getD k aa.zero)=true)->Inv L st->
   yw enc (c9 enc ts vs st) (dx ts).length (rec ts vs enc st.2.2 st.1 st.2.1)):
 ∀(m:Nat)(t:aa)(v:ae)(st:ba),t.sz<m->t.sz<n->t.sz<=1048576->v.sz<=1048576->bj t=true->bY v t=true->Inv L st->
  yw enc (eZ enc t v st) (ct t).length (M.xI rec m t v enc st.2.2 st.1 st.2.1)
 |0,t,v,st,h,_,_,_,_,_,_=>absurd h (en _)
 |m+1,t,v,st,h,hn,hN,hV,hs,hf,hI=>by
  rw[KJ enc t v st hs hf]
  show yw enc _ _ (M.AD rec (M.xI rec m) t v enc st.2.2 st.1 st.2.1)
  unfold M.AD;by_cases h0:st.2.2=0
  ·rw[an (by simp[h0]),show(st.2.2 !=0)=false by rw[h0];rfl,aT];simp only[qu];by_cases h1:t.Kind=1
   ·rw[av h1,h1];exact⟨[],rfl,fun _=>rfl,cU _⟩
   ·rw[an h1,cr h1,aT];by_cases hp:t.Kind=11\/t.Kind=12
    ·rw[av hp];have hb:(t.Kind==11||t.Kind==12)=true:=by rcases hp with h|h<;>rw[h]<;>rfl
     rw[hb,aA,aa.aP,ae.aP,alj];obtain⟨x,y,e1,e2⟩:=XH (rec:=M.oo) (f:=cY enc ah) t v st h0 hI hN hs hf hp (fun t w hw a c B F hc=>by
      obtain⟨k,hk⟩:∃k,ah=k+1:=⟨ah-1,by have:=cC;omega⟩
      show M.iT ah t w a enc c B F=_
      rw[hk]
      show M.lp (M.iT k) t w a enc c B F=_
      unfold M.lp;have:(c !=0)=true:=by rw[oK];exact hc
      rw[this];rfl) (fun h12 w hw a st' hi hle=>by
      have dE:=qx hs h12;have hks:bj (t.Kids.getD 0 aa.zero)=true:=by rw[getD_lt dE];exact fu hs _ (bn _)
      have hkN:(t.Kids.getD 0 aa.zero).sz<=1048576:=by rw[getD_lt dE];have:=aa.cX (a:=t) (bn dE);omega
      have hfw:=(qw hf h12).2 w hw;have hws:w.sz<ah:=eU (by have:=ae.cX (a:=v) hw;omega);exact⟨Kw enc L ah _ w a st' hws hkN hks hfw hi hle,mf enc L ah _ w a st' hks hfw hi hle⟩)
     rw[e1];refine⟨[x,y],rfl,fun hc=>?_,?_⟩
     ·obtain⟨g1,g2⟩:=e2 hc;rw[g1,g2]
     ·rw[eG,an h1,an (by omega),av hp];simp
    ·rw[an hp];have hb:(t.Kind==11||t.Kind==12)=false:=by rw[cr (fun e=>hp (.inl e)),cr (fun e=>hp (.inr e))];rfl
     rw[hb,aT];by_cases hp2:t.Kind=15\/t.Kind=16
     ·rw[av hp2];have hb:(t.Kind==15||t.Kind==16)=true:=by rcases hp2 with h|h<;>rw[h]<;>rfl
      rw[hb,aA];obtain⟨hl,hall⟩:=yu hf hp2;have hks:=aa.ke (a:=t) (bg _);obtain⟨fl,e1,e2,e3⟩:=hr t.Kids v.Kids st (by omega) (by omega) (ae.ke hV) hl (fu hs) hall hI;rw[e1];refine⟨fl,rfl,e2,?_⟩;rw[eG,an h1,an (by omega),an hp,av hp2];exact e3
     ·rw[an hp2];have hb:(t.Kind==15||t.Kind==16)=false:=by rw[cr (fun e=>hp2 (.inl e)),cr (fun e=>hp2 (.inr e))];rfl
      rw[hb,aT];by_cases hp3:t.Kind=13\/t.Kind=14\/t.Kind=17
      ·rw[av hp3];have hb:(t.Kind==13||(t.Kind==14||t.Kind==17))=true:=by rcases hp3 with h|h|h<;>rw[h]<;>rfl
       rw[hb,aA];obtain⟨n0,n1,hl1,hall⟩:=vi hs hf hp3;have hcf:=KL hs hp3 n0 n1;have hpl:=KP t;have hfl:=oV t;have hft:M.sk M.oz t=some (ct t):=KQ ah M.oz (fun ts g1 g2 g3 g4=>KR ah ts g1 g2 g3 g4) ah t (eU hN) (eU hN) hN hs;simp only[aa.aP,ae.aP,XI hs hN hp3 n0 n1,hft,aQ,aU,aO,bM];unfold Bd;cases hk:v.Kids with
       |nil=>
        have w1:IntKind.wrap .i64 (((ct t).length:Int)-(([v.Num].length:Nat):Int))=(((ct t).length-1:Nat):Int):=by
         rw[wrap_i64 (by simp;omega) (by simp;omega)];simp;omega
        have w2:(bif decide ((0:Int)<(((ct t).length-1:Nat):Int))then(((ct t).length-1:Nat):Int)else 0)=(((ct t).length-1:Nat):Int):=by
         by_cases hz:(0:Int)<(((ct t).length-1:Nat):Int)
         ·rw[aY hz];rfl
         ·rw[bU hz];simp;omega
        simp only[w1,w2,dn,show decide ((0:Int)<((0:Nat):Int))=false from rfl,aT,bL];rw[aY (by omega),aY (by simp;omega),fF,aA];exact⟨_,rfl,fun _=>rfl,by simp;omega⟩
       |cons w r=>
        have hw:w∈v.Kids:=by rw[hk];exact ek ..
        have hct:=kL hs hp3 _ (lI n0 n1);obtain⟨fl,e1,e2,e3⟩:=X5 rec n hr m (fN t v.Num) w st (by omega) (by omega) (by omega) (by have:=ae.cX (a:=v) hw;omega) (lF hs hp3 _ (lI n0 n1)) (hall w hw) hI;have hd:decide ((0:Int)<((w::r).length:Int))=true:=aY (by simp);have hin:inB (0:Int) (w::r).length=true:=by unfold inB;rw[aY (by omega),aY (by simp)];rfl
        simp only[hd,aA,hin,show(w::r).getD (Int.toNat 0) ae.zero=w from rfl,e1,aQ,aU,aO];have hl:([v.Num]++fl).length=1+fl.length:=by simp;omega
        have w1:IntKind.wrap .i64 (((ct t).length:Int)-((([v.Num]++fl).length:Nat):Int))=(((ct t).length-([v.Num]++fl).length:Nat):Int):=by
         rw[hl,wrap_i64 (by omega) (by omega)];omega
        have w2:(bif decide ((0:Int)<(((ct t).length-([v.Num]++fl).length:Nat):Int))then(((ct t).length-([v.Num]++fl).length:Nat):Int)else 0)=(((ct t).length-([v.Num]++fl).length:Nat):Int):=by
         by_cases hz:(0:Int)<(((ct t).length-([v.Num]++fl).length:Nat):Int)
         ·rw[aY hz];rfl
         ·rw[bU hz,aT];omega
        simp only[w1,w2,bL];rw[aY (by omega:(0:Int)<=_),aY (by rw[hl];omega),aY (by simp;omega),fF,fF,aA];refine⟨_,rfl,fun hc=>?_,by rw[cI,gw,hl];omega⟩;rw[e2 hc];rfl
      ·rw[an hp3];have hb:(t.Kind==13||(t.Kind==14||t.Kind==17))=false:=by rw[cr (fun e=>hp3 (.inl e)),cr (fun e=>hp3 (.inr (.inl e))),cr (fun e=>hp3 (.inr (.inr e)))];rfl
       rw[hb,aT];obtain⟨b,eb,hb2⟩:=alp t.Kind;have hln:1<=(ct t).length:=by
        rw[eG,an h1];by_cases h9:t.Kind=9
        ·rw[av h9];simp
        ·rw[an h9,an hp,an hp2,an (by omega),an (by omega)];simp
       rw[eb];simp only[aQ,aU,aO,aA];by_cases h9:t.Kind=9
       ·rw[av h9,h9];simp only[bne_self_eq_false,Bool.and_false,aT];exact⟨_,rfl,fun _=>rfl,by simpa using hln⟩
       ·rw[an h9];have h9':(t.Kind !=9)=true:=by rw[oK];exact h9
        rw[h9',aO];cases hbv:b with
        |true=>exact⟨_,rfl,fun _=>rfl,by simpa using hln⟩
        |false=>
         have hnk:¬(3<=t.Kind/\t.Kind<=9):=fun h=>by rw[hb2.2 h]at hbv;cases hbv
         obtain⟨g1,g2⟩:=alo hN hs (Kp hf).2.1 hnk;exact⟨_,rfl,fun _=>by rw[alm g1 g2],by simpa using hln⟩
  ·have:(st.2.2 !=0)=true:=by rw[oK];exact h0
   rw[av h0,this];exact⟨[],rfl,fun h=>absurd h h0,cU _⟩
end
end M
namespace M
open Go Go.V
theorem X6(enc:Int)(L:Nat):∀(n:Nat)(ts:List aa)(vs:List ae)(st:ba),aR aa.sz ts<n->aR aa.sz ts<=1048576->aR ae.sz vs<=1048576->ts.length=vs.length->(∀x∈ts,bj x=true)->(∀k (hk:k<vs.length),bY vs[k] (ts.getD k aa.zero)=true)->Inv L st->
 yw enc (c9 enc ts vs st) (dx ts).length (M.oC n ts vs enc st.2.2 st.1 st.2.1)
 |0,ts,vs,st,h,_,_,_,_,_,_=>absurd h (en _)
 |n+1,ts,vs,st,h,hN,hV,hl,hs,hf,hI=>by
  have hsum:=yx hN;have hlen:ts.length<=1048576:=eS (ed _ _) hN;have key:∀f k (st:ba) (fl:List Int),k<=ts.length->ts.length-k<f->fl.length+2*dF (ts.drop k)<=2097160->Inv L st->
   ∃vj,M.sq (M.oC n) vs ts (ts.length:Int) f (k:Int) enc st.2.2 fl st.1 st.2.1=
    some (enc,(c9 enc (ts.drop k) (vs.drop k) st).2.2.2,fl++vj,(c9 enc (ts.drop k) (vs.drop k) st).2.1,(c9 enc (ts.drop k) (vs.drop k) st).2.2.1)/\
    ((c9 enc (ts.drop k) (vs.drop k) st).2.2.2=0->vj=(c9 enc (ts.drop k) (vs.drop k) st).1)/\vj.length<=(dx (ts.drop k)).length:=by
   intro f
   induction f with
   |zero=>intro k st fl h1 h2;omega
   |succ f ih=>
    intro k st fl h1 h2 h3 hI;rcases cO k ts.length with hk|hk
    ·have hkv:k<vs.length:=by omega
     have hm:=bn hk;have hz:=j5 aa.sz _ _ hm;have hzv:=j5 ae.sz _ _ (bn hkv);have hfl:=oV ts[k];rw[sR hk]at h3;have hfk:bY vs[k] ts[k]=true:=by have:=hf k hkv;rwa [getD_lt hk]at this
     obtain⟨g,e1,e2,e3⟩:=X5 (enc:=enc) (L:=L) (M.oC n) n (fun ts vs st a b c d e f' g'=>X6 enc L n ts vs st a b c d e f' g') ah ts[k] vs[k] st (eU (by omega)) (by omega) (by omega) (by omega) (hs _ hm) hfk hI;obtain⟨hI',_⟩:=Be enc L _ ts[k] vs[k] st (sG _) (hs _ hm) hfk hI;obtain⟨g',e4,e5,e6⟩:=ih (k+1) (eZ enc ts[k] vs[k] st).2 (fl++g) (by omega) (by omega) (by rw[cI];omega) hI';rw[X3 enc hk hkv,Ft hk];refine⟨g++g',?_,fun hc=>?_,?_⟩
     ·rw[M.sq];have hd:decide (fl.length+g.length<=1073741824)=true:=by simp only[bh];omega
      have e1':M.Eu (M.oC n) ts[k] vs[k] enc st.2.2 st.1 st.2.1=_:=e1;simp only[aa.aP,ae.aP,getD_lt hk,getD_lt hkv,e1',bL,cq,cJ,hk,hkv,cn,aA,bM,aO,cm hk (by omega:ts.length<2^62),aQ,aU,hd];rw[e4,iI]
     ·have hc':(c9 enc (ts.drop (k+1)) (vs.drop (k+1)) (eZ enc ts[k] vs[k] st).2).2.2.2=0:=hc;rw[e5 hc',e2 (by
       by_cases h0:(eZ enc ts[k] vs[k] st).2.2.2=0
       ·exact h0
       ·rw[Fp enc _ _ _ h0]at hc';exact hc')]
     ·simp only[cI];omega
    ·have:k=ts.length:=by omega
     subst this;refine⟨[],?_,?_,cU _⟩
     ·rw[M.sq];simp[hC,c9]
     ·rw[hC,c9];exact fun _=>rfl
  obtain⟨g,e1,e2,e3⟩:=key ah 0 st [] (cU _) (by have:=cC;omega) (by simp only[ej,dn];omega) hI;simp only[ej,jF]at e1 e2 e3;have e1':M.sq (M.oC n) vs ts (ts.length:Int) ah 0 enc st.2.2 [] st.1 st.2.1=_:=e1
  show yw enc _ _ (M.AE (M.oC n) ts vs enc st.2.2 st.1 st.2.1)
  unfold M.AE;rw[e1'];exact⟨g,rfl,e2,e3⟩
theorem alr(enc:Int)(L:Nat)(ts:List aa)(vs:List ae)(st:ba)(hN:aR aa.sz ts<=1048576)(hV:aR ae.sz vs<=1048576)(hl:ts.length=vs.length)(hs:∀x∈ts,bj x=true)(hf:∀k (hk:k<vs.length),bY vs[k] (ts.getD k aa.zero)=true)(hI:Inv L st):
 yw enc (c9 enc ts vs st) (dx ts).length (M.Ey ts vs enc st.2.2 st.1 st.2.1):=
 X6 enc L ah ts vs st (eU hN) hN hV hl hs hf hI
def lK(r:List Int×ba):List UInt8×Int×List af×List Int:=if r.2.2.2≠0 then([],r.2.2.2,[],[])else(r.2.1,0,r.2.2.1,r.1)
def badL:List UInt8×Int×List af×List Int:=([],1,[],[])
noncomputable def als(enc:Int)(t:aa)(v:ae)(st:ba):List Int×ba:=match eV (lay t).1 (lay t).2 st.2.1 with
 |none=>([0],st.1,st.2.1,4)
 |some p=>([p.1],cY enc ah t v p.1.toNat (st.1,p.2,0))
noncomputable def apQ(m:aB)(enc:Int)(t:aa)(v:ae):List UInt8×Int×List af×List Int:=
 if((jI m.Bytes m.Free&&oS enc)&&(fP t&&bY v t))=true then lK (eZ enc t v (m.Bytes,m.Free,0))else badL
noncomputable def alu(enc:Int)(t:aa)(v:ae)(st:ba):List Int×ba:=if(ct t).length<=1 then eZ enc t v st else als enc t v st
noncomputable def apR(m:aB)(enc:Int)(t:aa)(v:ae):List UInt8×Int×List af×List Int:=
 if((jI m.Bytes m.Free&&oS enc)&&(fP t&&bY v t))=true then lK (alu enc t v (m.Bytes,m.Free,0))else badL
end M
namespace M
open Go Go.V
theorem X7(ks:List ae)(a b c:Int):∀(f:Nat)(i:Int)(B:List UInt8)(x y:Int)(t:aa)(F:List af),M.xz ks a b c f i B x y t F=M.l5 M.ln ks a b c f i B x y t F
 |0,_,_,_,_,_,_=>rfl
 |f+1,i,B,x,y,t,F=>by
  rw[M.xz,M.l5];simp only[X7 ks a b c f]
theorem alv(t:aa)(v:ae)(B:List UInt8)(x y:Int)(F:List af):M.xA t v B x y F=M.rO M.ln t v B x y F:=by
 unfold M.xA M.rO M.Av M.uE;simp only[X7]
def yy(enc:Int)(r:List Int×ba)(n:Nat)(o:Option (List Int×List UInt8×Int×Int×List af)):Prop:=
 ∃fl,o=some (fl,r.2.1,enc,r.2.2.2,r.2.2.1)/\(r.2.2.2=0->fl=r.1)/\fl.length<=n
abbrev alx :=(List M.aa)->(List M.ae)->List UInt8->Int->Int->List M.af->Option (List Int×List UInt8×Int×Int×List M.af)
theorem Fv(out:List Int)(n:Nat)(h:out.length<n):lJ (out++[0]) n=lJ out n:=by
 unfold lJ;rw[cI,iI];have:n-out.length=(n-(out.length+[(0:Int)].length))+1:=by simp;omega
 rw[this,List.replicate_succ];rfl
theorem X8{t:aa}(hft:M.r7 M.ov t=some (ct t))(hn:(ct t).length<=2097160):∀(f:Nat)(out:List Int),(ct t).length-out.length<f->M.se f t out=some (lJ out (ct t).length)
 |0,out,h=>absurd h (en _)
 |f+1,out,h=>by
  rw[M.se,aa.aP,hft];simp only[aQ,aU,aO,aA];by_cases hl:out.length<(ct t).length
  ·rw[aY (by omega:(out.length:Int)<((ct t).length:Int)),aA,aY (by simp;omega),aA,X8 hft hn f (out++[0]) (by rw[cI];simp;omega),Fv _ _ hl]
  ·rw[bU (by omega:¬(out.length:Int)<((ct t).length:Int)),aT];unfold lJ;rw[show(ct t).length-out.length=0 by omega,List.replicate_zero,mb]
theorem aly(t:aa)(hN:t.sz<=1048576)(hs:bj t=true):M.r7 M.ov t=some (ct t):=
 KT ah M.ov (fun ts g1 g2 g3 g4=>KU ah ts g1 g2 g3 g4) ah t (eU hN) (eU hN) hN hs
section
variable {enc :Int}{L:Nat}
theorem X9(he:1<=enc/\enc<=3)(rec:alx)(n:Nat)
 (hr:∀(ts:List aa)(vs:List ae)(st:ba),aR aa.sz ts<n->aR aa.sz ts<=1048576->aR ae.sz vs<=1048576->ts.length=vs.length->(∀x∈ts,bj x=true)->(∀k (hk:k<vs.length),bY vs[k] (ts.getD k aa.zero)=true)->Inv L st->
   yy enc (c9 enc ts vs st) (dx ts).length (rec ts vs st.1 enc st.2.2 st.2.1)):
 ∀(m:Nat)(t:aa)(v:ae)(st:ba),t.sz<m->t.sz<n->t.sz<=1048576->v.sz<=1048576->bj t=true->bY v t=true->st.2.2=0->Inv L st->
  yy enc (eZ enc t v st) (ct t).length (M.uK rec m t v st.1 enc st.2.2 st.2.1)
 |0,t,v,st,h,_,_,_,_,_,_,_=>absurd h (en _)
 |m+1,t,v,st,h,hn,hN,hV,hs,hf,h0,hI=>by
  rw[KJ enc t v st hs hf]
  show yy enc _ _ (M.Aw rec (M.uK rec m) t v st.1 enc st.2.2 st.2.1)
  unfold M.Aw;rw[an (by simp[h0])];simp only[qu];by_cases h1:t.Kind=1
  ·rw[av h1,h1];exact⟨[],rfl,fun _=>rfl,cU _⟩
  ·rw[an h1,cr h1,aT];by_cases h9:t.Kind=9
   ·rw[an (by omega),an (by omega),an (by omega),av h9,h9];refine⟨[v.Num],rfl,fun _=>rfl,?_⟩;rw[eG,an h1,av h9];simp
   rw[cr h9,aT];by_cases hp:t.Kind=11\/t.Kind=12
   ·rw[av hp];have hb:(t.Kind==11||t.Kind==12)=true:=by rcases hp with h|h<;>rw[h]<;>rfl
    rw[hb,aA,aa.aP,ae.aP,alv];obtain⟨x,y,e1,e2⟩:=XQ (rec:=M.ln) (f:=cY enc ah) (enc:=enc) (L:=L) (fun t v a st h=>Fg enc ah t v a st h) t v st he h0 hI hN hs hf hp (fun h12 w hw a st hz hi hle=>by
     have dE:=qx hs h12;have hks:bj (t.Kids.getD 0 aa.zero)=true:=by rw[getD_lt dE];exact fu hs _ (bn _)
     have hkN:(t.Kids.getD 0 aa.zero).sz<=1048576:=by rw[getD_lt dE];have:=aa.cX (a:=t) (bn dE);omega
     have hfw:=(qw hf h12).2 w hw;have hws:w.sz<ah:=eU (by have:=ae.cX (a:=v) hw;omega);exact⟨Ky enc he L ah _ w a st hws hkN hks hfw hz hi hle,mf enc L ah _ w a st hks hfw hi hle⟩)
    rw[e1];refine⟨[x,y],rfl,fun hc=>?_,?_⟩
    ·obtain⟨g1,g2⟩:=e2 hc;rw[g1,g2]
    ·rw[eG,an h1,an (by omega),av hp];simp
   ·rw[an hp];have hb:(t.Kind==11||t.Kind==12)=false:=by rw[cr (fun e=>hp (.inl e)),cr (fun e=>hp (.inr e))];rfl
    rw[hb,aT];by_cases hp2:t.Kind=15\/t.Kind=16
    ·rw[av hp2];have hb:(t.Kind==15||t.Kind==16)=true:=by rcases hp2 with h|h<;>rw[h]<;>rfl
     rw[hb,aA];obtain⟨hl,hall⟩:=yu hf hp2;have hks:=aa.ke (a:=t) (bg _);obtain⟨fl,e1,e2,e3⟩:=hr t.Kids v.Kids st (by rw[aa.dW]at hn;omega) (by omega) (ae.ke hV) hl (fu hs) hall hI;rw[e1];refine⟨fl,rfl,e2,?_⟩;rw[eG,an h1,an (by omega),an hp,av hp2];exact e3
    ·rw[an hp2];have hb:(t.Kind==15||t.Kind==16)=false:=by rw[cr (fun e=>hp2 (.inl e)),cr (fun e=>hp2 (.inr e))];rfl
     rw[hb,aT];by_cases hp3:t.Kind=13\/t.Kind=14\/t.Kind=17
     ·rw[av hp3];have hb:(t.Kind==13||(t.Kind==14||t.Kind==17))=true:=by rcases hp3 with h|h|h<;>rw[h]<;>rfl
      rw[hb,aA];obtain⟨n0,n1,hl1,hall⟩:=vi hs hf hp3;have hcf:=KL hs hp3 n0 n1;have hpl:=KP t;have hfl:=oV t;have hft:=aly t hN hs;have hce:=ym t hs hp3;have alz:inB v.Num (bB t).length=true:=by unfold inB;rw[aY n0,aY (by omega)];rfl
      simp only[aa.aP,ae.aP,hce,aQ,aU,aO,bM,alz];unfold Bd;have alA:∀out:List Int,M.se ah t out=some (lJ out (ct t).length):=fun out=>X8 hft (by omega) ah out (by have:=cC;omega)
      simp only[alA];cases hk:v.Kids with
      |nil=>
       simp only[dn,show decide ((0:Int)<((0:Nat):Int))=false from rfl,aT];exact⟨_,rfl,fun _=>rfl,by rw[Fo];simp;omega⟩
      |cons w r=>
       have hw:w∈v.Kids:=by rw[hk];exact ek ..
       have hct:=kL hs hp3 _ (lI n0 n1);obtain⟨fl,e1,e2,e3⟩:=X9 he rec n hr m (fN t v.Num) w st (by omega) (by omega) (by omega) (by have:=ae.cX (a:=v) hw;omega) (lF hs hp3 _ (lI n0 n1)) (hall w hw) h0 hI;have e1':M.uK rec m ((bB t).getD v.Num.toNat aa.zero) w st.1 enc st.2.2 st.2.1=_:=e1;have hd:decide ((0:Int)<((w::r).length:Int))=true:=aY (by simp);have hin:inB (0:Int) (w::r).length=true:=by unfold inB;rw[aY (by omega),aY (by simp)];rfl
       simp only[hd,aA,hin,show(w::r).getD (Int.toNat 0) ae.zero=w from rfl,e1',aQ,aU,aO];rw[aY (by simp;omega),aA];refine⟨_,rfl,fun hc=>?_,by rw[Fo,cI];simp;omega⟩;rw[e2 hc]
     ·rw[an hp3];have hb:(t.Kind==13||(t.Kind==14||t.Kind==17))=false:=by rw[cr (fun e=>hp3 (.inl e)),cr (fun e=>hp3 (.inr (.inl e))),cr (fun e=>hp3 (.inr (.inr e)))];rfl
      rw[hb,aT,an h9];refine⟨_,rfl,fun _=>rfl,?_⟩;rw[eG,an h1,an h9,an hp,an hp2,an (by omega),an (by omega)];simp
theorem Ya(he:1<=enc/\enc<=3):∀(n:Nat)(ts:List aa)(vs:List ae)(st:ba),aR aa.sz ts<n->aR aa.sz ts<=1048576->aR ae.sz vs<=1048576->ts.length=vs.length->(∀x∈ts,bj x=true)->(∀k (hk:k<vs.length),bY vs[k] (ts.getD k aa.zero)=true)->Inv L st->
 yy enc (c9 enc ts vs st) (dx ts).length (M.ow n ts vs st.1 enc st.2.2 st.2.1)
 |0,ts,vs,st,h,_,_,_,_,_,_=>absurd h (en _)
 |n+1,ts,vs,st,h,hN,hV,hl,hs,hf,hI=>by
  have hsum:=yx hN;have hlen:ts.length<=1048576:=eS (ed _ _) hN;have key:∀f k (st:ba) (fl:List Int),k<=ts.length->ts.length-k<f->fl.length+2*dF (ts.drop k)<=2097160->Inv L st->
   ∃vj,M.qh (M.ow n) ts vs f (k:Int) st.1 enc st.2.2 fl st.2.1=
    some ((c9 enc (ts.drop k) (vs.drop k) st).2.1,enc,(c9 enc (ts.drop k) (vs.drop k) st).2.2.2,fl++vj,(c9 enc (ts.drop k) (vs.drop k) st).2.2.1)/\
    ((c9 enc (ts.drop k) (vs.drop k) st).2.2.2=0->vj=(c9 enc (ts.drop k) (vs.drop k) st).1)/\vj.length<=(dx (ts.drop k)).length:=by
   intro f
   induction f with
   |zero=>intro k st fl h1 h2;omega
   |succ f ih=>
    intro k st fl h1 h2 h3 hI;by_cases h0:st.2.2=0
    ·rcases cO k ts.length with hk|hk
     ·have hkv:k<vs.length:=by omega
      have hm:=bn hk;have hz:=j5 aa.sz _ _ hm;have hzv:=j5 ae.sz _ _ (bn hkv);have hfl:=oV ts[k];rw[sR hk]at h3;have hfk:bY vs[k] ts[k]=true:=by have:=hf k hkv;rwa [getD_lt hk]at this
      obtain⟨g,e1,e2,e3⟩:=X9 (L:=L) he (M.ow n) n (fun ts vs st a b c d e f' g'=>Ya he n ts vs st a b c d e f' g') ah ts[k] vs[k] st (eU (by omega)) (by omega) (by omega) (by omega) (hs _ hm) hfk h0 hI;obtain⟨hI',_⟩:=Be enc L _ ts[k] vs[k] st (sG _) (hs _ hm) hfk hI;obtain⟨g',e4,e5,e6⟩:=ih (k+1) (eZ enc ts[k] vs[k] st).2 (fl++g) (by omega) (by omega) (by rw[cI];omega) hI';rw[X3 enc hk hkv,Ft hk];refine⟨g++g',?_,fun hc=>?_,?_⟩
      ·rw[M.qh];have hd:decide (fl.length+g.length<=1073741824)=true:=by simp only[bh];omega
       have e1':M.Ek (M.ow n) ts[k] vs[k] st.1 enc st.2.2 st.2.1=_:=e1;have hz0:(st.2.2==0)=true:=by rw[h0];rfl
       simp only[aa.aP,ae.aP,getD_lt hk,getD_lt hkv,e1',bL,cq,cJ,hk,hkv,cn,aA,bM,aO,cm hk (by omega:ts.length<2^62),aQ,aU,hd,hz0];rw[e4,iI]
      ·have hc':(c9 enc (ts.drop (k+1)) (vs.drop (k+1)) (eZ enc ts[k] vs[k] st).2).2.2.2=0:=hc;rw[e5 hc',e2 (by
        by_cases h0:(eZ enc ts[k] vs[k] st).2.2.2=0
        ·exact h0
        ·rw[Fp enc _ _ _ h0]at hc';exact hc')]
      ·simp only[cI];omega
     ·have:k=ts.length:=by omega
      subst this;refine⟨[],?_,?_,cU _⟩
      ·rw[M.qh];simp[hC,c9]
      ·rw[hC,c9];exact fun _=>rfl
    ·rw[Fp enc _ _ _ h0];refine⟨[],?_,fun h=>absurd h h0,cU _⟩;rw[M.qh,cr h0,Bool.and_false,aT,mb]
  obtain⟨g,e1,e2,e3⟩:=key ah 0 st [] (cU _) (by have:=cC;omega) (by simp only[ej,dn];omega) hI;simp only[ej,jF]at e1 e2 e3;have e1':M.qh (M.ow n) ts vs ah 0 st.1 enc st.2.2 [] st.2.1=_:=e1
  show yy enc _ _ (M.Ax (M.ow n) ts vs st.1 enc st.2.2 st.2.1)
  unfold M.Ax;rw[e1'];exact⟨g,rfl,e2,e3⟩
end
theorem alB(enc:Int)(he:1<=enc/\enc<=3)(L:Nat)(ts:List aa)(vs:List ae)(st:ba)(hN:aR aa.sz ts<=1048576)(hV:aR ae.sz vs<=1048576)(hl:ts.length=vs.length)(hs:∀x∈ts,bj x=true)(hf:∀k (hk:k<vs.length),bY vs[k] (ts.getD k aa.zero)=true)(hI:Inv L st):
 yy enc (c9 enc ts vs st) (dx ts).length (M.sf ts vs st.1 enc st.2.2 st.2.1):=
 Ya he ah ts vs st (eU hN) hN hV hl hs hf hI
end M
namespace M
open Go Go.V
def Yb(r:List Int×ba):M.aB×List Int×Int:=(M.aB.mk (lK r).1 (lK r).2.2.1,(lK r).2.2.2,(lK r).2.1)
theorem tell(enc:Int){fl:List Int}{B:List UInt8}{c:Int}{F:List af}(r:List Int×ba)(h1:B=r.2.1)(h2:c=r.2.2.2)(h3:F=r.2.2.1)(h4:r.2.2.2=0->fl=r.1):
 sy (let q13:=(M.sw fl B enc c F)
  bif q13.isSome then
   let q16:=(Option.getD q13 default)
   let dJ:=q16.2
   let dC:=dJ.2
   some ((M.aB.mk q16.1 dC.2.2.2.2),dJ.1,dC.1)
  else none)
  (let q13:=(M.su fl B enc c F)
  bif q13.isSome then
   let q16:=(Option.getD q13 default)
   let dJ:=q16.2
   let dC:=dJ.2.2.2.2
   some ((M.aB.mk q16.1 dC.1),dC.2.1,dJ.1)
  else none)=some (Yb r):=by
 subst h1;subst h2;subst h3;unfold M.sw M.su Yb lK;by_cases h:r.2.2.2=0
 ·rw[h4 h,h];rfl
 ·have:(r.2.2.2 !=0)=true:=by rw[oK];exact h
  rw[this,av h];rfl
theorem alC{L n:Nat}{r:List Int×ba}(h:Inv L r.2)(hn:r.1.length<=n):(lK r).1.length<=4096/\(lK r).2.2.1.length<=4096/\(lK r).2.2.2.length<=n:=by
 unfold lK;split
 ·simp
 ·exact⟨h.2.1,h.2.len,hn⟩
end M
namespace M
open Go Go.V
theorem Yc{f g:aa->ae->Nat->ba->ba}:∀(ts:List aa)(vs:List ae)(ps:List Int)(a:Nat)(st:ba),(∀w∈vs,∀t a st,f t w a st=g t w a st)->fO f ts vs ps a st=fO g ts vs ps a st
 |[],_,_,_,_,_=>rfl
 |_::_,[],_,_,_,_=>rfl
 |_::_,_::_,[],_,_,_=>rfl
 |t::ts,v::vs,p::ps,a,st,h=>by
  rw[fO,fO,h v (ek ..)];exact Yc ts vs ps a _ fun w hw=>h w (fL _ hw)
theorem Yd{f g:aa->ae->Nat->ba->ba}(t:aa)(sz:Nat):∀(vs:List ae)(a:Nat)(st:ba),(∀w∈vs,∀t a st,f t w a st=g t w a st)->eY f t sz vs a st=eY g t sz vs a st
 |[],_,_,_=>rfl
 |v::vs,a,st,h=>by
  rw[eY,eY,h v (ek ..)];exact Yd t sz vs _ _ fun w hw=>h w (fL _ hw)
theorem alD{enc:Int}{f g:aa->ae->Nat->ba->ba}(t:aa)(v:ae)(a:Nat)(st:ba)(h:∀w∈v.Kids,∀t a st,f t w a st=g t w a st):me enc f t v a st=me enc g t v a st:=by
 unfold me;have hp:dN enc f t v st=dN enc g t v st:=by
  unfold dN;split
  ·rfl
  ·split
   ·rfl
   ·rw[Yd _ _ _ _ _ h]
 have hc:vh f t v a st=vh g t v a st:=by
  unfold vh;cases hk:v.Kids with
  |nil=>rfl
  |cons w r=>exact h w (by rw[hk];exact ek ..) _ _ _
 rw[hp,hc,Yc _ _ _ _ _ h]
theorem Ye(enc:Int):∀(m k:Nat)(t:aa)(v:ae)(a:Nat)(st:ba),v.sz<m->v.sz<k->cY enc m t v a st=cY enc k t v a st
 |0,_,_,_,_,_,h,_=>absurd h (en _)
 |_+1,0,_,_,_,_,_,h=>absurd h (en _)
 |m+1,k+1,t,v,a,st,h1,h2=>alD t v a st fun w hw t a st=>Ye enc m k t w a st (by have:=ae.cX (a:=v) hw;omega) (by have:=ae.cX (a:=v) hw;omega)
theorem alE(l:List aa):M.xK l=M.od M.ie l:=by
 have h:∀(f:Nat)(e i:Int)(o:List Int),M.xJ l (l.length:Int) f e i o=M.l9 M.ie l (l.length:Int) f e i o:=fun f=>by
  induction f with
  |zero=>intro e i o;rfl
  |succ f ih=>intro e i o;rw[M.xJ,M.l9];simp only[ih]
 unfold M.xK M.od;simp only[h]
theorem Yf(l:List aa):M.sr l=M.jY M.fE l:=by
 have h:∀(f:Nat)(e i:Int),M.xM l (l.length:Int) f e i=M.l6 M.fE l (l.length:Int) f e i:=fun f=>by
  induction f with
  |zero=>intro e i;rfl
  |succ f ih=>intro e i;rw[M.xM,M.l6];simp only[ih]
 unfold M.sr M.jY;simp only[h]
theorem alG(l:List aa):M.xN l=M.qa M.ie l:=by
 unfold M.xN M.qa;rw[alE,Yf]
theorem Yg(l:List aa):M.oD l=M.mK M.gR l:=by
 have h:∀(f:Nat)(a b i:Int)(o:List Int),M.xO l f a b i o=M.l4 M.gR l f a b i o:=fun f=>by
  induction f with
  |zero=>intro a b i o;rfl
  |succ f ih=>intro a b i o;rw[M.xO,M.l4];simp only[ih]
 unfold M.oD M.mK;simp only[h]
theorem alH(ts:List aa)(vs:List ae)(a:Int)(B:List UInt8)(x y:Int)(F:List af):M.qj ts vs a B x y F=M.pX M.ln ts vs a B x y F:=by
 have h:∀(ps:List Int)(f:Nat)(i:Int)(B:List UInt8)(x y:Int)(F:List af),M.xQ ts vs a ps f i B x y F=M.lj M.ln ts vs a ps f i B x y F:=fun ps f=>by
  induction f with
  |zero=>intro i B x y F;rfl
  |succ f ih=>intro i B x y F;rw[M.xQ,M.lj];simp only[ih]
 unfold M.qj M.pX;rw[Yg];simp only[h]
def jc(ts:List aa):Nat×Nat:=(cQ (bW 0 1 (ts.map lay)).2.1 (bW 0 1 (ts.map lay)).2.2,(bW 0 1 (ts.map lay)).2.2)
noncomputable def yz(enc:Int)(ts:List aa)(vs:List ae)(st:ba):List Int×ba:=match eV (jc ts).1 (jc ts).2 st.2.1 with
 |none=>([0],st.1,st.2.1,4)
 |some p=>([p.1],fO (cY enc ah) ts vs (bW 0 1 (ts.map lay)).1 p.1.toNat (st.1,p.2,0))
noncomputable def lL(enc:Int)(ts:List aa)(vs:List ae)(st:ba):List Int×ba:=if 8<(dx ts).length then yz enc ts vs st else c9 enc ts vs st
def vsB(ts:List aa)(vs:List ae):Bool:=decide (ts.length=vs.length)&&i7 vs ts
noncomputable def mh(m:aB)(enc:Int)(ts:List aa)(vs:List ae):List UInt8×Int×List af×List Int:=
 if(sO m enc ts&&vsB ts vs)=true then lK (lL enc ts vs (m.Bytes,m.Free,0))else badL
theorem vk(ts:List aa):cZ (jc ts).2:=yk (ts.map lay) 0 1 (oL ts) (.inl rfl)
theorem Yh(ts:List aa):(jc ts).1<=16*aR aa.sz ts+8:=by
 have h1:=AS (ts.map lay) 0 1 (oL ts);have h2:=AU ts;have h3:=oJ (a:=(bW 0 1 (ts.map lay)).2.1) (vk ts);have h4:=(vk ts).le
 show cQ (bW 0 1 (ts.map lay)).2.1 (bW 0 1 (ts.map lay)).2.2<=_
 unfold jc at h3 h4;simp only at h3 h4;omega
theorem KV{ts:List aa}{vs:List ae}(h:vsB ts vs=true):ts.length=vs.length/\∀k (hk:k<vs.length),bY vs[k] (ts.getD k aa.zero)=true:=by
 unfold vsB at h;rw[aZ,bh]at h;have:=Kq (v:=.mk 0 0 [] vs) (ts:=ts) h.1 h.2;exact⟨h.1,this⟩
theorem KW(enc:Int)(L:Nat)(ts:List aa)(vs:List ae)(a:Nat)(hs:∀x∈ts,bj x=true)(hf:ts.length=vs.length/\∀k (hk:k<vs.length),bY vs[k] (ts.getD k aa.zero)=true)(ha:a+(jc ts).1<=L)(k:Nat)(hk:k<ts.length):
 ∃q:Nat,(bW 0 1 (ts.map lay)).1.getD k 0=(q:Int)/\a+q+(lay (ts.getD k aa.zero)).1<=L/\bj (ts.getD k aa.zero)=true/\ts.getD k aa.zero∈ts/\vs.getD k ae.zero∈vs/\bY (vs.getD k ae.zero) (ts.getD k aa.zero)=true:=by
 obtain⟨p,h1,h2⟩:=Ff ts k hk;have hkv:k<vs.length:=by omega
 have hg:=hf.2 k hkv;refine⟨p,h1,?_,?_,?_,?_,?_⟩
 ·rw[getD_lt hk];have:(jc ts).1=cQ (bW 0 1 (ts.map lay)).2.1 (bW 0 1 (ts.map lay)).2.2:=rfl;omega
 ·rw[getD_lt hk];exact hs _ (bn _)
 ·rw[getD_lt hk];exact bn _
 ·rw[getD_lt hkv];exact bn _
 ·rw[getD_lt hkv];exact hg
theorem alI(enc:Int)(L:Nat)(ts:List aa)(vs:List ae)(a:Nat)(st:ba)(hs:∀x∈ts,bj x=true)(hf:ts.length=vs.length/\∀k (hk:k<vs.length),bY vs[k] (ts.getD k aa.zero)=true)(hI:Inv L st)(ha:a+(jc ts).1<=L):
 Inv L (fO (cY enc ah) ts vs (bW 0 1 (ts.map lay)).1 a st):=by
 refine Kt ts vs _ st hf.1 (by rw[vc,KX]) (fun k hk s hi=>?_) hI;obtain⟨q,h1,h2,h3,h4,h5,h6⟩:=KW enc L ts vs a hs hf ha k hk;rw[h1,bL];exact mf enc L ah _ _ _ _ h3 h6 hi (by omega)
theorem alJ(enc:Int)(L:Nat)(ts:List aa)(vs:List ae)(st:ba)(hs:∀x∈ts,bj x=true)(hf:ts.length=vs.length/\∀k (hk:k<vs.length),bY vs[k] (ts.getD k aa.zero)=true)(hI:Inv L st):Inv L (yz enc ts vs st).2/\(yz enc ts vs st).1.length=1:=by
 unfold yz;cases hT:eV (jc ts).1 (jc ts).2 st.2.1 with
 |none=>exact⟨hI.code 4,rfl⟩
 |some p=>
  obtain⟨h1,h2,h3⟩:=hI.take (vk ts) hT 0;exact⟨alI enc L ts vs _ _ hs hf h1 (by omega),rfl⟩
theorem Yi(enc:Int)(L:Nat):∀(ts:List aa)(vs:List ae)(st:ba),(∀x∈ts,bj x=true)->ts.length=vs.length->(∀k (hk:k<vs.length),bY vs[k] (ts.getD k aa.zero)=true)->Inv L st->Inv L (c9 enc ts vs st).2/\(c9 enc ts vs st).1.length<=(dx ts).length
 |[],vs,st,_,_,_,hi=>by rw[c9];exact⟨hi,bg _⟩
 |x::r,[],st,_,h,_,_=>by simp at h
 |x::r,w::vr,st,hx,hl,hv,hi=>by
  obtain⟨g1,g2⟩:=Be enc L _ x w st (sG _) (hx x (ek ..)) (hv 0 (by simp)) hi;obtain⟨g3,g4⟩:=Yi enc L r vr _ (fun y hy=>hx y (fL _ hy)) (by simpa using hl) (fun k hk=>hv (k+1) (by simpa using hk)) g1;rw[c9];exact⟨g3,by rw[cI,dx,cI];omega⟩
theorem Yj(enc:Int)(L:Nat)(ts:List aa)(vs:List ae)(st:ba)(hs:∀x∈ts,bj x=true)(hf:ts.length=vs.length/\∀k (hk:k<vs.length),bY vs[k] (ts.getD k aa.zero)=true)(hI:Inv L st):Inv L (lL enc ts vs st).2/\(lL enc ts vs st).1.length<=8:=by
 unfold lL;split
 ·obtain⟨g1,g2⟩:=alJ enc L ts vs st hs hf hI;exact⟨g1,by omega⟩
 ·obtain⟨g1,g2⟩:=Yi enc L ts vs st hs hf.1 hf.2 hI;exact⟨g1,by omega⟩
theorem alK(t:aa)(v:ae)(a enc c:Int)(B:List UInt8)(F:List af)(hc:c≠0):M.oo t v a enc c B F=some (enc,c,B,F):=by
 obtain⟨k,hk⟩:∃k,ah=k+1:=⟨ah-1,by have:=cC;omega⟩
 show M.iT ah t v a enc c B F=_
 rw[hk]
 show M.lp (M.iT k) t v a enc c B F=_
 unfold M.lp;have:(c !=0)=true:=by rw[oK];exact hc
 rw[this];rfl
theorem alL(enc:Int)(L:Nat)(ts:List aa)(vs:List ae)(st:ba)(h0:st.2.2=0)(hN:aR aa.sz ts<=1048576)(hV:aR ae.sz vs<=1048576)(hs:∀x∈ts,bj x=true)(hf:ts.length=vs.length/\∀k (hk:k<vs.length),bY vs[k] (ts.getD k aa.zero)=true)(hI:Inv L st):
 ∃fl,M.uL enc ts vs st.1 st.2.1=some ((lL enc ts vs st).2.2.2,fl,(lL enc ts vs st).2.1,(lL enc ts vs st).2.2.1)/\((lL enc ts vs st).2.2.2=0->fl=(lL enc ts vs st).1):=by
 have hlen:ts.length<=1048576:=eS (ed _ _) hN;have hft:M.oz ts=some (dx ts):=KR ah ts (eU hN) hlen hN hs;have hsz:∀x∈ts,x.sz<=1048576:=fun x hx=>oW hN hx
 unfold M.uL M.AB lL;rw[hft];simp only[aQ,aU,aO,aA];by_cases h8:8<(dx ts).length
 ·rw[av h8,aY (by omega:(8:Int)<((dx ts).length:Int)),gz,aT,alG,Yf,
   Xm (fun x hx=>vd x (hsz x hx) (hs x hx)) (fun x hx=>sL x (hsz x hx) (hs x hx)) hlen hN,AZ (fun x hx=>sL x (hsz x hx) (hs x hx)) hlen,<-EX _ 0 1]
  simp only[aQ,aU,aO];have htl:=Yh ts;have el:=J1 (jc ts).1 (jc ts).2 st.1 st.2.1 enc (by omega) (vk ts) hI.2;have el':M.jZ ((cQ (bW 0 1 (ts.map lay)).2.1 (bW 0 1 (ts.map lay)).2.2:Nat):Int) ((bW 0 1 (ts.map lay)).2.2:Int) enc 0 st.1 st.2.1=_:=el;rw[el'];unfold yz;cases hT:eV (jc ts).1 (jc ts).2 st.2.1 with
  |none=>
   simp only[aQ,aU,aO,alK _ _ _ _ _ _ _ (by decide:(4:Int)≠0)];exact⟨[0],rfl,fun h=>by simp at h⟩
  |some p=>
   obtain⟨g1,g2,g3⟩:=hI.take (vk ts) hT 0;obtain⟨n,hn⟩:=mW g2;have e:M.oo (M.aa.mk 15 [] [] ts) (M.ae.mk 0 0 [] vs) (n:Int) enc 0 st.1 p.2=jJ enc (fO (cY enc ah) ts vs (bW 0 1 (ts.map lay)).1 n (st.1,p.2,0)):=by
    have hb:=cC;obtain⟨k,hk⟩:∃k,ah=k+1:=⟨ah-1,by omega⟩;have hk':1048576<k:=by omega
    have hp:=XF (rec:=M.iT k) (f:=cY enc ah) (enc:=enc) (L:=L) ts (M.ae.mk 0 0 [] vs) (bW 0 1 (ts.map lay)).1 n (st.1,p.2,0) g1 hf.1 (by rw[vc];simp) hlen (fun j hj s hi=>by
     obtain⟨q,h1,h2,h3,h4,h5,h6⟩:=KW enc L ts vs n hs hf (by omega) j hj;have hL:=hi.le;have hw:(vs.getD j ae.zero).sz<=1048576:=oW hV h5;have e1:=Kw enc L k _ _ (n+q) s (by omega) (hsz _ h4) h3 h6 hi (by omega);have e2:=mf enc L ah (ts.getD j aa.zero) (vs.getD j ae.zero) (n+q) s h3 h6 hi (by omega);rw[Ye enc k ah _ _ _ _ (by omega) (eU hw)]at e1;exact⟨q,h1,by omega,e1,e2⟩)
    show M.iT ah _ _ (n:Int) enc 0 st.1 p.2=_
    rw[hk]
    show M.lp (M.iT k) _ _ (n:Int) enc 0 st.1 p.2=_
    unfold M.lp;simp only[qu,show(aa.mk 15 [] [] ts).Kind=15 from rfl,show(aa.mk 15 [] [] ts).Kids=ts from rfl,show((0:Int) !=0)=false from rfl,show((15:Int)==11)=false from rfl,show((15:Int)==12)=false from rfl,ip,aT,lH,cD,aA];rw[JX (l:=ts) (rec:=M.ie) (fun x hx=>vd x (hsz x hx) (hs x hx)) (fun x hx=>sL x (hsz x hx) (hs x hx)) hlen hN];simp only[aQ,aU,aO,ae.aP];have hp':M.mP (M.iT k) (n:Int) (bW 0 1 (ts.map lay)).1 ts (ts.length:Int) ah 0 enc 0 (M.ae.mk 0 0 [] vs) st.1 p.2=_:=hp;rw[hk]at hp'⊢;rw[hp'];rfl
   simp only[aQ,aU,aO,hn,e,jJ,aA,bL];exact⟨[(n:Int)],rfl,fun _=>rfl⟩
 ·rw[an h8,bU (by omega:¬(8:Int)<((dx ts).length:Int)),qy,aA];obtain⟨fl,e1,e2,e3⟩:=alr enc L ts vs st hN hV hf.1 hs hf.2 hI;rw[h0]at e1;rw[e1];exact⟨fl,rfl,e2⟩
theorem alN(ts:List aa)(vs:List ae)(hN:aR aa.sz ts<=1048576)(hV:aR ae.sz vs<=1048576)(ho:∀x∈ts,fP x=true):M.xC vs ts=some (vsB ts vs):=by
 unfold M.xC vsB;have hlv:vs.length<=1048576:=eS (ed _ _) hV;by_cases hlen:ts.length=vs.length
 ·have e:=sS (p:=fun k=>bY (vs.getD k ae.zero) (ts.getD k aa.zero)) (F:=fun f i=>M.ox ts vs (vs.length:Int) f i) (e:=()) (b:=false) vs.length (by omega) (fun f k hk=>by
   show M.ox ts vs (vs.length:Int) (f+1) (k:Int)=_
   rw[M.ox];have hk2:k<ts.length:=by omega
   have hfit:M.zT (vs.getD k ae.zero) (ts.getD k aa.zero)=some (bY (vs.getD k ae.zero) (ts.getD k aa.zero)):=by
    rw[getD_lt hk,getD_lt hk2];exact akT _ _ (oW hV (bn _)) (oW hN (bn _)) (ho _ (bn _))
   simp only[aa.aP,ae.aP,bL,hfit,cq,cJ,hk,hk2,cn,aA,cD,bM,aO,cm hk (by omega:vs.length<2^62),aQ,aU];cases bY (vs.getD k ae.zero) (ts.getD k aa.zero)<;>rfl) (fun f=>by
   show M.ox ts vs (vs.length:Int) (f+1) _=_
   rw[M.ox];simp)
  have e':M.ox ts vs (vs.length:Int) ah 0=_:=e;have hne:((vs.length:Int) !=(ts.length:Int))=false:=by rw[kf,hlen];simp
  rw[hne,e',aY hlen,yq _ _ hlen];cases (List.range vs.length).all fun k=>bY (vs.getD k ae.zero) (ts.getD k aa.zero)<;>rfl
 ·have hne:((vs.length:Int) !=(ts.length:Int))=true:=by rw[kf,kb (show(vs.length:Int)≠(ts.length:Int) by omega)];rfl
  rw[hne,bU hlen];rfl
theorem KY{m:aB}{enc:Int}{ts:List aa}(h:sO m enc ts=true):i4 m.Bytes m.Free/\(1<=enc/\enc<=3)/\ts.length<=6/\∀x∈ts,fP x=true:=by
 unfold sO at h;rw[aZ,aZ,aZ,bh]at h;exact⟨(Xr _ _).1 h.1.1.1,akS.1 h.1.1.2,h.1.2,eP.1 h.2⟩
theorem alO(m:aB)(enc:Int)(ts:List aa)(vs:List ae)(hB:m.Bytes.length<=1048576)(hF:m.Free.length<=1048576)(hN:aR aa.sz ts<=1048576)(hV:aR ae.sz vs<=1048576):M.uM m enc ts vs=some (mh m enc ts vs):=by
 have hlen:ts.length<=1048576:=eS (ed _ _) hN;unfold M.uM mh;rw[akW m enc ts hB hF hlen (fun x hx=>oW hN hx)];simp only[aQ,aU,aO];cases hc:sO m enc ts with
 |false=>simp[badL]
 |true=>
  obtain⟨hM,he,h6,ho⟩:=KY hc;have hs:∀x∈ts,bj x=true:=fun x hx=>Ba (ho x hx)
  rw[alN ts vs hN hV ho];simp only[gz,sN,aQ,aU,cD,bM,aO];cases hv:vsB ts vs with
  |false=>simp[badL]
  |true=>
   have hf:=KV hv;rw[ak0 m hM];simp only[gz,aT,aQ,aU,aO,fQ];obtain⟨fl,e1,e2⟩:=alL enc m.Bytes.length ts vs (m.Bytes,m.Free,0) rfl hN hV hs hf ⟨rfl,hM⟩;obtain⟨hI,_⟩:=Yj enc m.Bytes.length ts vs (m.Bytes,m.Free,0) hs hf ⟨rfl,hM⟩;have e1':M.uL enc ts vs m.Bytes m.Free=_:=e1;rw[e1'];simp only[aQ,aU,aO,lK];by_cases hcode:(lL enc ts vs (m.Bytes,m.Free,0)).2.2.2=0
   ·rw[e2 hcode,hcode];simp only[show((0:Int) !=0)=false from rfl,aT];rw[ak1 _ _ hI.2];simp
   ·have:((lL enc ts vs (m.Bytes,m.Free,0)).2.2.2 !=0)=true:=by rw[oK];exact hcode
    rw[this,av hcode];simp
theorem Yk(ts:List aa)(hz:∀x∈ts,x.sz<=1048576)(hl:ts.length<=6):M.rX ts=some (ts.all fP):=by
 have e:=KZ (p:=fP) (F:=M.uJ ts) (e:=ts) (b:=false) ts (by omega) (fun f k hk=>by
  rw[M.uJ];have hm:=hz _ (bn hk);have Yl:decide ((k:Int)<=24)=true:=by simp only[bh];omega
  simp only[aa.aP,getD_lt hk,alP ts[k] hm,bL,cq,cJ,hk,Yl,cn,aA,bM,aO,fF,cm hk (by omega:ts.length<2^62),aQ,aU];cases fP ts[k]<;>rfl) (fun f=>by rw[M.uJ];simp)
 unfold M.rX;rw[e];have:decide (((ts.length:Nat):Int)<=24)=true:=by simp only[bh];omega
 cases ts.all fP
 ·rfl
 ·simp only[fQ,this]
theorem alQ(ts:List aa)(hz:∀x∈ts,x.sz<=1048576):∃o,M.rY ts=some o/\o=(decide (ts.length<=6)&&ts.all fP):=by
 unfold M.rY;by_cases h:ts.length<=6
 ·rw[Yk ts hz h,aY (by omega:(ts.length:Int)<=6),aY h];exact⟨_,rfl,rfl⟩
 ·rw[bU (by omega:¬(ts.length:Int)<=6),bU h];exact⟨false,by simp,rfl⟩
theorem alR(ts:List aa)(vs:List ae)(hN:aR aa.sz ts<=1048576)(hV:aR ae.sz vs<=1048576)(ho:∀x∈ts,bj x=true):M.rZ vs ts=some (vsB ts vs):=by
 unfold M.rZ vsB;have hlv:vs.length<=1048576:=eS (ed _ _) hV;by_cases hlen:ts.length=vs.length
 ·have e:=sS (p:=fun k=>bY (vs.getD k ae.zero) (ts.getD k aa.zero)) (F:=fun f i=>M.oq vs ts f i) (e:=()) (b:=false) vs.length (by omega) (fun f k hk=>by
   show M.oq vs ts (f+1) (k:Int)=_
   rw[M.oq];have hk2:k<ts.length:=by omega
   have hfit:M.Dh (vs.getD k ae.zero) (ts.getD k aa.zero)=some (bY (vs.getD k ae.zero) (ts.getD k aa.zero)):=by
    rw[getD_lt hk,getD_lt hk2];have hv:=oW hV (bn hk);exact Ym ah _ _ (eU hv) hv (oW hN (bn _)) (ho _ (bn _))
   simp only[aa.aP,ae.aP,bL,hfit,cq,cJ,hk,hk2,cn,aA,cD,bM,aO,cm hk (by omega:vs.length<2^62),aQ,aU];cases bY (vs.getD k ae.zero) (ts.getD k aa.zero)<;>rfl) (fun f=>by
   show M.oq vs ts (f+1) _=_
   rw[M.oq];simp)
  have e':M.oq vs ts ah 0=_:=e;have hne:((vs.length:Int) !=(ts.length:Int))=false:=by rw[kf,hlen];simp
  rw[hne,e',aY hlen,yq _ _ hlen];cases (List.range vs.length).all fun k=>bY (vs.getD k ae.zero) (ts.getD k aa.zero)<;>rfl
 ·have hne:((vs.length:Int) !=(ts.length:Int))=true:=by rw[kf,kb (show(vs.length:Int)≠(ts.length:Int) by omega)];rfl
  rw[hne,bU hlen];rfl
theorem alS(ts:List aa)(hN:aR aa.sz ts<=1048576)(hl:ts.length<=6)(ho:∀x∈ts,fP x=true):M.sd ts=some (decide (8<(dx ts).length)):=by
 unfold M.sd;have e:M.ov ts=some (dx ts):=KU ah ts (eU hN) (by omega) hN fun x hx=>Ba (ho x hx)
 rw[e,Yk ts (fun x hx=>oW hN hx) hl,eP.2 ho];simp only[aQ,aU,aO,bM,aA,cD];congr 2;exact propext ⟨fun h=>by omega,fun h=>by omega⟩
theorem alT(m:aB)(enc:Int)(ts:List aa)(vs:List ae)(hB:m.Bytes.length<=1048576)(hF:m.Free.length<=1048576)(hN:aR aa.sz ts<=1048576)(hV:aR ae.sz vs<=1048576):M.uN m enc ts vs=some (M.aB.mk (mh m enc ts vs).1 (mh m enc ts vs).2.2.1,(mh m enc ts vs).2.2.2,(mh m enc ts vs).2.1):=by
 have hsz:∀x∈ts,x.sz<=1048576:=fun x hx=>oW hN hx
 obtain⟨o,e1,e2⟩:=alQ ts hsz;unfold M.uN mh;rw[akX m enc hB hF,e1];have hc:sO m enc ts=((jI m.Bytes m.Free&&oS enc)&&o):=by unfold sO;rw[e2,Bool.and_assoc]
 rw[hc];simp only[aQ,aU,aO];cases hco:((jI m.Bytes m.Free&&oS enc)&&o)with
 |false=>
  rw[<-Bool.not_and,hco];simp[badL]
 |true=>
  obtain⟨hM,he,h6,ho⟩:=KY (m:=m) (enc:=enc) (ts:=ts) (by rw[hc];exact hco);have hs:∀x∈ts,bj x=true:=fun x hx=>Ba (ho x hx)
  rw[<-Bool.not_and,hco,alR ts vs hN hV hs];simp only[gz,sN,aQ,aU,cD,bM,aO];cases hv:vsB ts vs with
  |false=>simp[badL]
  |true=>
   have hf:=KV hv;have eo:M.jm m=some (m.Bytes,m.Free):=Xy m.Bytes m.Free (by have:=hM.len;omega);rw[alS ts hN h6 ho,eo];simp only[gz,aT,aQ,aU,aO,fQ,cD];have hI:Inv m.Bytes.length (m.Bytes,m.Free,(0:Int)):=⟨rfl,hM⟩;unfold lL;by_cases h8:8<(dx ts).length
   ·rw[av h8,aY h8,gz,aT,Yg,Kx ts hsz hs (by omega) hN];simp only[aQ,aU,aO];have htl:=Yh ts;have et:=J2 (jc ts).1 (jc ts).2 m.Bytes m.Free enc 0 (by omega) (vk ts) hM;have et':M.jX ((cQ (bW 0 1 (ts.map lay)).2.1 (bW 0 1 (ts.map lay)).2.2:Nat):Int) ((bW 0 1 (ts.map lay)).2.2:Int) m.Bytes enc 0 m.Free=_:=et;rw[et'];unfold yz;cases hT:eV (jc ts).1 (jc ts).2 m.Free with
    |none=>
     simp only[aQ,aU,aO,show((4:Int)==0)=false from rfl,aT];exact tell enc _ rfl rfl rfl (fun _=>rfl)
    |some p=>
     obtain⟨g1,g2,g3⟩:=hI.take (vk ts) hT 0;obtain⟨n,hn⟩:=mW g2;have hp:=XP (rec:=M.ln) (f:=cY enc ah) (enc:=enc) (L:=m.Bytes.length) (fun t v a st h=>Fg enc ah t v a st h) ts vs (bW 0 1 (ts.map lay)).1 n (m.Bytes,p.2,0) g1 hf.1 (by rw[vc];simp) (by omega) (fun j hj s hz hi=>by
      obtain⟨q,h1,h2,h3,h4,h5,h6⟩:=KW enc m.Bytes.length ts vs n hs hf (by omega) j hj;have hL:=hi.le;have hw:(vs.getD j ae.zero).sz<=1048576:=oW hV h5;exact⟨q,h1,by omega,Ky enc he m.Bytes.length ah _ _ (n+q) s (eU hw) (hsz _ h4) h3 h6 hz hi (by omega),mf enc m.Bytes.length ah _ _ (n+q) s h3 h6 hi (by omega)⟩)
     have hp':M.lj M.ln ts vs (n:Int) (bW 0 1 (ts.map lay)).1 ah 0 m.Bytes enc 0 p.2=_:=hp;have e:M.pX M.ln ts vs (n:Int) m.Bytes enc 0 p.2=ja enc (fO (cY enc ah) ts vs (bW 0 1 (ts.map lay)).1 n (m.Bytes,p.2,0)):=by
      unfold M.pX;rw[Kx ts hsz hs (by omega) hN];simp only[aQ,aU,aO,hp',ja,aA]
     simp only[aQ,aU,aO,show((0:Int)==0)=true from rfl,aA,hn,alH,e,ja,bL];exact tell enc _ rfl rfl rfl (fun _=>rfl)
   ·rw[an h8,bU h8,qy,aA];obtain⟨fl,e1,e2,e3⟩:=alB enc he m.Bytes.length ts vs (m.Bytes,m.Free,0) hN hV hf.1 hs hf.2 hI;have e1':M.sf ts vs m.Bytes enc 0 m.Free=_:=e1;rw[e1'];simp only[aQ,aU,aO];exact tell enc _ rfl rfl rfl e2
theorem alV(m:aB)(enc:Int)(ts:List aa)(vs:List ae):(mh m enc ts vs).1.length<=4096/\(mh m enc ts vs).2.2.1.length<=4096/\(mh m enc ts vs).2.2.2.length<=8:=by
 unfold mh;split
 ·rename_i h1;rw[aZ]at h1;obtain⟨hM,he,h6,ho⟩:=KY h1.1;obtain⟨g1,g2⟩:=Yj enc m.Bytes.length ts vs (m.Bytes,m.Free,0) (fun x hx=>Ba (ho x hx)) (KV h1.2) ⟨rfl,hM⟩;exact alC g1 g2
 ·simp[badL]
end M
