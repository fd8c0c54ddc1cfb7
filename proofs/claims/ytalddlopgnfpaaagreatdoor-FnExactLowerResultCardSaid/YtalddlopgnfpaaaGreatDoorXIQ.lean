/-
  LOWERING to flat numbers, in plain Lean: one function that both sides compute; what it keeps.
-/
import Derived.Test.YtalddlopgnfpaaaGreatDoorXILc
import Derived.Test.YtalddlopgnfpaaaGreatDoorXITQ
set_option linter.unusedVariables false
set_option linter.unusedSimpArgs false
namespace M
open Go Go.V
def lG(l:List Int)(n:Nat):List Int:=l++List.replicate (n-l.length) 0
def small(n:Int):Int:=dQ .and .i64 n 4294967295
mutual
noncomputable def ee(enc:Int):aa->ae->bh->List Int×bh
 |.mk k nm ls ks,v,st=>
   if st.2.2≠0 then([],st)
   else if k=1 then([],st)
   else if k=11\/k=12 then([(ed enc (dx enc ah) (.mk k nm ls ks) v st).1,(ed enc (dx enc ah) (.mk k nm ls ks) v st).2.1],(ed enc (dx enc ah) (.mk k nm ls ks) v st).2.2)
   else if k=15\/k=16 then dG enc ks v.Kids st
   else if k=13\/k=14\/k=17 then(match v.Kids with
    |[]=>(lG [v.Num] (cn (.mk k nm ls ks)).length,st)
    |w::_=>(lG ([v.Num]++(oM enc ks (if k=13 then 0 else v.Num.toNat) w st).1) (cn (.mk k nm ls ks)).length,(oM enc ks (if k=13 then 0 else v.Num.toNat) w st).2))
   else(if k=9 then[v.Num]else[small v.Num],st)
noncomputable def dG(enc:Int):List aa->List ae->bh->List Int×bh
 |[],_,st=>([],st)
 |t::ts,vs,st=>match vs with
  |[]=>([],st)
  |v::r=>((ee enc t v st).1++(dG enc ts r (ee enc t v st).2).1,(dG enc ts r (ee enc t v st).2).2)
noncomputable def oM(enc:Int):List aa->Nat->ae->bh->List Int×bh
 |[],_,_,st=>([],st)
 |t::r,0,w,st=>ee enc t w st
 |_::r,i+1,w,st=>oM enc r i w st
end
theorem JB(enc:Int):∀(l:List aa)(i:Nat)(w:ae)(st:bh),i<l.length->oM enc l i w st=ee enc (l.getD i aa.zero) w st
 |t::r,0,w,st,_=>by rw[oM];rfl
 |t::r,i+1,w,st,h=>by rw[oM,JB enc r i w st (by simpa using h)];rfl
noncomputable def Au(enc:Int)(t:aa)(v:ae)(st:bh):List Int×bh:=match v.Kids with
 |[]=>(lG [v.Num] (cn t).length,st)
 |w::_=>(lG ([v.Num]++(ee enc (fG t v.Num) w st).1) (cn t).length,(ee enc (fG t v.Num) w st).2)
theorem JC(enc:Int)(t:aa)(v:ae)(st:bh)(hs:bw t=true)(hf:ct v t=true):ee enc t v st=
 (if st.2.2≠0 then([],st)
 else if t.Kind=1 then([],st)
 else if t.Kind=11\/t.Kind=12 then([(ed enc (dx enc ah) t v st).1,(ed enc (dx enc ah) t v st).2.1],(ed enc (dx enc ah) t v st).2.2)
 else if t.Kind=15\/t.Kind=16 then dG enc t.Kids v.Kids st
 else if t.Kind=13\/t.Kind=14\/t.Kind=17 then Au enc t v st
 else(if t.Kind=9 then[v.Num]else[small v.Num],st)):=by
 have hi:∀hk:t.Kind=13\/t.Kind=14\/t.Kind=17,∀w r,v.Kids=w::r->oM enc t.Kids (if t.Kind=13 then 0 else v.Num.toNat) w st=ee enc (fG t v.Num) w st:=fun hk w r hv=>by
  obtain⟨n0,n1,l1,hall⟩:=uL hs hf hk;by_cases h13:t.Kind=13
  ·have hp:=sg hs h13;rw[av h13,JB enc _ _ _ _ hp];have hc:bB t=[.mk 1 [] [] [],t.Kids.getD 0 aa.zero]:=by unfold bB;rw[av h13]
   have hn:v.Num=0\/v.Num=1:=by rw[hc]at n1;simp at n1;omega
   rcases hn with hn|hn
   ·
    exfalso;obtain⟨ts,h1,h2,h3⟩:=EE hf;unfold kT at h1;rw[ak (by omega),ak (by omega),av h13,av hn]at h1;simp only[ar]at h1;subst h1;rw[hv]at h2;simp at h2
   ·unfold fG;rw[hc,hn];rfl
  ·rw[ak h13];have hc:bB t=t.Kids:=by unfold bB;rw[ak h13]
   rw[hc]at n1;rw[JB enc _ _ _ _ (by omega)];unfold fG;rw[hc]
 cases t with
 |mk k nm ls ks=>
  rw[ee];simp only[aa.Kind,aa.Kids]at hi⊢;refine ite_congr rfl (fun _=>rfl) fun _=>ite_congr rfl (fun _=>rfl) fun _=>ite_congr rfl (fun _=>rfl) fun _=>ite_congr rfl (fun _=>rfl) fun _=>ite_congr rfl (fun hk=>?_) fun _=>rfl
  unfold Au;cases hv:v.Kids with
  |nil=>rfl
  |cons w r=>
   show(lG ([v.Num]++(oM enc ks (if k=13 then 0 else v.Num.toNat) w st).1) _,(oM enc ks (if k=13 then 0 else v.Num.toNat) w st).2)=_
   have e:oM enc ks (if k=13 then 0 else v.Num.toNat) w st=ee enc (fG (aa.mk k nm ls ks) v.Num) w st:=hi hk w r hv;rw[e]
theorem EJ(l:List Int)(n:Nat):(lG l n).length=max l.length n:=by unfold lG;rw[cL,gj];omega
theorem join_le:∀(l:List aa)(a:List Int),a.length<=(gu a l).length
 |[],a=>bj _
 |x::r,a=>by rw[gu];exact fD (by rw[xP];omega) (join_le r _)
theorem Ws:∀(l:List aa)(a:List Int)(x:aa),x∈l->(cn x).length<=(gu a l).length
 |y::r,a,x,h=>by
  rw[gu];rcases dW.1 h with rfl|h
  ·exact fD (by rw[xP];omega) (join_le r _)
  ·exact Ws r _ x h
theorem JD{t:aa}{n:Int}(hs:bw t=true)(hk:t.Kind=13\/t.Kind=14\/t.Kind=17)(h0:0<=n)(h1:n<((bB t).length:Int)):1+(cn (fG t n)).length<=(cn t).length:=by
 rw[JE hs hk,bQ];have:=Ws (bB t) [] _ (lF h0 h1);omega
theorem xQ(enc:Int)(L:Nat):∀(n:Nat)(t:aa)(v:ae)(st:bh),t.sz<n->bw t=true->ct v t=true->Inv L st->Inv L (ee enc t v st).2/\(ee enc t v st).1.length<=(cn t).length
 |0,t,v,st,h,_,_,_=>absurd h (eB _)
 |n+1,t,v,st,h,hs,hf,hI=>by
  rw[JC enc t v st hs hf];split
  ·exact⟨hI,cU _⟩
  split
  ·exact⟨hI,cU _⟩
  split
  ·rename_i h1 hk;refine⟨EG t v st hs hf hk hI fun h12 w hw a' st' hi hle=>?_,?_⟩
   ·have dA:=qj hs h12;have hks:bw (t.Kids.getD 0 aa.zero)=true:=by rw[getD_lt dA];exact fh hs _ (bC _)
    exact qk enc L ah _ w a' st' hks ((qi hf h12).2 w hw) hi hle
   ·rw[eC,ak h1,ak (by omega),av hk];simp
  split
  ·rename_i h1 hp hk;obtain⟨hl,hall⟩:=xO hf hk;have key:∀(ts:List aa)(vs:List ae)(st:bh),ts.length=vs.length->(∀x∈ts,x.sz<n/\bw x=true)->(∀k (hk:k<vs.length),ct vs[k] (ts.getD k aa.zero)=true)->Inv L st->Inv L (dG enc ts vs st).2/\(dG enc ts vs st).1.length<=(eD ts).length:=by
    intro ts
    induction ts with
    |nil=>intro vs st _ _ _ hi;rw[dG];exact⟨hi,bj _⟩
    |cons x r ih=>
     intro vs st hl hx hv hi;cases vs with
     |nil=>simp at hl
     |cons w vr=>
      have hxm:=hx x (fa ..);obtain⟨g1,g2⟩:=xQ enc L n x w st hxm.1 hxm.2 (hv 0 (by simp)) hi;obtain⟨g3,g4⟩:=ih vr _ (by simpa using hl) (fun y hy=>hx y (gQ _ hy)) (fun k hk=>hv (k+1) (by simpa using hk)) g1;rw[dG];exact⟨g3,by rw[cL,eD,cL];omega⟩
   have:=key t.Kids v.Kids st hl (fun x hx=>⟨by have:=aa.cZ (a:=t) hx;omega,fh hs x hx⟩) hall hI;rw[eC,ak h1,ak (by omega),ak hp,av hk];exact this
  split
  ·rename_i h1 hp hp2 hk;obtain⟨n0,n1,l1,hall⟩:=uL hs hf hk;have hcf:=JD hs hk n0 n1;unfold Au;split
   ·exact⟨hI,by rw[EJ];simp;omega⟩
   ·rename_i w r e;obtain⟨g1,g2⟩:=xQ enc L n (fG t v.Num) w st (by have:=kG hs hk _ (lF n0 n1);omega) (lD hs hk _ (lF n0 n1)) (hall w (by rw[e];exact fa ..)) hI;exact⟨g1,by rw[EJ];simp;omega⟩
  ·rename_i h1 hp hp2 hp3;refine⟨hI,?_⟩;by_cases h9:t.Kind=9
   ·rw[av h9,eC,ak h1,av h9];simp
   ·rw[ak h9,eC,ak h1,ak h9,ak hp,ak hp2,ak (by omega),ak (by omega)];simp
theorem Wu(enc:Int){ts:List aa}{vs:List ae}{k:Nat}{st:bh}(h1:k<ts.length)(h2:k<vs.length):
 dG enc (ts.drop k) (vs.drop k) st=((ee enc ts[k] vs[k] st).1++(dG enc (ts.drop (k+1)) (vs.drop (k+1)) (ee enc ts[k] vs[k] st).2).1,(dG enc (ts.drop (k+1)) (vs.drop (k+1)) (ee enc ts[k] vs[k] st).2).2):=by
 rw[dX h1,dX h2,dG]
theorem ajd(enc:Int)(t:aa)(v:ae)(st:bh)(h:st.2.2≠0):ee enc t v st=([],st):=by
 cases t;rw[ee,av h]
theorem EK(enc:Int):∀(ts:List aa)(vs:List ae)(st:bh),st.2.2≠0->dG enc ts vs st=([],st)
 |[],vs,st,h=>by rw[dG]
 |t::ts,[],st,h=>by rw[dG]
 |t::ts,v::vs,st,h=>by rw[dG,ajd enc t v st h,EK enc ts vs st h];rfl
end M
namespace M
open Go Go.V
theorem Wv(a:Int)(ks:List ae)(n:Int):∀(f:Nat)(i x c:Int)(v:ae)(t:aa)(B:List UInt8)(F:List af),M.xi a ks n f i x c v t B F=M.iL M.xb a ks n f i x c v t B F
 |0,_,_,_,_,_,_,_=>rfl
 |f+1,i,x,c,v,t,B,F=>by
  rw[M.xi,M.iL];simp only[Wv a ks n f]
theorem aje(t:aa)(v:ae)(x c:Int)(B:List UInt8)(F:List af):M.xj t v x c B F=M.rM M.xb t v x c B F:=by
 unfold M.xj M.rM;simp only[Wv]
def xR(enc:Int)(r:List Int×bh)(n:Nat)(o:Option (Int×Int×List Int×List UInt8×List af)):Prop:=
 ∃fl,o=some (enc,r.2.2.2,fl,r.2.1,r.2.2.1)/\(r.2.2.2=0->fl=r.1)/\fl.length<=n
abbrev ajf :=(List M.aa)->(List M.ae)->Int->Int->(List UInt8)->(List M.af)->Option (Int×Int×(List Int)×(List UInt8)×(List M.af))
theorem ajg{n:Int}(h0:0<=n)(h1:n<=4294967295):small n=n:=by
 obtain⟨m,rfl⟩:=kD h0;unfold small;have e:(BitVec.ofInt 64 (m:Int)&&& BitVec.ofInt 64 (4294967295:Int)).toNat=m%4294967296:=by
  rw[BitVec.toNat_and];have g1:(BitVec.ofInt 64 (m:Int)).toNat=m:=by rw[BitVec.toNat_ofInt];omega
  have g2:(BitVec.ofInt 64 (4294967295:Int)).toNat=4294967295:=by decide
  rw[g1,g2];exact Nat.and_two_pow_sub_one_eq_mod m 32
 show IntKind.wrap .i64 (((BitVec.ofInt 64 (m:Int)&&& BitVec.ofInt 64 (4294967295:Int)).toNat:Nat):Int)=_
 rw[e,mX _ (by omega)];omega
theorem ajh{n:Nat}(h:n<=16):0<=Go.V.lr .i64 (1:Int) (n:Int)/\Go.V.lr .i64 (1:Int) (n:Int)<=65536:=by
 have:∀m:Fin 17,0<=Go.V.lr .i64 (1:Int) ((m.val:Nat):Int)/\Go.V.lr .i64 (1:Int) ((m.val:Nat):Int)<=65536:=by decide+kernel
 exact this ⟨n,by omega⟩
theorem aji{v:ae}{t:aa}(hN:t.sz<=1048576)(hs:bw t=true)(hn:fQ v.Num t=true)(hk:¬(3<=t.Kind/\t.Kind<=9)):0<=v.Num/\v.Num<=4294967295:=by
 have hlab:t.bp.length<=1048576:=by
  have:=aa.dV t;have:=fx List.length t.bp;omega
 unfold fQ at hn;split at hn
 ·simp only[aW,bm]at hn;omega
 ·split at hn
  ·unfold JF at hn;simp only[iW,aW,bm]at hn;omega
  ·simp only[aW,bm]at hn
   ·refine⟨hn.1,Int.le_trans hn.2 ?_⟩;unfold so;split
    ·rw[wrap_i64 (by omega) (by omega)];omega
    ·split
     ·rename_i h19;obtain⟨g1,g2⟩:=Vw hs h19;unfold EL;have:=ajh g2;rw[wrap_i64 (by omega) (by omega)];omega
     ·split
      ·decide
      ·decide
theorem ajj(k:Int):∃b,M.nJ k=some ((kM k).1,(kM k).2,b)/\(b=true↔3<=k/\k<=9):=by
 unfold M.nJ kM;by_cases h3:k=3
 ·subst h3;exact⟨true,rfl,by decide⟩
 by_cases h4:k=4
 ·subst h4;exact⟨true,rfl,by decide⟩
 by_cases h5:k=5
 ·subst h5;exact⟨true,rfl,by decide⟩
 by_cases h6:k=6
 ·subst h6;exact⟨true,rfl,by decide⟩
 by_cases h7:k=7
 ·subst h7;exact⟨true,rfl,by decide⟩
 by_cases h8:k=8
 ·subst h8;exact⟨true,rfl,by decide⟩
 by_cases h9:k=9
 ·subst h9;exact⟨true,rfl,by decide⟩
 rw[cq h3,cq h4,cq h5,cq h6,cq h7,cq h8,cq h9,ak h3,ak h4,ak h5,ak h6,ak h7,ak h8,ak h9];exact⟨false,rfl,⟨fun h=>Bool.noConfusion h,fun h=>by omega⟩⟩
section
variable {enc :Int}{L:Nat}
theorem JG(rec:ajf)(n:Nat)
 (hr:∀(ts:List aa)(vs:List ae)(st:bh),aZ aa.sz ts<n->aZ aa.sz ts<=1048576->aZ ae.sz vs<=1048576->ts.length=vs.length->(∀x∈ts,bw x=true)->(∀k (hk:k<vs.length),ct vs[k] (ts.getD k aa.zero)=true)->Inv L st->
   xR enc (dG enc ts vs st) (eD ts).length (rec ts vs enc st.2.2 st.1 st.2.1)):
 ∀(m:Nat)(t:aa)(v:ae)(st:bh),t.sz<m->t.sz<n->t.sz<=1048576->v.sz<=1048576->bw t=true->ct v t=true->Inv L st->
  xR enc (ee enc t v st) (cn t).length (M.xk rec m t v enc st.2.2 st.1 st.2.1)
 |0,t,v,st,h,_,_,_,_,_,_=>absurd h (eB _)
 |m+1,t,v,st,h,hn,hN,hV,hs,hf,hI=>by
  rw[JC enc t v st hs hf]
  show xR enc _ _ (M.zM rec (M.xk rec m) t v enc st.2.2 st.1 st.2.1)
  unfold M.zM;by_cases h0:st.2.2=0
  ·rw[ak (by simp[h0]),show(st.2.2 !=0)=false by rw[h0];rfl,aR];simp only[se];by_cases h1:t.Kind=1
   ·rw[av h1,h1];exact⟨[],rfl,fun _=>rfl,cU _⟩
   ·rw[ak h1,cq h1,aR];by_cases hp:t.Kind=11\/t.Kind=12
    ·rw[av hp];have hb:(t.Kind==11||t.Kind==12)=true:=by rcases hp with h|h<;>rw[h]<;>rfl
     rw[hb,aA,aa.aO,ae.aO,aje];obtain⟨x,y,e1,e2⟩:=V0 (rec:=M.xb) (f:=dx enc ah) t v st h0 hI hN hs hf hp (fun t w hw a c B F hc=>by
      obtain⟨k,hk⟩:∃k,ah=k+1:=⟨ah-1,by have:=cH;omega⟩
      show M.l4 ah t w a enc c B F=_
      rw[hk]
      show M.pL (M.l4 k) t w a enc c B F=_
      unfold M.pL;have:(c !=0)=true:=by rw[qg];exact hc
      rw[this];rfl) (fun h12 w hw a st' hi hle=>by
      have dA:=qj hs h12;have hks:bw (t.Kids.getD 0 aa.zero)=true:=by rw[getD_lt dA];exact fh hs _ (bC _)
      have hkN:(t.Kids.getD 0 aa.zero).sz<=1048576:=by rw[getD_lt dA];have:=aa.cZ (a:=t) (bC dA);omega
      have hfw:=(qi hf h12).2 w hw;have hws:w.sz<ah:=fj (by have:=ae.cZ (a:=v) hw;omega);exact⟨V4 enc L ah _ w a st' hws hkN hks hfw hi hle,qk enc L ah _ w a st' hks hfw hi hle⟩)
     rw[e1];refine⟨[x,y],rfl,fun hc=>?_,?_⟩
     ·obtain⟨g1,g2⟩:=e2 hc;rw[g1,g2]
     ·rw[eC,ak h1,ak (by omega),av hp];simp
    ·rw[ak hp];have hb:(t.Kind==11||t.Kind==12)=false:=by rw[cq (fun e=>hp (.inl e)),cq (fun e=>hp (.inr e))];rfl
     rw[hb,aR];by_cases hp2:t.Kind=15\/t.Kind=16
     ·rw[av hp2];have hb:(t.Kind==15||t.Kind==16)=true:=by rcases hp2 with h|h<;>rw[h]<;>rfl
      rw[hb,aA];obtain⟨hl,hall⟩:=xO hf hp2;have hks:=aa.jk (a:=t) (bj _);obtain⟨fl,e1,e2,e3⟩:=hr t.Kids v.Kids st (by omega) (by omega) (ae.jk hV) hl (fh hs) hall hI;rw[e1];refine⟨fl,rfl,e2,?_⟩;rw[eC,ak h1,ak (by omega),ak hp,av hp2];exact e3
     ·rw[ak hp2];have hb:(t.Kind==15||t.Kind==16)=false:=by rw[cq (fun e=>hp2 (.inl e)),cq (fun e=>hp2 (.inr e))];rfl
      rw[hb,aR];by_cases hp3:t.Kind=13\/t.Kind=14\/t.Kind=17
      ·rw[av hp3];have hb:(t.Kind==13||(t.Kind==14||t.Kind==17))=true:=by rcases hp3 with h|h|h<;>rw[h]<;>rfl
       rw[hb,aA];obtain⟨n0,n1,hl1,hall⟩:=uL hs hf hp3;have hcf:=JD hs hp3 n0 n1;have hpl:=JH t;have hfl:=m4 t;have hft:M.rT M.uf t=some (cn t):=JI ah M.uf (fun ts g1 g2 g3 g4=>Ww ah ts g1 g2 g3 g4) ah t (fj hN) (fj hN) hN hs;simp only[aa.aO,ae.aO,V1 hs hN hp3 n0 n1,hft,aS,aU,aP,bI];unfold Au;cases hk:v.Kids with
       |nil=>
        have w1:IntKind.wrap .i64 (((cn t).length:Int)-(([v.Num].length:Nat):Int))=(((cn t).length-1:Nat):Int):=by
         rw[wrap_i64 (by simp;omega) (by simp;omega)];simp;omega
        have w2:(bif decide ((0:Int)<(((cn t).length-1:Nat):Int))then(((cn t).length-1:Nat):Int)else 0)=(((cn t).length-1:Nat):Int):=by
         by_cases hz:(0:Int)<(((cn t).length-1:Nat):Int)
         ·rw[aY hz];rfl
         ·rw[bU hz];simp;omega
        simp only[w1,w2,dm,show decide ((0:Int)<((0:Nat):Int))=false from rfl,aR,cN];rw[aY (by omega),aY (by simp;omega),fE,aA];exact⟨_,rfl,fun _=>rfl,by simp;omega⟩
       |cons w r=>
        have hw:w∈v.Kids:=by rw[hk];exact fa ..
        have hct:=kG hs hp3 _ (lF n0 n1);obtain⟨fl,e1,e2,e3⟩:=JG rec n hr m (fG t v.Num) w st (by omega) (by omega) (by omega) (by have:=ae.cZ (a:=v) hw;omega) (lD hs hp3 _ (lF n0 n1)) (hall w hw) hI;have hd:decide ((0:Int)<((w::r).length:Int))=true:=aY (by simp);have hin:inB (0:Int) (w::r).length=true:=by unfold inB;rw[aY (by omega),aY (by simp)];rfl
        simp only[hd,aA,hin,show(w::r).getD (Int.toNat 0) ae.zero=w from rfl,e1,aS,aU,aP];have hl:([v.Num]++fl).length=1+fl.length:=by simp;omega
        have w1:IntKind.wrap .i64 (((cn t).length:Int)-((([v.Num]++fl).length:Nat):Int))=(((cn t).length-([v.Num]++fl).length:Nat):Int):=by
         rw[hl,wrap_i64 (by omega) (by omega)];omega
        have w2:(bif decide ((0:Int)<(((cn t).length-([v.Num]++fl).length:Nat):Int))then(((cn t).length-([v.Num]++fl).length:Nat):Int)else 0)=(((cn t).length-([v.Num]++fl).length:Nat):Int):=by
         by_cases hz:(0:Int)<(((cn t).length-([v.Num]++fl).length:Nat):Int)
         ·rw[aY hz];rfl
         ·rw[bU hz,aR];omega
        simp only[w1,w2,cN];rw[aY (by omega:(0:Int)<=_),aY (by rw[hl];omega),aY (by simp;omega),fE,fE,aA];refine⟨_,rfl,fun hc=>?_,by rw[cL,gj,hl];omega⟩;rw[e2 hc];rfl
      ·rw[ak hp3];have hb:(t.Kind==13||(t.Kind==14||t.Kind==17))=false:=by rw[cq (fun e=>hp3 (.inl e)),cq (fun e=>hp3 (.inr (.inl e))),cq (fun e=>hp3 (.inr (.inr e)))];rfl
       rw[hb,aR];obtain⟨b,eb,hb2⟩:=ajj t.Kind;have hln:1<=(cn t).length:=by
        rw[eC,ak h1];by_cases h9:t.Kind=9
        ·rw[av h9];simp
        ·rw[ak h9,ak hp,ak hp2,ak (by omega),ak (by omega)];simp
       rw[eb];simp only[aS,aU,aP,aA];by_cases h9:t.Kind=9
       ·rw[av h9,h9];simp only[bne_self_eq_false,Bool.and_false,aR];exact⟨_,rfl,fun _=>rfl,by simpa using hln⟩
       ·rw[ak h9];have h9':(t.Kind !=9)=true:=by rw[qg];exact h9
        rw[h9',aP];cases hbv:b with
        |true=>exact⟨_,rfl,fun _=>rfl,by simpa using hln⟩
        |false=>
         have hnk:¬(3<=t.Kind/\t.Kind<=9):=fun h=>by rw[hb2.2 h]at hbv;cases hbv
         obtain⟨g1,g2⟩:=aji hN hs (Jk hf).2.1 hnk;exact⟨_,rfl,fun _=>by rw[ajg g1 g2],by simpa using hln⟩
  ·have:(st.2.2 !=0)=true:=by rw[qg];exact h0
   rw[av h0,this];exact⟨[],rfl,fun h=>absurd h h0,cU _⟩
end
end M
namespace M
open Go Go.V
theorem Wx(enc:Int)(L:Nat):∀(n:Nat)(ts:List aa)(vs:List ae)(st:bh),aZ aa.sz ts<n->aZ aa.sz ts<=1048576->aZ ae.sz vs<=1048576->ts.length=vs.length->(∀x∈ts,bw x=true)->(∀k (hk:k<vs.length),ct vs[k] (ts.getD k aa.zero)=true)->Inv L st->
 xR enc (dG enc ts vs st) (eD ts).length (M.oz n ts vs enc st.2.2 st.1 st.2.1)
 |0,ts,vs,st,h,_,_,_,_,_,_=>absurd h (eB _)
 |n+1,ts,vs,st,h,hN,hV,hl,hs,hf,hI=>by
  have hsum:=xU hN;have hlen:ts.length<=1048576:=fD (fx _ _) hN;have key:∀f k (st:bh) (fl:List Int),k<=ts.length->ts.length-k<f->fl.length+2*dB (ts.drop k)<=2097160->Inv L st->
   ∃uN,M.rW (M.oz n) vs ts (ts.length:Int) f (k:Int) enc st.2.2 fl st.1 st.2.1=
    some (enc,(dG enc (ts.drop k) (vs.drop k) st).2.2.2,fl++uN,(dG enc (ts.drop k) (vs.drop k) st).2.1,(dG enc (ts.drop k) (vs.drop k) st).2.2.1)/\
    ((dG enc (ts.drop k) (vs.drop k) st).2.2.2=0->uN=(dG enc (ts.drop k) (vs.drop k) st).1)/\uN.length<=(eD (ts.drop k)).length:=by
   intro f
   induction f with
   |zero=>intro k st fl h1 h2;omega
   |succ f ih=>
    intro k st fl h1 h2 h3 hI;rcases cQ k ts.length with hk|hk
    ·have hkv:k<vs.length:=by omega
     have hm:=bC hk;have hz:=jV aa.sz _ _ hm;have hzv:=jV ae.sz _ _ (bC hkv);have hfl:=m4 ts[k];rw[sq hk]at h3;have hfk:ct vs[k] ts[k]=true:=by have:=hf k hkv;rwa [getD_lt hk]at this
     obtain⟨g,e1,e2,e3⟩:=JG (enc:=enc) (L:=L) (M.oz n) n (fun ts vs st a b c d e f' g'=>Wx enc L n ts vs st a b c d e f' g') ah ts[k] vs[k] st (fj (by omega)) (by omega) (by omega) (by omega) (hs _ hm) hfk hI;obtain⟨hI',_⟩:=xQ enc L _ ts[k] vs[k] st (uE _) (hs _ hm) hfk hI;obtain⟨g',e4,e5,e6⟩:=ih (k+1) (ee enc ts[k] vs[k] st).2 (fl++g) (by omega) (by omega) (by rw[cL];omega) hI';rw[Wu enc hk hkv,EM hk];refine⟨g++g',?_,fun hc=>?_,?_⟩
     ·rw[M.rW];have hd:decide (fl.length+g.length<=1073741824)=true:=by simp only[bm];omega
      have e1':M.rV (M.oz n) ts[k] vs[k] enc st.2.2 st.1 st.2.1=_:=e1;simp only[aa.aO,ae.aO,getD_lt hk,getD_lt hkv,e1',cN,cB,cO,hk,hkv,cr,aA,bI,aP,cm hk (by omega:ts.length<2^62),aS,aU,hd];rw[e4,iw]
     ·have hc':(dG enc (ts.drop (k+1)) (vs.drop (k+1)) (ee enc ts[k] vs[k] st).2).2.2.2=0:=hc;rw[e5 hc',e2 (by
       by_cases h0:(ee enc ts[k] vs[k] st).2.2.2=0
       ·exact h0
       ·rw[EK enc _ _ _ h0]at hc';exact hc')]
     ·simp only[cL];omega
    ·have:k=ts.length:=by omega
     subst this;refine⟨[],?_,?_,cU _⟩
     ·rw[M.rW];simp[gU,dG]
     ·rw[gU,dG];exact fun _=>rfl
  obtain⟨g,e1,e2,e3⟩:=key ah 0 st [] (cU _) (by have:=cH;omega) (by simp only[ej,dm];omega) hI;simp only[ej,jB]at e1 e2 e3;have e1':M.rW (M.oz n) vs ts (ts.length:Int) ah 0 enc st.2.2 [] st.1 st.2.1=_:=e1
  show xR enc _ _ (M.zN (M.oz n) ts vs enc st.2.2 st.1 st.2.1)
  unfold M.zN;rw[e1'];exact⟨g,rfl,e2,e3⟩
theorem ajl(enc:Int)(L:Nat)(t:aa)(v:ae)(st:bh)(hN:t.sz<=1048576)(hV:v.sz<=1048576)(hs:bw t=true)(hf:ct v t=true)(hI:Inv L st):
 xR enc (ee enc t v st) (cn t).length (M.rV M.ug t v enc st.2.2 st.1 st.2.1):=
 JG (enc:=enc) (L:=L) M.ug ah (fun ts vs st a b c d e f g=>Wx enc L ah ts vs st a b c d e f g) ah t v st (fj hN) (fj hN) hN hV hs hf hI
def lH(r:List Int×bh):List UInt8×Int×List af×List Int:=if r.2.2.2≠0 then([],r.2.2.2,[],[])else(r.2.1,0,r.2.2.1,r.1)
def badL:List UInt8×Int×List af×List Int:=([],1,[],[])
noncomputable def ajm(enc:Int)(t:aa)(v:ae)(st:bh):List Int×bh:=match fy (lay t).1 (lay t).2 st.2.1 with
 |none=>([0],st.1,st.2.1,4)
 |some p=>([p.1],dx enc ah t v p.1.toNat (st.1,p.2,0))
noncomputable def mf(m:aB)(enc:Int)(t:aa)(v:ae):List UInt8×Int×List af×List Int:=
 if((gV m.Bytes m.Free&&j7 enc)&&(fm t&&ct v t))=true then lH (ee enc t v (m.Bytes,m.Free,0))else badL
noncomputable def ajn(enc:Int)(t:aa)(v:ae)(st:bh):List Int×bh:=if(cn t).length<=1 then ee enc t v st else ajm enc t v st
noncomputable def anx(m:aB)(enc:Int)(t:aa)(v:ae):List UInt8×Int×List af×List Int:=
 if((gV m.Bytes m.Free&&j7 enc)&&(fm t&&ct v t))=true then lH (ajn enc t v (m.Bytes,m.Free,0))else badL
theorem ajo(m:aB)(enc:Int)(t:aa):Ar m enc [t]=((gV m.Bytes m.Free&&j7 enc)&&fm t):=by unfold Ar;simp
theorem anQ(enc:Int)(L:Nat)(t:aa)(v:ae)(st:bh)(hs:bw t=true)(hf:ct v t=true)(hI:Inv L st):Inv L (ajm enc t v st).2/\(ajm enc t v st).1.length=1:=by
 unfold ajm;cases hT:fy (lay t).1 (lay t).2 st.2.1 with
 |none=>exact⟨hI.code 4,rfl⟩
 |some p=>
  obtain⟨h1,h2,h3⟩:=hI.take (sd t) hT 0;exact⟨qk enc L ah t v _ _ hs hf h1 (by omega),rfl⟩
theorem anR(l:List Int)(h:l.length<=1048576):M.IV l=some l:=by
 unfold M.IV;rw[aY (by omega)];rfl
theorem anS(enc:Int)(L:Nat)(t:aa)(v:ae)(st:bh)(h0:st.2.2=0)(ht:t.sz<=1048576)(hv:v.sz<=1048576)(hs:bw t=true)(hf:ct v t=true)(hI:Inv L st):
 ∃fl,M.ajk enc t v st.1 st.2.1=some (fl,(ajn enc t v st).2.2.2,(ajn enc t v st).2.1,(ajn enc t v st).2.2.1)/\((ajn enc t v st).2.2.2=0->fl=(ajn enc t v st).1)/\fl.length<=1:=by
 unfold M.ajk ajn;have hft:M.rT M.uf t=some (cn t):=JI ah M.uf (fun ts g1 g2 g3 g4=>Ww ah ts g1 g2 g3 g4) ah t (fj ht) (fj ht) ht hs;rw[aa.aO,ae.aO,hft];simp only[aS,aU,aP];by_cases h1:(cn t).length<=1
 ·rw[av h1,aY (by omega:((cn t).length:Int)<=1),aA];obtain⟨fl,e1,e2,e3⟩:=ajl enc L t v st ht hv hs hf hI;rw[h0]at e1;rw[e1];exact⟨fl,rfl,e2,by omega⟩
 ·rw[ak h1,bU (by omega:¬((cn t).length:Int)<=1),aR,Ak t ht hs,Aj t ht hs];have hsz:=Ac t;simp only[aS,aU,aP];rw[VO (lay t).1 (lay t).2 st.1 st.2.1 enc (by omega) (sd t) hI.2];unfold ajm;cases hT:fy (lay t).1 (lay t).2 st.2.1 with
  |none=>
   have e:M.xb t v 0 enc 4 st.1 st.2.1=some (enc,4,st.1,st.2.1):=by
    obtain⟨k,hk⟩:∃k,ah=k+1:=⟨ah-1,by have:=cH;omega⟩
    show M.l4 ah t v 0 enc 4 st.1 st.2.1=_
    rw[hk];rfl
   simp only[aS,aU,aP,e];exact⟨[0],rfl,fun h=>by simp at h,bj _⟩
  |some p=>
   obtain⟨g1,g2,g3⟩:=hI.take (sd t) hT 0;obtain⟨n,hn⟩:=kD g2;have e:=V4 enc L ah t v n (st.1,p.2,0) (fj hv) ht hs hf g1 (by omega);have e':M.xb t v (n:Int) enc 0 st.1 p.2=kL enc (dx enc ah t v n (st.1,p.2,0)):=e;simp only[aS,aU,aP,hn,e',kL,aA,cN];exact⟨[(n:Int)],rfl,fun _=>rfl,bj _⟩
theorem alj(enc:Int)(L:Nat)(t:aa)(v:ae)(st:bh)(hs:bw t=true)(hf:ct v t=true)(hI:Inv L st):Inv L (ajn enc t v st).2/\(ajn enc t v st).1.length<=1:=by
 unfold ajn;split
 ·rename_i h;obtain⟨g1,g2⟩:=xQ enc L _ t v st (uE _) hs hf hI;exact⟨g1,by omega⟩
 ·obtain⟨g1,g2⟩:=anQ enc L t v st hs hf hI;exact⟨g1,by omega⟩
theorem anT(m:aB)(enc:Int)(t:aa)(v:ae)(hB:m.Bytes.length<=1048576)(hF:m.Free.length<=1048576)(ht:t.sz<=1048576)(hv:v.sz<=1048576):M.ajR m enc t v=some (anx m enc t v):=by
 unfold M.ajR anx;rw[aa.aO,ae.aO,aiS m enc [t] hB hF (by simp) (fun x hx=>by simp at hx;subst hx;exact ht),ajo];simp only[aS,aU,aP];by_cases h1:((gV m.Bytes m.Free&&j7 enc)&&fm t)=true
 ·have ho:fm t=true:=by rw[aW]at h1;exact h1.2
  have h1':(gV m.Bytes m.Free&&j7 enc)=true:=by rw[aW]at h1;exact h1.1
  have hM:ix m.Bytes m.Free:=by rw[aW]at h1';exact(Es _ _).1 h1'.1
  have hs:=Aq ho;rw[h1,aiP v t hv ht ho,h1',ho];simp only[mV,uM,aS,aU,gR,bI,aP];cases hf:ct v t with
  |false=>simp[badL]
  |true=>
   rw[aiW m hM];simp only[mV,aR,aS,aU,aP,gv];obtain⟨fl,e1,e2,e3⟩:=anS enc m.Bytes.length t v (m.Bytes,m.Free,0) rfl ht hv hs hf ⟨rfl,hM⟩;obtain⟨hI,_⟩:=alj enc m.Bytes.length t v (m.Bytes,m.Free,0) hs hf ⟨rfl,hM⟩;have e1':M.ajk enc t v m.Bytes m.Free=_:=e1;rw[e1'];simp only[aS,aU,aP,lH];by_cases hc:(ajn enc t v (m.Bytes,m.Free,0)).2.2.2=0
   ·rw[anR fl (by omega),e2 hc,hc];simp only[show((0:Int) !=0)=false from rfl,aR];rw[aiX _ _ hI.2];simp
   ·have:((ajn enc t v (m.Bytes,m.Free,0)).2.2.2 !=0)=true:=by rw[qg];exact hc
    rw[this,av hc];simp
 ·have h1:((gV m.Bytes m.Free&&j7 enc)&&fm t)=false:=by simpa using h1
  rw[h1];have h2:((gV m.Bytes m.Free&&j7 enc)&&(fm t&&ct v t))=false:=by rw[<-Bool.and_assoc,h1,mY]
  rw[h2];simp[badL]
end M
namespace M
open Go Go.V
theorem Wy(ks:List ae)(a b c:Int):∀(f:Nat)(i:Int)(B:List UInt8)(x y:Int)(t:aa)(F:List af),M.xe ks a b c f i B x y t F=M.lX M.wN ks a b c f i B x y t F
 |0,_,_,_,_,_,_=>rfl
 |f+1,i,B,x,y,t,F=>by
  rw[M.xe,M.lX];simp only[Wy ks a b c f]
theorem ajq(t:aa)(v:ae)(B:List UInt8)(x y:Int)(F:List af):M.rP t v B x y F=M.rE M.wN t v B x y F:=by
 unfold M.rP M.rE M.zI M.tW;simp only[Wy]
def xW(enc:Int)(r:List Int×bh)(n:Nat)(o:Option (List Int×List UInt8×Int×Int×List af)):Prop:=
 ∃fl,o=some (fl,r.2.1,enc,r.2.2.2,r.2.2.1)/\(r.2.2.2=0->fl=r.1)/\fl.length<=n
abbrev ajr :=(List M.aa)->(List M.ae)->List UInt8->Int->Int->List M.af->Option (List Int×List UInt8×Int×Int×List M.af)
theorem EN(out:List Int)(n:Nat)(h:out.length<n):lG (out++[0]) n=lG out n:=by
 unfold lG;rw[cL,iw];have:n-out.length=(n-(out.length+[(0:Int)].length))+1:=by simp;omega
 rw[this,List.replicate_succ];rfl
theorem WA{t:aa}(hft:M.pM M.jy t=some (cn t))(hn:(cn t).length<=2097160):∀(f:Nat)(out:List Int),(cn t).length-out.length<f->M.ov f t out=some (lG out (cn t).length)
 |0,out,h=>absurd h (eB _)
 |f+1,out,h=>by
  rw[M.ov,aa.aO,hft];simp only[aS,aU,aP,aA];by_cases hl:out.length<(cn t).length
  ·rw[aY (by omega:(out.length:Int)<((cn t).length:Int)),aA,aY (by simp;omega),aA,WA hft hn f (out++[0]) (by rw[cL];simp;omega),EN _ _ hl]
  ·rw[bU (by omega:¬(out.length:Int)<((cn t).length:Int)),aR];unfold lG;rw[show(cn t).length-out.length=0 by omega,List.replicate_zero,ma]
theorem ajs(t:aa)(hN:t.sz<=1048576)(hs:bw t=true):M.pM M.jy t=some (cn t):=
 JJ ah M.jy (fun ts g1 g2 g3 g4=>WB ah ts g1 g2 g3 g4) ah t (fj hN) (fj hN) hN hs
section
variable {enc :Int}{L:Nat}
theorem JK(he:1<=enc/\enc<=3)(rec:ajr)(n:Nat)
 (hr:∀(ts:List aa)(vs:List ae)(st:bh),aZ aa.sz ts<n->aZ aa.sz ts<=1048576->aZ ae.sz vs<=1048576->ts.length=vs.length->(∀x∈ts,bw x=true)->(∀k (hk:k<vs.length),ct vs[k] (ts.getD k aa.zero)=true)->Inv L st->
   xW enc (dG enc ts vs st) (eD ts).length (rec ts vs st.1 enc st.2.2 st.2.1)):
 ∀(m:Nat)(t:aa)(v:ae)(st:bh),t.sz<m->t.sz<n->t.sz<=1048576->v.sz<=1048576->bw t=true->ct v t=true->st.2.2=0->Inv L st->
  xW enc (ee enc t v st) (cn t).length (M.ow rec m t v st.1 enc st.2.2 st.2.1)
 |0,t,v,st,h,_,_,_,_,_,_,_=>absurd h (eB _)
 |m+1,t,v,st,h,hn,hN,hV,hs,hf,h0,hI=>by
  rw[JC enc t v st hs hf]
  show xW enc _ _ (M.ud rec (M.ow rec m) t v st.1 enc st.2.2 st.2.1)
  unfold M.ud;rw[ak (by simp[h0])];simp only[se];by_cases h1:t.Kind=1
  ·rw[av h1,h1];exact⟨[],rfl,fun _=>rfl,cU _⟩
  ·rw[ak h1,cq h1,aR];by_cases h9:t.Kind=9
   ·rw[ak (by omega),ak (by omega),ak (by omega),av h9,h9];refine⟨[v.Num],rfl,fun _=>rfl,?_⟩;rw[eC,ak h1,av h9];simp
   rw[cq h9,aR];by_cases hp:t.Kind=11\/t.Kind=12
   ·rw[av hp];have hb:(t.Kind==11||t.Kind==12)=true:=by rcases hp with h|h<;>rw[h]<;>rfl
    rw[hb,aA,aa.aO,ae.aO,ajq];obtain⟨x,y,e1,e2⟩:=V9 (rec:=M.wN) (f:=dx enc ah) (enc:=enc) (L:=L) (fun t v a st h=>Jo enc ah t v a st h) t v st he h0 hI hN hs hf hp (fun h12 w hw a st hz hi hle=>by
     have dA:=qj hs h12;have hks:bw (t.Kids.getD 0 aa.zero)=true:=by rw[getD_lt dA];exact fh hs _ (bC _)
     have hkN:(t.Kids.getD 0 aa.zero).sz<=1048576:=by rw[getD_lt dA];have:=aa.cZ (a:=t) (bC dA);omega
     have hfw:=(qi hf h12).2 w hw;have hws:w.sz<ah:=fj (by have:=ae.cZ (a:=v) hw;omega);exact⟨Wa enc he L ah _ w a st hws hkN hks hfw hz hi hle,qk enc L ah _ w a st hks hfw hi hle⟩)
    rw[e1];refine⟨[x,y],rfl,fun hc=>?_,?_⟩
    ·obtain⟨g1,g2⟩:=e2 hc;rw[g1,g2]
    ·rw[eC,ak h1,ak (by omega),av hp];simp
   ·rw[ak hp];have hb:(t.Kind==11||t.Kind==12)=false:=by rw[cq (fun e=>hp (.inl e)),cq (fun e=>hp (.inr e))];rfl
    rw[hb,aR];by_cases hp2:t.Kind=15\/t.Kind=16
    ·rw[av hp2];have hb:(t.Kind==15||t.Kind==16)=true:=by rcases hp2 with h|h<;>rw[h]<;>rfl
     rw[hb,aA];obtain⟨hl,hall⟩:=xO hf hp2;have hks:=aa.jk (a:=t) (bj _);obtain⟨fl,e1,e2,e3⟩:=hr t.Kids v.Kids st (by rw[aa.dV]at hn;omega) (by omega) (ae.jk hV) hl (fh hs) hall hI;rw[e1];refine⟨fl,rfl,e2,?_⟩;rw[eC,ak h1,ak (by omega),ak hp,av hp2];exact e3
    ·rw[ak hp2];have hb:(t.Kind==15||t.Kind==16)=false:=by rw[cq (fun e=>hp2 (.inl e)),cq (fun e=>hp2 (.inr e))];rfl
     rw[hb,aR];by_cases hp3:t.Kind=13\/t.Kind=14\/t.Kind=17
     ·rw[av hp3];have hb:(t.Kind==13||(t.Kind==14||t.Kind==17))=true:=by rcases hp3 with h|h|h<;>rw[h]<;>rfl
      rw[hb,aA];obtain⟨n0,n1,hl1,hall⟩:=uL hs hf hp3;have hcf:=JD hs hp3 n0 n1;have hpl:=JH t;have hfl:=m4 t;have hft:=ajs t hN hs;have hce:=xI t hs hp3;have ajt:inB v.Num (bB t).length=true:=by unfold inB;rw[aY n0,aY (by omega)];rfl
      simp only[aa.aO,ae.aO,hce,aS,aU,aP,bI,ajt];unfold Au;have aju:∀out:List Int,M.ov ah t out=some (lG out (cn t).length):=fun out=>WA hft (by omega) ah out (by have:=cH;omega)
      simp only[aju];cases hk:v.Kids with
      |nil=>
       simp only[dm,show decide ((0:Int)<((0:Nat):Int))=false from rfl,aR];exact⟨_,rfl,fun _=>rfl,by rw[EJ];simp;omega⟩
      |cons w r=>
       have hw:w∈v.Kids:=by rw[hk];exact fa ..
       have hct:=kG hs hp3 _ (lF n0 n1);obtain⟨fl,e1,e2,e3⟩:=JK he rec n hr m (fG t v.Num) w st (by omega) (by omega) (by omega) (by have:=ae.cZ (a:=v) hw;omega) (lD hs hp3 _ (lF n0 n1)) (hall w hw) h0 hI;have e1':M.ow rec m ((bB t).getD v.Num.toNat aa.zero) w st.1 enc st.2.2 st.2.1=_:=e1;have hd:decide ((0:Int)<((w::r).length:Int))=true:=aY (by simp);have hin:inB (0:Int) (w::r).length=true:=by unfold inB;rw[aY (by omega),aY (by simp)];rfl
       simp only[hd,aA,hin,show(w::r).getD (Int.toNat 0) ae.zero=w from rfl,e1',aS,aU,aP];rw[aY (by simp;omega),aA];refine⟨_,rfl,fun hc=>?_,by rw[EJ,cL];simp;omega⟩;rw[e2 hc]
     ·rw[ak hp3];have hb:(t.Kind==13||(t.Kind==14||t.Kind==17))=false:=by rw[cq (fun e=>hp3 (.inl e)),cq (fun e=>hp3 (.inr (.inl e))),cq (fun e=>hp3 (.inr (.inr e)))];rfl
      rw[hb,aR,ak h9];refine⟨_,rfl,fun _=>rfl,?_⟩;rw[eC,ak h1,ak h9,ak hp,ak hp2,ak (by omega),ak (by omega)];simp
theorem WC(he:1<=enc/\enc<=3):∀(n:Nat)(ts:List aa)(vs:List ae)(st:bh),aZ aa.sz ts<n->aZ aa.sz ts<=1048576->aZ ae.sz vs<=1048576->ts.length=vs.length->(∀x∈ts,bw x=true)->(∀k (hk:k<vs.length),ct vs[k] (ts.getD k aa.zero)=true)->Inv L st->
 xW enc (dG enc ts vs st) (eD ts).length (M.ox n ts vs st.1 enc st.2.2 st.2.1)
 |0,ts,vs,st,h,_,_,_,_,_,_=>absurd h (eB _)
 |n+1,ts,vs,st,h,hN,hV,hl,hs,hf,hI=>by
  have hsum:=xU hN;have hlen:ts.length<=1048576:=fD (fx _ _) hN;have key:∀f k (st:bh) (fl:List Int),k<=ts.length->ts.length-k<f->fl.length+2*dB (ts.drop k)<=2097160->Inv L st->
   ∃uN,M.pP (M.ox n) ts vs f (k:Int) st.1 enc st.2.2 fl st.2.1=
    some ((dG enc (ts.drop k) (vs.drop k) st).2.1,enc,(dG enc (ts.drop k) (vs.drop k) st).2.2.2,fl++uN,(dG enc (ts.drop k) (vs.drop k) st).2.2.1)/\
    ((dG enc (ts.drop k) (vs.drop k) st).2.2.2=0->uN=(dG enc (ts.drop k) (vs.drop k) st).1)/\uN.length<=(eD (ts.drop k)).length:=by
   intro f
   induction f with
   |zero=>intro k st fl h1 h2;omega
   |succ f ih=>
    intro k st fl h1 h2 h3 hI;by_cases h0:st.2.2=0
    ·rcases cQ k ts.length with hk|hk
     ·have hkv:k<vs.length:=by omega
      have hm:=bC hk;have hz:=jV aa.sz _ _ hm;have hzv:=jV ae.sz _ _ (bC hkv);have hfl:=m4 ts[k];rw[sq hk]at h3;have hfk:ct vs[k] ts[k]=true:=by have:=hf k hkv;rwa [getD_lt hk]at this
      obtain⟨g,e1,e2,e3⟩:=JK (L:=L) he (M.ox n) n (fun ts vs st a b c d e f' g'=>WC he n ts vs st a b c d e f' g') ah ts[k] vs[k] st (fj (by omega)) (by omega) (by omega) (by omega) (hs _ hm) hfk h0 hI;obtain⟨hI',_⟩:=xQ enc L _ ts[k] vs[k] st (uE _) (hs _ hm) hfk hI;obtain⟨g',e4,e5,e6⟩:=ih (k+1) (ee enc ts[k] vs[k] st).2 (fl++g) (by omega) (by omega) (by rw[cL];omega) hI';rw[Wu enc hk hkv,EM hk];refine⟨g++g',?_,fun hc=>?_,?_⟩
      ·rw[M.pP];have hd:decide (fl.length+g.length<=1073741824)=true:=by simp only[bm];omega
       have e1':M.ue (M.ox n) ts[k] vs[k] st.1 enc st.2.2 st.2.1=_:=e1;have hz0:(st.2.2==0)=true:=by rw[h0];rfl
       simp only[aa.aO,ae.aO,getD_lt hk,getD_lt hkv,e1',cN,cB,cO,hk,hkv,cr,aA,bI,aP,cm hk (by omega:ts.length<2^62),aS,aU,hd,hz0];rw[e4,iw]
      ·have hc':(dG enc (ts.drop (k+1)) (vs.drop (k+1)) (ee enc ts[k] vs[k] st).2).2.2.2=0:=hc;rw[e5 hc',e2 (by
        by_cases h0:(ee enc ts[k] vs[k] st).2.2.2=0
        ·exact h0
        ·rw[EK enc _ _ _ h0]at hc';exact hc')]
      ·simp only[cL];omega
     ·have:k=ts.length:=by omega
      subst this;refine⟨[],?_,?_,cU _⟩
      ·rw[M.pP];simp[gU,dG]
      ·rw[gU,dG];exact fun _=>rfl
    ·rw[EK enc _ _ _ h0];refine⟨[],?_,fun h=>absurd h h0,cU _⟩;rw[M.pP,cq h0,Bool.and_false,aR,ma]
  obtain⟨g,e1,e2,e3⟩:=key ah 0 st [] (cU _) (by have:=cH;omega) (by simp only[ej,dm];omega) hI;simp only[ej,jB]at e1 e2 e3;have e1':M.pP (M.ox n) ts vs ah 0 st.1 enc st.2.2 [] st.2.1=_:=e1
  show xW enc _ _ (M.zJ (M.ox n) ts vs st.1 enc st.2.2 st.2.1)
  unfold M.zJ;rw[e1'];exact⟨g,rfl,e2,e3⟩
end
theorem ajv(enc:Int)(he:1<=enc/\enc<=3)(L:Nat)(t:aa)(v:ae)(st:bh)(hN:t.sz<=1048576)(hV:v.sz<=1048576)(hs:bw t=true)(hf:ct v t=true)(h0:st.2.2=0)(hI:Inv L st):
 xW enc (ee enc t v st) (cn t).length (M.ue M.mL t v st.1 enc st.2.2 st.2.1):=
 JK (L:=L) he M.mL ah (fun ts vs st a b c d e f g=>WC he ah ts vs st a b c d e f g) ah t v st (fj hN) (fj hN) hN hV hs hf h0 hI
theorem WE:∀m,M.ui m=M.lh M.jy m
 |0=>rfl
 |m+1=>by
  have ih:=WE m;have hl0:∀(cs:List aa)(f:Nat)(i:Int)(a:List Int),M.xl (M.lh M.jy m) cs f i a=M.ou (M.lh M.jy m) cs f i a:=fun cs f=>by
   induction f with
   |zero=>intro i a;rfl
   |succ f JL=>intro i a;rw[M.xl,M.ou];simp only[JL]
  funext t
  show M.zO (M.ui m) t=M.uc M.jy (M.lh M.jy m) t
  rw[ih];unfold M.zO M.uc;simp only[hl0,aP]
theorem ajw(t:aa):M.D2 t=M.pM M.jy t:=by
 show M.ui ah t=M.lh M.jy ah t
 rw[WE]
theorem WG(t:aa):∀(f:Nat)(o:List Int),M.uj f t o=M.ov f t o
 |0,o=>rfl
 |f+1,o=>by
  rw[M.uj,M.ov,aa.aO];simp only[ajw,WG t f]
theorem WH:∀m,M.uk m=M.ow M.mL m
 |0=>rfl
 |m+1=>by
  have ih:=WH m;funext t v B x y F
  show M.zP (M.uk m) t v B x y F=M.ud M.mL (M.ow M.mL m) t v B x y F
  rw[ih];unfold M.zP M.ud;simp only[WG]
theorem ajx(t:aa)(v:ae)(B:List UInt8)(x y:Int)(F:List af):M.um t v B x y F=M.ue M.mL t v B x y F:=by
 show M.uk ah t v B x y F=M.ow M.mL ah t v B x y F
 rw[WH]
end M
namespace M
open Go Go.V
def WI(r:List Int×bh):M.aB×List Int×Int:=(M.aB.mk (lH r).1 (lH r).2.2.1,(lH r).2.2.2,(lH r).2.1)
theorem tell(enc:Int){fl:List Int}{B:List UInt8}{c:Int}{F:List af}(r:List Int×bh)(h1:B=r.2.1)(h2:c=r.2.2.2)(h3:F=r.2.2.1)(h4:r.2.2.2=0->fl=r.1):
 xC (let q13:=(M.xp fl B enc c F)
  bif q13.isSome then
   let q16:=(Option.getD q13 default)
   let fY:=q16.2
   let jh:=fY.2
   some ((M.aB.mk q16.1 jh.2.2.2.2),fY.1,jh.1)
  else none)
  (let q13:=(M.xo fl B enc c F)
  bif q13.isSome then
   let q16:=(Option.getD q13 default)
   let fY:=q16.2
   let jh:=fY.2.2.2.2
   some ((M.aB.mk q16.1 jh.1),jh.2.1,fY.1)
  else none)=some (WI r):=by
 subst h1;subst h2;subst h3;unfold M.xp M.xo WI lH;by_cases h:r.2.2.2=0
 ·rw[h4 h,h];rfl
 ·have:(r.2.2.2 !=0)=true:=by rw[qg];exact h
  rw[this,av h];rfl
theorem ajy(m:aB)(enc:Int)(t:aa)(v:ae)(hB:m.Bytes.length<=1048576)(hF:m.Free.length<=1048576)(ht:t.sz<=1048576)(hv:v.sz<=1048576):M.uo m enc t v=some (M.aB.mk (mf m enc t v).1 (mf m enc t v).2.2.1,(mf m enc t v).2.2.2,(mf m enc t v).2.1):=by
 unfold M.uo mf;rw[aa.aO,ae.aO,aiT m enc hB hF,aiN v t hv ht];simp only[aS,aU,aP];by_cases h1:((gV m.Bytes m.Free&&j7 enc)&&(fm t&&ct v t))=true
 ·rw[av h1];rw[aW]at h1;obtain⟨h1',h2⟩:=h1;rw[h1',h2];rw[aW]at h2;obtain⟨ho,hf⟩:=h2;have hs:=Aq ho;have hM:ix m.Bytes m.Free:=by rw[aW]at h1';exact(Es _ _).1 h1'.1
  have he:1<=enc/\enc<=3:=by rw[aW]at h1';exact aiM.1 h1'.2
  have eo:M.jw m=some (m.Bytes,m.Free):=VP m.Bytes m.Free (by have:=hM.len;omega);obtain⟨fl,e1,e2,e3⟩:=ajv enc he m.Bytes.length t v (m.Bytes,m.Free,0) ht hv hs hf rfl ⟨rfl,hM⟩;have e1':M.ue M.mL t v m.Bytes enc 0 m.Free=_:=e1;rw[eo];simp only[aS,aU,aP,ajx,e1',mV,hU,aR,gR];exact tell enc _ rfl rfl rfl e2
 ·rw[ak h1];have h2:((gV m.Bytes m.Free&&j7 enc)&&(fm t&&ct v t))=false:=by simpa using h1
  rw[<-Bool.not_and,h2];simp[badL]
theorem anU(m:aB)(enc:Int)(t:aa)(v:ae)(hB:m.Bytes.length<=1048576)(hF:m.Free.length<=1048576)(ht:t.sz<=1048576)(hv:v.sz<=1048576):M.ajB m enc t v=some (M.aB.mk (anx m enc t v).1 (anx m enc t v).2.2.1,(anx m enc t v).2.2.2,(anx m enc t v).2.1):=by
 unfold M.ajB anx;rw[aa.aO,ae.aO,aiT m enc hB hF,aiN v t hv ht,ajy m enc t v hB hF ht hv];simp only[aS,aU,aP];by_cases h1:((gV m.Bytes m.Free&&j7 enc)&&(fm t&&ct v t))=true
 ·rw[av h1];have h1c:=h1;rw[aW]at h1;obtain⟨h1',h2⟩:=h1;rw[h1',h2];rw[aW]at h2;obtain⟨ho,hf⟩:=h2;have hs:=Aq ho;have hM:ix m.Bytes m.Free:=by rw[aW]at h1';exact(Es _ _).1 h1'.1
  have he:1<=enc/\enc<=3:=by rw[aW]at h1';exact aiM.1 h1'.2
  have eo:M.jw m=some (m.Bytes,m.Free):=VP m.Bytes m.Free (by have:=hM.len;omega);have hsz:=Ac t;rw[ajw,ajs t ht hs];simp only[aS,aU,aP,mV,hU,aR,gR];unfold ajn;by_cases hl:(cn t).length<=1
  ·rw[aY (by omega:((cn t).length:Int)<=1),aA,av hl];unfold mf;rw[av h1c];rfl
  ·rw[bU (by omega:¬((cn t).length:Int)<=1),aR,ak hl,Eh t ht hs,eo];simp only[aS,aU,aP];rw[VQ (lay t).1 (lay t).2 m.Bytes m.Free enc 0 (by omega) (sd t) hM];unfold ajm;cases hT:fy (lay t).1 (lay t).2 m.Free with
   |none=>
    simp only[aS,aU,aP,show((4:Int)==0)=false from rfl,aR];exact tell enc _ rfl rfl rfl (fun _=>rfl)
   |some p=>
    have hI:Inv m.Bytes.length (m.Bytes,m.Free,(0:Int)):=⟨rfl,hM⟩;obtain⟨g1,g2,g3⟩:=hI.take (sd t) hT 0;obtain⟨n,hn⟩:=kD g2;have e:=Wa enc he m.Bytes.length ah t v n (m.Bytes,p.2,0) (fj hv) ht hs hf rfl g1 (by omega);have e':M.wN t v (n:Int) m.Bytes enc 0 p.2=j6 enc (dx enc ah t v n (m.Bytes,p.2,0)):=e;simp only[aS,aU,aP,show((0:Int)==0)=true from rfl,aA,hn,e',j6,cN];exact tell enc _ rfl rfl rfl (fun _=>rfl)
 ·rw[ak h1];have h2:((gV m.Bytes m.Free&&j7 enc)&&(fm t&&ct v t))=false:=by simpa using h1
  rw[<-Bool.not_and,h2];simp[badL]
theorem ajz{L n:Nat}{r:List Int×bh}(h:Inv L r.2)(hn:r.1.length<=n):(lH r).1.length<=4096/\(lH r).2.2.1.length<=4096/\(lH r).2.2.2.length<=n:=by
 unfold lH;split
 ·simp
 ·exact⟨h.2.1,h.2.len,hn⟩
theorem anV(m:aB)(enc:Int)(t:aa)(v:ae):(anx m enc t v).1.length<=4096/\(anx m enc t v).2.2.1.length<=4096/\(anx m enc t v).2.2.2.length<=1:=by
 unfold anx;split
 ·rename_i h1;rw[aW,aW,aW]at h1;obtain⟨g1,g2⟩:=alj enc m.Bytes.length t v (m.Bytes,m.Free,0) (Aq h1.2.1) h1.2.2 ⟨rfl,(Es _ _).1 h1.1.1⟩;exact ajz g1 (by omega)
 ·simp[badL]
end M
namespace M
open Go Go.V
def WJ(ts:List aa):Nat×Nat:=(cY (cE 0 1 (ts.map lay)).2.1 (cE 0 1 (ts.map lay)).2.2,(cE 0 1 (ts.map lay)).2.2)
noncomputable def ajC(enc:Int)(ts:List aa)(vs:List ae)(st:bh):List Int×bh:=match fy (WJ ts).1 (WJ ts).2 st.2.1 with
 |none=>([0],st.1,st.2.1,4)
 |some p=>([p.1],jn (dx enc ah) ts vs (cE 0 1 (ts.map lay)).1 p.1.toNat (st.1,p.2,0))
noncomputable def ajD(enc:Int)(ts:List aa)(vs:List ae)(st:bh):List Int×bh:=if 8<(eD ts).length then ajC enc ts vs st else dG enc ts vs st
def vsB(ts:List aa)(vs:List ae):Bool:=decide (ts.length=vs.length)&&iZ vs ts
noncomputable def anz(m:aB)(enc:Int)(ts:List aa)(vs:List ae):List UInt8×Int×List af×List Int:=
 if(Ar m enc ts&&vsB ts vs)=true then lH (ajD enc ts vs (m.Bytes,m.Free,0))else badL
end M
