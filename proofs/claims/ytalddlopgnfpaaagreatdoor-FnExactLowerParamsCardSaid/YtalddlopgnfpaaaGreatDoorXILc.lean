/-
  LOWERING into memory, in plain Lean: one function that both sides compute; what it keeps.
-/
import Derived.Test.YtalddlopgnfpaaaGreatDoorXILb
import Derived.Test.YtalddlopgnfpaaaGreatDoorXIU
set_option linter.unusedVariables false
set_option linter.unusedSimpArgs false
namespace M
open Go Go.V
abbrev ba :=List UInt8×List af×Int
def gB(enc:Int):Nat:=if enc=2 then 2 else 1
def fN(t:aa)(n:Int):aa:=(bB t).getD n.toNat aa.zero
def eY(f:aa->ae->Nat->ba->ba)(t:aa)(sz:Nat):List ae->Nat->ba->ba
 |[],_,st=>st
 |v::r,a,st=>eY f t sz r (a+sz) (f t v a st)
def fO(f:aa->ae->Nat->ba->ba):List aa->List ae->List Int->Nat->ba->ba
 |t::ts,v::vs,p::ps,a,st=>fO f ts vs ps a (f t v (a+p.toNat) st)
 |_,_,_,_,st=>st
def dN(enc:Int)(f:aa->ae->Nat->ba->ba)(t:aa)(v:ae)(st:ba):Int×Int×ba:=
 if t.Kind=11 then match md enc v.Text with
  |none=>(0,0,(st.1,st.2.1,19))
  |some bs=>match eV bs.length (gB enc) st.2.1 with
   |none=>(0,0,(st.1,st.2.1,4))
   |some p=>(p.1,((bs.length/gB enc:Nat):Int),(eX p.1 bs st.1,p.2,0))
 else match eV (v.Kids.length*(lay (t.Kids.getD 0 aa.zero)).1) (lay (t.Kids.getD 0 aa.zero)).2 st.2.1 with
  |none=>(0,(v.Kids.length:Int),(st.1,st.2.1,4))
  |some p=>(p.1,(v.Kids.length:Int),eY f (t.Kids.getD 0 aa.zero) (lay (t.Kids.getD 0 aa.zero)).1 v.Kids p.1.toNat (st.1,p.2,0))
def vh(f:aa->ae->Nat->ba->ba)(t:aa)(v:ae)(a:Nat)(st:ba):ba:=
 match v.Kids with
 |[]=>(eX a (fixF v.Num 1) st.1,st.2.1,0)
 |w::_=>f (fN t v.Num) w (a+jr t) (eX a (fixF v.Num 1) st.1,st.2.1,0)
def Fa(a:Nat)(p:Int×Int×ba):ba:=if p.2.2.2.2≠0 then p.2.2 else(eX a (fixF p.1 4++fixF p.2.1 4) p.2.2.1,p.2.2.2.1,0)
def me(enc:Int)(f:aa->ae->Nat->ba->ba)(t:aa)(v:ae)(a:Nat)(st:ba):ba:=
 if st.2.2≠0 then st
 else if t.Kind=11\/t.Kind=12 then Fa a (dN enc f t v st)
 else if t.Kind=15\/t.Kind=16 then fO f t.Kids v.Kids (bW 0 1 (t.Kids.map lay)).1 a st
 else if t.Kind=13\/t.Kind=14\/t.Kind=17 then vh f t v a st
 else(eX a (fixF v.Num (lay t).1) st.1,st.2.1,0)
def cY(enc:Int):Nat->aa->ae->Nat->ba->ba
 |0=>fun _ _ _ st=>st
 |n+1=>me enc (cY enc n)
def Inv(L:Nat)(st:ba):Prop:=st.1.length=L/\i4 st.1 st.2.1
theorem Inv.le{L:Nat}{st:ba}(h:Inv L st):L<=4096:=by rw[<-h.1];exact h.2.1
theorem Inv.write{L:Nat}{st:ba}(h:Inv L st)(a:Int)(bs:List UInt8)(c:Int):Inv L (eX a bs st.1,st.2.1,c):=by
 unfold Inv i4 at*;simp only[Xp];exact h
theorem Inv.code{L:Nat}{st:ba}(h:Inv L st)(c:Int):Inv L (st.1,st.2.1,c):=h
theorem Inv.take{L:Nat}{st:ba}(h:Inv L st){many al:Nat}(ha:cZ al){p:Int×List af}(hp:eV many al st.2.1=some p)(c:Int):Inv L (st.1,p.2,c)/\0<=p.1/\p.1+many<=L:=by
 obtain⟨h1,h2⟩:=h;have:=akn ha (e:=st.1.length) (a:=p.1) (l':=p.2) h2.2 (by omega) hp;exact⟨⟨h1,h2.1,this.1⟩,this.2.1,by rw[<-h1];exact this.2.2⟩
theorem Kp{v:ae}{t:aa}(h:bY v t=true):v.Kind=t.Kind/\fY v.Num t=true/\gA v.Text=true:=by
 rw[Fb,aZ]at h;have h1:=h.1;unfold headB at h1;simp only[aZ,kO]at h1;exact⟨h1.1.1.1,h1.1.1.2,h1.2⟩
theorem Fe{v:ae}{t:aa}(h:bY v t=true):∃ts,kT v.Num v.Kids.length t=some ts/\ts.length=v.Kids.length/\i7 v.Kids ts=true:=by
 rw[Fb,aZ]at h;cases hk:kT v.Num v.Kids.length t with
 |none=>rw[hk]at h;simp at h
 |some ts=>
  rw[hk]at h;simp only[aZ,bh]at h;exact⟨ts,rfl,h.2⟩
theorem Kq{v:ae}{ts:List aa}(hl:ts.length=v.Kids.length)(h:i7 v.Kids ts=true):∀k (hk:k<v.Kids.length),bY v.Kids[k] (ts.getD k aa.zero)=true:=by
 rw[yq _ _ hl,eP]at h;intro k hk;have:=h k (yt.2 hk)
 rwa [getD_lt hk]at this
theorem qw{v:ae}{t:aa}(h:bY v t=true)(hk:t.Kind=12):v.Kids.length<=8/\∀w∈v.Kids,bY w (t.Kids.getD 0 aa.zero)=true:=by
 obtain⟨ts,h1,h2,h3⟩:=Fe h;unfold kT at h1;rw[av hk]at h1;simp only[ar]at h1;subst h1;rw[gw]at h2;refine⟨by omega,?_⟩;rw[Kr _ _ _ (by omega),eP]at h3;exact h3
theorem yu{v:ae}{t:aa}(h:bY v t=true)(hk:t.Kind=15\/t.Kind=16):t.Kids.length=v.Kids.length/\∀k (hk:k<v.Kids.length),bY v.Kids[k] (t.Kids.getD k aa.zero)=true:=by
 obtain⟨ts,h1,h2,h3⟩:=Fe h;unfold kT at h1;rw[an (by omega),av hk]at h1;simp only[ar]at h1;subst h1;exact⟨h2,Kq h2 h3⟩
theorem vi{v:ae}{t:aa}(hs:bj t=true)(h:bY v t=true)(hk:t.Kind=13\/t.Kind=14\/t.Kind=17):0<=v.Num/\v.Num<((bB t).length:Int)/\v.Kids.length<=1/\∀w∈v.Kids,bY w (fN t v.Num)=true:=by
 obtain⟨ts,h1,h2,h3⟩:=Fe h;have one:∀(x:aa),(i9 x).length<=1:=fun x=>by unfold i9;split<;>simp
 have fin:∀(x:aa),ts=i9 x->∀w∈v.Kids,bY w x=true:=fun x hx w hw=>by
  obtain⟨k,hk1,rfl⟩:=oQ hw;have hl:ts.length<=1:=by rw[hx];exact one x
  have h0:k=0:=by omega
  subst h0;have:=Kq h2 h3 0 hk1;rw[hx]at this h2;unfold i9 at this h2;split at this
  ·rename_i hu;rw[av hu]at h2;simp at h2;omega
  ·exact this
 unfold kT at h1;rw[an (by omega),an (by omega)]at h1;by_cases h13:t.Kind=13
 ·have hp:=sH hs h13;rw[av h13]at h1;have hc:bB t=[.mk 1 [] [] [],t.Kids.getD 0 aa.zero]:=by unfold bB;rw[av h13]
  unfold fN;rw[hc];split at h1
  ·rename_i h0;simp only[ar]at h1;subst h1;have:v.Kids=[]:=iZ (by rw[<-h2];rfl);rw[this,h0];exact⟨by omega,by simp,by simp,fun w hw=>by simp at hw⟩
  ·split at h1
   ·rename_i h0 h1';simp only[ar]at h1;rw[h1'];exact⟨by omega,by simp,by rw[<-h2,<-h1];exact one _,fin _ h1.symm⟩
   ·cases h1
 ·have hk':t.Kind=14\/t.Kind=17:=by omega
  rw[an h13,av hk']at h1;have hc:bB t=t.Kids:=by unfold bB;rw[an h13]
  unfold fN;rw[hc];split at h1
  ·rename_i hn;simp only[ar]at h1;exact⟨hn.1,hn.2,by rw[<-h2,<-h1];exact one _,fin _ h1.symm⟩
  ·cases h1
theorem lI{t:aa}{n:Int}(h0:0<=n)(h1:n<((bB t).length:Int)):fN t n∈bB t:=by
 unfold fN;rw[getD_lt (by omega:n.toNat<(bB t).length)];exact bn _
theorem Ks{t:aa}{n:Int}(hs:bj t=true)(hk:t.Kind=13\/t.Kind=14\/t.Kind=17)(h0:0<=n)(h1:n<((bB t).length:Int)):jr t+(lay (fN t n)).1<=(lay t).1:=by
 have hm:=W7 ((bB t).map lay) 0 1 (lay (fN t n)) (mU.2 ⟨_,lI h0 h1,rfl⟩);rw[JW hs hk];have:=yj (a:=cQ 1 (dw 0 1 ((bB t).map lay)).2+(dw 0 1 ((bB t).map lay)).1) (E2 (bB t));unfold jr;simp only;omega
theorem Ff(l:List aa)(k:Nat)(hk:k<l.length):∃p:Nat,(bW 0 1 (l.map lay)).1.getD k 0=(p:Int)/\p+(lay l[k]).1<=cQ (bW 0 1 (l.map lay)).2.1 (bW 0 1 (l.map lay)).2.2:=by
 obtain⟨p,h1,h2,h3⟩:=W5 (l.map lay) 0 1 k (by simpa using hk) (oL l);have:=yj (a:=(bW 0 1 (l.map lay)).2.1) (yk (l.map lay) 0 1 (oL l) (.inl rfl));rw[List.getElem_map]at h3;exact⟨p,h1,by omega⟩
theorem Fg(enc:Int):∀(m:Nat)(t:aa)(v:ae)(a:Nat)(st:ba),st.2.2≠0->cY enc m t v a st=st
 |0,t,v,a,st,h=>rfl
 |m+1,t,v,a,st,h=>by show me enc (cY enc m) t v a st=st;unfold me;rw[av h]
theorem XE{f:aa->ae->Nat->ba->ba}{t:aa}{sz L:Nat}:∀(l:List ae)(a:Nat)(st:ba),(∀w∈l,∀a st,Inv L st->a+sz<=L->Inv L (f t w a st))->Inv L st->a+l.length*sz<=L->Inv L (eY f t sz l a st)
 |[],a,st,_,h,_=>h
 |v::r,a,st,hf,h,ha=>by
  rw[bX,Nat.add_one_mul]at ha;exact XE r (a+sz) _ (fun w hw=>hf w (fL _ hw)) (hf v (ek ..) a st h (by omega)) (by omega)
theorem Kt{f:aa->ae->Nat->ba->ba}{L a:Nat}:∀(ts:List aa)(vs:List ae)(ps:List Int)(st:ba),ts.length=vs.length->ps.length=ts.length->
 (∀k,k<ts.length->∀st,Inv L st->Inv L (f (ts.getD k aa.zero) (vs.getD k ae.zero) (a+(ps.getD k 0).toNat) st))->Inv L st->Inv L (fO f ts vs ps a st)
 |[],_,_,st,_,_,_,h=>h
 |t::ts,[],_,st,hl,_,_,h=>by simp at hl
 |t::ts,v::vs,[],st,_,hp,_,h=>by simp at hp
 |t::ts,v::vs,p::ps,st,hl,hp,hf,h=>by
  refine Kt ts vs ps _ (by simpa using hl) (by simpa using hp) (fun k hk st hst=>?_) (hf 0 (by simp) st h);exact hf (k+1) (by simpa using hk) st hst
theorem qx{t:aa}(hs:bj t=true)(h12:t.Kind=12):0<t.Kids.length:=by
 rw[oM]at hs;have h1:jH t=true:=by rw[aZ]at hs;exact hs.1
 unfold jH sK at h1;rw[av (.inl h12:t.Kind=12\/t.Kind=13)]at h1;simp only[aZ,kO]at h1;omega
theorem Fh{f:aa->ae->Nat->ba->ba}{enc:Int}{L:Nat}(t:aa)(v:ae)(st:ba)(hs:bj t=true)(hf:bY v t=true)(hk:t.Kind=11\/t.Kind=12)(h:Inv L st)
 (hr:t.Kind=12->∀w∈v.Kids,∀a st,Inv L st->a+(lay (t.Kids.getD 0 aa.zero)).1<=L->Inv L (f (t.Kids.getD 0 aa.zero) w a st)):Inv L (dN enc f t v st).2.2:=by
 unfold dN;split
 ·split
  ·exact h.code 19
  ·split
   ·exact h.code 4
   ·rename_i bs hb p hp;have:=h.take (by unfold gB;split<;>simp[cZ]) hp 0;exact this.1.write _ _ 0
 ·rename_i h11;have h12:t.Kind=12:=by omega
  split
  ·exact h.code 4
  ·rename_i p hp;obtain⟨g1,g2,g3⟩:=h.take (sF _) hp 0;exact XE v.Kids p.1.toNat _ (fun w hw a' st' hi hle=>hr h12 w hw a' st' hi hle) g1 (by omega)
theorem mf(enc:Int)(L:Nat):∀(m:Nat)(t:aa)(v:ae)(a:Nat)(st:ba),bj t=true->bY v t=true->Inv L st->a+(lay t).1<=L->Inv L (cY enc m t v a st)
 |0,t,v,a,st,_,_,h,_=>h
 |m+1,t,v,a,st,hs,hf,h,ha=>by
  show Inv L (me enc (cY enc m) t v a st)
  unfold me;split
  ·exact h
  ·split
   ·rename_i hc hk;unfold Fa;have key:Inv L (dN enc (cY enc m) t v st).2.2:=Fh t v st hs hf hk h fun h12 w hw a' st' hi hle=>by
     have dE:=qx hs h12;have hks:bj (t.Kids.getD 0 aa.zero)=true:=by rw[getD_lt dE];exact fu hs _ (bn _)
     exact mf enc L m _ w a' st' hks ((qw hf h12).2 w hw) hi hle
    split
    ·exact key
    ·exact key.write _ _ 0
   ·split
    ·rename_i hc hk hk2;obtain⟨hl,hall⟩:=yu hf hk2;refine Kt t.Kids v.Kids _ st hl (by rw[vc];simp) (fun k hk st' hi=>?_) h;obtain⟨p,h1,h2⟩:=Ff t.Kids k hk;rw[h1,bL,getD_lt hk,getD_lt (by omega:k<v.Kids.length)];have hf2:=hall k (by omega);rw[getD_lt hk]at hf2;refine mf enc L m _ _ _ st' (fu hs _ (bn _)) hf2 hi ?_;rw[A5 hk2]at ha;simp only at ha;omega
    ·split
     ·rename_i hc hk hk2 hk3;obtain⟨h0,h1,h2,hall⟩:=vi hs hf hk3;unfold vh;split
      ·exact h.write _ _ 0
      ·rename_i w r e;have hci:=Ks hs hk3 h0 h1;exact mf enc L m _ w _ _ (lF hs hk3 _ (lI h0 h1)) (hall w (by rw[e];exact ek ..)) (h.write _ _ 0) (by omega)
     ·exact h.write _ _ 0
end M
namespace M
open Go Go.V
def jJ(enc:Int)(st:ba):Option (Int×Int×List UInt8×List af):=some (enc,st.2.2,st.1,st.2.1)
abbrev akL :=M.aa->M.ae->Int->Int->Int->List UInt8->List M.af->Option (Int×Int×List UInt8×List M.af)
section
variable {rec :akL}{f:aa->ae->Nat->ba->ba}{enc:Int}{L:Nat}
theorem akM(t:aa)(v:ae)(p:Nat)(st:ba)(hst:Inv L st)(hN:t.sz<=1048576)(hs:bj t=true)(h8:v.Kids.length<=8)(hp:p+v.Kids.length*(lay t).1<=L)
 (hr:∀w∈v.Kids,∀a st,Inv L st->a+(lay t).1<=L->rec t w (a:Int) enc st.2.2 st.1 st.2.1=jJ enc (f t w a st)/\Inv L (f t w a st)):
 M.iS rec (p:Int) v.Kids (v.Kids.length:Int) ah 0 enc st.2.2 v t st.1 st.2.1=
   some ((p:Int),enc,(eY f t (lay t).1 v.Kids p st).2.2,v,(eY f t (lay t).1 v.Kids p st).1,(eY f t (lay t).1 v.Kids p st).2.1):=by
 have e:=kd (F:=fun g i (s:ba)=>M.iS rec (p:Int) v.Kids (v.Kids.length:Int) g i enc s.2.2 v t s.1 s.2.1) v.Kids (by omega)
  (fun r s=>some ((p:Int),enc,(eY f t (lay t).1 r (p+(v.Kids.length-r.length)*(lay t).1) s).2.2,v,(eY f t (lay t).1 r (p+(v.Kids.length-r.length)*(lay t).1) s).1,(eY f t (lay t).1 r (p+(v.Kids.length-r.length)*(lay t).1) s).2.1))
  (fun k s=>Inv L s) ?_ ?_ st hst
 ·simp only[oR,mX,Nat.add_zero]at e;exact e
 ·intro g k s hk hI ih;have hL:=hI.le
  show M.iS rec (p:Int) v.Kids (v.Kids.length:Int) (g+1) (k:Int) enc s.2.2 v t s.1 s.2.1=_
  rw[M.iS];have hkl:(v.Kids.drop (k+1)).length=v.Kids.length-(k+1):=List.length_drop;have hmul:(k+1)*(lay t).1<=v.Kids.length*(lay t).1:=dt _ hk;rw[Nat.add_one_mul]at hmul;have ew:IntKind.wrap .i64 ((p:Int)+IntKind.wrap .i64 ((k:Int)*((lay t).1:Int)))=((p+k*(lay t).1:Nat):Int):=by
   rw[<-Int.natCast_mul,wrap_i64 (n:=((k*(lay t).1:Nat):Int)) (by omega) (by omega),wrap_i64 (by omega) (by omega)];omega
  obtain⟨h1,h2⟩:=hr v.Kids[k] (bn hk) (p+k*(lay t).1) s hI (by omega);simp only[cJ,hk,cn,aA,bL,getD_lt hk,cq,aO,bM,aa.aP,ae.aP,vd t hN hs,aQ,aU,ew,h1,jJ];rw[cm hk (by omega:v.Kids.length<2^62)];refine Eq.trans (ih _ h2) ?_;have e1:v.Kids.length-(v.Kids[k]::v.Kids.drop (k+1)).length=k:=by rw[bX,hkl];omega
  have e2:v.Kids.length-(v.Kids.drop (k+1)).length=k+1:=by rw[hkl];omega
  rw[e1,e2,Nat.add_one_mul,<-gX];rfl
 ·intro g s hI
  show M.iS rec (p:Int) v.Kids (v.Kids.length:Int) (g+1) (v.Kids.length:Int) enc s.2.2 v t s.1 s.2.1=_
  rw[M.iS];simp[eY,ae.aP]
theorem XF(ts:List aa)(v:ae)(ps:List Int)(a:Nat)(st:ba)(hst:Inv L st)(hl:ts.length=v.Kids.length)(hp:ps.length=ts.length)(h8:ts.length<=1048576)
 (hr:∀k (hk:k<ts.length) (st:ba),Inv L st->∃q:Nat,ps.getD k 0=(q:Int)/\a+q<=4096/\rec (ts.getD k aa.zero) (v.Kids.getD k ae.zero) ((a+q:Nat):Int) enc st.2.2 st.1 st.2.1=jJ enc (f (ts.getD k aa.zero) (v.Kids.getD k ae.zero) (a+q) st)/\Inv L (f (ts.getD k aa.zero) (v.Kids.getD k ae.zero) (a+q) st)):
 M.mP rec (a:Int) ps ts (ts.length:Int) ah 0 enc st.2.2 v st.1 st.2.1=jJ enc (fO f ts v.Kids ps a st):=by
 have e:=kd (F:=fun g i (s:ba)=>M.mP rec (a:Int) ps ts (ts.length:Int) g i enc s.2.2 v s.1 s.2.1) ts (by omega)
  (fun r s=>jJ enc (fO f r (v.Kids.drop (ts.length-r.length)) (ps.drop (ts.length-r.length)) a s))
  (fun k s=>Inv L s) ?_ ?_ st hst
 ·simp only[oR,ej]at e;exact e
 ·intro g k s hk hI ih
  show M.mP rec (a:Int) ps ts (ts.length:Int) (g+1) (k:Int) enc s.2.2 v s.1 s.2.1=_
  rw[M.mP];obtain⟨q,hq,hle,h1,h2⟩:=hr k hk s hI;have hkv:k<v.Kids.length:=by omega
  have hkp:k<ps.length:=by omega
  have ew:IntKind.wrap .i64 ((a:Int)+(q:Int))=((a+q:Nat):Int):=by rw[wrap_i64 (by omega) (by omega)];omega
  simp only[cJ,hk,cn,aA,bL,cq,hkv,hkp,aO,bM,aa.aP,ae.aP,hq,ew,h1,jJ,aQ,aU];rw[cm hk (by omega:ts.length<2^62)];refine Eq.trans (ih _ h2) ?_;have e1:ts.length-(ts[k]::ts.drop (k+1)).length=k:=by rw[bX,List.length_drop];omega
  have e2:ts.length-(ts.drop (k+1)).length=k+1:=by rw[List.length_drop];omega
  rw[e1,e2,dZ hkv,dZ hkp];have hq':ps[k]=(q:Int):=by rw[<-hq,getD_lt hkp]
  rw[getD_lt hk,getD_lt hkv]
  show jJ enc _=jJ enc (fO f (ts.drop (k+1)) (v.Kids.drop (k+1)) (ps.drop (k+1)) a (f ts[k] v.Kids[k] (a+(ps[k]).toNat) s))
  rw[hq',bL]
 ·intro g s hI
  show M.mP rec (a:Int) ps ts (ts.length:Int) (g+1) (ts.length:Int) enc s.2.2 v s.1 s.2.1=_
  rw[M.mP];simp[fO,jJ]
theorem akN(t:aa)(v:ae)(hid:∀w∈v.Kids,∀a c B F,c≠0->rec t w a enc c B F=some (enc,c,B,F))(p c:Int)(B:List UInt8)(F:List af)(hc:c≠0)(hN:t.sz<=1048576)(hs:bj t=true)(h8:v.Kids.length<=8):
 M.iS rec p v.Kids (v.Kids.length:Int) ah 0 enc c v t B F=some (p,enc,c,v,B,F):=by
 refine Ku (F:=fun g i=>M.iS rec p v.Kids (v.Kids.length:Int) g i enc c v t B F) (n:=v.Kids.length) (by omega) (fun g k hk=>?_) (fun g=>?_)
 ·show M.iS rec p v.Kids (v.Kids.length:Int) (g+1) (k:Int) enc c v t B F=_
  rw[M.iS];simp only[cJ,hk,cn,aA,bL,getD_lt hk,cq,aO,bM,aa.aP,ae.aP,vd t hN hs,aQ,aU,hid _ (bn hk) _ c B F hc];rw[cm hk (by omega:v.Kids.length<2^62)]
 ·show M.iS rec p v.Kids (v.Kids.length:Int) (g+1) (v.Kids.length:Int) enc c v t B F=_
  rw[M.iS];simp[ae.aP]
theorem A8(enc:Int):M.oj enc=some (gB enc:Int):=by
 unfold M.oj gB;by_cases h:enc=2
 ·rw[av h,h];rfl
 ·rw[an h,cr h];rfl
theorem Kv(enc:Int):cZ (gB enc):=by unfold gB;split<;>simp[cZ]
theorem Fj(enc:Int):((gB enc:Int) !=0)=true:=by unfold gB;split<;>rfl
theorem XG(n:Nat)(enc:Int)(hn:n<=1048576):IntKind.wrap .i64 (Int.tdiv (n:Int) (gB enc:Int))=((n/gB enc:Nat):Int):=by
 rw[<-Int.ofNat_tdiv];have:n/gB enc<=n:=Nat.div_le_self _ _;generalize n/gB enc=q at*;rw[wrap_i64 (by omega) (by omega)]
theorem XH(t:aa)(v:ae)(st:ba)(h0:st.2.2=0)(hst:Inv L st)(hN:t.sz<=1048576)(hs:bj t=true)(hf:bY v t=true)(hk:t.Kind=11\/t.Kind=12)
 (hid:∀t,∀w∈v.Kids,∀a c B F,c≠0->rec t w a enc c B F=some (enc,c,B,F))
 (hr:t.Kind=12->∀w∈v.Kids,∀a st,Inv L st->a+(lay (t.Kids.getD 0 aa.zero)).1<=L->rec (t.Kids.getD 0 aa.zero) w (a:Int) enc st.2.2 st.1 st.2.1=jJ enc (f (t.Kids.getD 0 aa.zero) w a st)/\Inv L (f (t.Kids.getD 0 aa.zero) w a st)):
 ∃x y:Int,M.rW rec t v enc st.2.2 st.1 st.2.1=some (x,y,enc,(dN enc f t v st).2.2.2.2,(dN enc f t v st).2.2.1,(dN enc f t v st).2.2.2.1)/\
  ((dN enc f t v st).2.2.2.2=0->x=(dN enc f t v st).1/\y=(dN enc f t v st).2.1):=by
 obtain⟨B,F,c⟩:=st;simp only at h0;subst h0;have hM:i4 B F:=hst.2;unfold M.rW dN;simp only[show((0:Int) !=0)=false from rfl,aT];rcases hk with h11|h12
 ·rw[av h11,h11];simp only[lH,aA];have ht:=(Kp hf).2.2;rw[akI enc v.Text ht];cases hE:md enc v.Text with
  |none=>
   simp only[aQ,aU,aO,A8];rw[akw _ _ _ _ _ _ (by decide)];simp only[aQ,aU,aO];rw[J0 _ _ _ _ _ _ (by decide)];simp only[aQ,aU,aO,A8,Fj,aA];exact⟨_,_,rfl,fun h=>by simp at h⟩
  |some bs=>
   have hb:=XD enc _ bs ht hE;simp only[aQ,aU,aO,A8];rw[J1 bs.length (gB enc) B F enc (by omega) (Kv enc) hM];cases hT:eV bs.length (gB enc) F with
   |none=>
    simp only[aQ,aU,aO];rw[J0 _ _ _ _ _ _ (by decide)];simp only[aQ,aU,aO,A8,Fj,aA];exact⟨_,_,rfl,fun h=>by simp at h⟩
   |some p=>
    simp only[aQ,aU,aO];rw[E5 _ _ _ _ _ hM.1 (by omega)];simp only[aQ,aU,aO,A8,Fj,aA];exact⟨_,_,rfl,fun _=>⟨rfl,XG _ _ (by omega)⟩⟩
 ·have h11:t.Kind≠11:=by omega
  rw[an h11,cr h11,aT];have dE:=qx hs h12;have hks:bj (t.Kids.getD 0 aa.zero)=true:=by rw[getD_lt dE];exact fu hs _ (bn _)
  have hkN:(t.Kids.getD 0 aa.zero).sz<=1048576:=by rw[getD_lt dE];have:=aa.cX (a:=t) (bn dE);omega
  obtain⟨l8,hall⟩:=qw hf h12;have hsz:=AT (t.Kids.getD 0 aa.zero);have hin:inB (0:Int) t.Kids.length=true:=by unfold inB;rw[aY (by omega),aY (by omega)];rfl
  have hmul:v.Kids.length*(lay (t.Kids.getD 0 aa.zero)).1<=8*(16*1048577):=Nat.mul_le_mul l8 (by omega);simp only[aa.aP,ae.aP,Int.toNat_zero,vd _ hkN hks,sL _ hkN hks,aQ,aU,aO,hin];rw[<-Int.natCast_mul,wrap_i64 (by omega) (by omega),J1 _ _ B F enc (by omega) (sF _) hM];have hr:=hr h12;generalize t.Kids.getD 0 aa.zero=kt at*;cases hT:eV (v.Kids.length*(lay kt).1) (lay kt).2 F with
  |none=>
   simp only[aQ,aU,aO];rw[akN kt v (hid kt) 0 4 B F (by decide) hkN hks l8];exact⟨_,_,rfl,fun h=>by simp at h⟩
  |some p=>
   obtain⟨g1,g2,g3⟩:=hst.take (sF kt) hT 0;obtain⟨n,hn⟩:=mW g2;simp only[aQ,aU,aO];have:=akM (rec:=rec) (f:=f) (enc:=enc) kt v n (B,p.2,0) g1 hkN hks l8 (by omega) hr;rw[hn];simp only at this;rw[this];simp only[bL,aA];exact⟨_,_,rfl,fun _=>⟨rfl,rfl⟩⟩
theorem XI{t:aa}(hs:bj t=true)(hN:t.sz<=1048576){n:Int}(hk:t.Kind=13\/t.Kind=14\/t.Kind=17)(h0:0<=n)(h1:n<((bB t).length:Int)):M.lh t n=some (fN t n,true):=by
 have hkl:=aa.fw hN;by_cases h13:t.Kind=13
 ·have hc:bB t=[.mk 1 [] [] [],t.Kids.getD 0 aa.zero]:=by unfold bB;rw[av h13]
  have hn:n=0\/n=1:=by rw[hc]at h1;simp at h1;omega
  have hl:t.Kids.length=1:=((A9 hs).2.1 h13).1;rw[XJ t n h13 hl hn];unfold fN;rw[hc];rcases hn with rfl|rfl
  ·rfl
  ·rfl
 ·have hc:bB t=t.Kids:=by unfold bB;rw[an h13]
  rw[XK t n hkl h13];unfold fN;rw[hc]at h1⊢;rw[av ⟨h0,h1⟩]
theorem Kw(enc:Int)(L:Nat):∀(m:Nat)(t:aa)(v:ae)(a:Nat)(st:ba),v.sz<m->t.sz<=1048576->bj t=true->bY v t=true->Inv L st->a+(lay t).1<=L->
 M.iT m t v (a:Int) enc st.2.2 st.1 st.2.1=jJ enc (cY enc m t v a st)
 |0,t,v,a,st,h,_,_,_,_,_=>absurd h (en _)
 |m+1,t,v,a,st,hm,hN,hs,hf,hst,ha=>by
  have hL:=hst.le;have hid:∀(t:M.aa)(v:M.ae)(a c:Int)(B:List UInt8)(F:List af),c≠0->0<m->M.iT m t v a enc c B F=some (enc,c,B,F):=fun t v a c B F hc hm0=>by
   obtain⟨k,rfl⟩:∃k,m=k+1:=⟨m-1,by omega⟩
   show M.lp (M.iT k) t v a enc c B F=_
   unfold M.lp;have:(c !=0)=true:=by rw[oK];exact hc
   rw[this];rfl
  have ih:∀(t:aa)(v:ae)(a:Nat)(st:ba),v.sz<m->t.sz<=1048576->bj t=true->bY v t=true->Inv L st->a+(lay t).1<=L->
   M.iT m t v (a:Int) enc st.2.2 st.1 st.2.1=jJ enc (cY enc m t v a st)/\Inv L (cY enc m t v a st):=fun t v a st h1 h2 h3 h4 h5 h6=>
   ⟨Kw enc L m t v a st h1 h2 h3 h4 h5 h6,mf enc L m t v a st h3 h4 h5 h6⟩
  have hvk:∀w∈v.Kids,w.sz<m:=fun w hw=>by have:=ae.cX (a:=v) hw;omega
  show M.lp (M.iT m) t v (a:Int) enc st.2.2 st.1 st.2.1=jJ enc (me enc (cY enc m) t v a st)
  unfold M.lp me;by_cases h0:st.2.2=0
  ·rw[an (by simp[h0]),show(st.2.2 !=0)=false by rw[h0];rfl,aT];simp only[qu];by_cases hp:t.Kind=11\/t.Kind=12
   ·rw[av hp];have hb:(t.Kind==11||t.Kind==12)=true:=by rcases hp with h|h<;>rw[h]<;>rfl
    rw[hb,aA];have dE:t.Kind=12->∀w∈v.Kids,∀a st,Inv L st->a+(lay (t.Kids.getD 0 aa.zero)).1<=L->M.iT m (t.Kids.getD 0 aa.zero) w (a:Int) enc st.2.2 st.1 st.2.1=jJ enc (cY enc m (t.Kids.getD 0 aa.zero) w a st)/\Inv L (cY enc m (t.Kids.getD 0 aa.zero) w a st):=fun h12 w hw a st hi hle=>by
     have hk0:=qx hs h12;rw[getD_lt hk0]at hle⊢;have hfw:=(qw hf h12).2 w hw;rw[getD_lt hk0]at hfw;exact ih _ w a st (hvk w hw) (by have:=aa.cX (a:=t) (bn hk0);omega) (fu hs _ (bn _)) hfw hi hle
    obtain⟨x,y,e1,e2⟩:=XH t v st h0 hst hN hs hf hp (fun t w hw a c B F hc=>hid t w a c B F hc (by have:=hvk w hw;omega)) dE;rw[aa.aP,ae.aP,e1];simp only[aQ,aU,aO];rw[show(4:Int)=((4:Nat):Int)from rfl,sM x 4 (by omega),sM y 4 (by omega)];simp only[aQ,aU,aO];have XL:eE (fixF x 4) (fixF y 4)=true:=by unfold eE;rw[bh,iq,iq];omega
    have hpi:Inv L (dN enc (cY enc m) t v st).2.2:=Fh t v st hs hf hp hst fun h12 w hw a st hi hle=>(dE h12 w hw a st hi hle).2
    unfold Fa;by_cases hc:(dN enc (cY enc m) t v st).2.2.2.2=0
    ·rw[an (by simp[hc]),hc,E5 _ _ _ _ _ hpi.2.1 (by rw[cI,iq,iq];omega),XL];obtain⟨g1,g2⟩:=e2 hc;rw[g1,g2];rfl
    ·rw[av hc,J0 _ _ _ _ _ _ hc,XL];rfl
   ·rw[an hp];have hb:(t.Kind==11||t.Kind==12)=false:=by rw[cr (fun e=>hp (.inl e)),cr (fun e=>hp (.inr e))];rfl
    rw[hb,aT];by_cases hp2:t.Kind=15\/t.Kind=16
    ·rw[av hp2];have hb:(t.Kind==15||t.Kind==16)=true:=by rcases hp2 with h|h<;>rw[h]<;>rfl
     rw[hb,aA];have hkl:=aa.fw hN;rw[JX (l:=t.Kids) (rec:=M.ie) (fun x hx=>vd x (by have:=aa.cX (a:=t) hx;omega) (fu hs x hx)) (fun x hx=>sL x (by have:=aa.cX (a:=t) hx;omega) (fu hs x hx)) hkl (aa.ke hN)];simp only[aQ,aU,aO,ae.aP];obtain⟨hl,hall⟩:=yu hf hp2;rw[XF (f:=cY enc m) (L:=L) t.Kids v (bW 0 1 (t.Kids.map lay)).1 a st hst hl (by rw[vc];simp) hkl (fun k hk s hi=>by
      obtain⟨p,g1,g2⟩:=Ff t.Kids k hk;rw[A5 hp2]at ha;simp only at ha;have hfk:=hall k (by omega);rw[getD_lt hk]at hfk;refine⟨p,g1,by omega,?_⟩;rw[getD_lt hk,getD_lt (by omega:k<v.Kids.length)];exact ih _ _ _ s (hvk _ (bn _)) (by have:=aa.cX (a:=t) (bn hk);omega) (fu hs _ (bn _)) hfk hi (by omega))]
     rfl
    ·rw[an hp2];have hb:(t.Kind==15||t.Kind==16)=false:=by rw[cr (fun e=>hp2 (.inl e)),cr (fun e=>hp2 (.inr e))];rfl
     rw[hb,aT];by_cases hp3:t.Kind=13\/t.Kind=14\/t.Kind=17
     ·rw[av hp3];have hb:(t.Kind==13||(t.Kind==14||t.Kind==17))=true:=by rcases hp3 with h|h|h<;>rw[h]<;>rfl
      rw[hb,aA];obtain⟨n0,n1,hl1,hall⟩:=vi hs hf hp3;have hci:=Ks hs hp3 n0 n1;have f1:M.jn v.Num (1:Int)=some (fixF v.Num 1):=sM v.Num 1 (by omega);simp only[aa.aP,ae.aP,XI hs hN hp3 n0 n1,Xl t hN hs hp3,f1,h0,aQ,aU,aO,E5 a (fixF v.Num 1) st.1 st.2.1 enc hst.2.1 (by rw[iq];omega)];unfold vh;cases hk:v.Kids with
      |nil=>rfl
      |cons w r=>
       have hw:w∈v.Kids:=by rw[hk];exact ek ..
       have hi2:Inv L (eX a (fixF v.Num 1) st.1,st.2.1,0):=hst.write _ _ 0;obtain⟨g1,g2⟩:=ih (fN t v.Num) w (a+jr t) _ (hvk w hw) (by have:=kL hs hp3 _ (lI n0 n1);omega) (lF hs hp3 _ (lI n0 n1)) (hall w hw) hi2 (by omega);have hd:decide ((0:Int)<((w::r).length:Int))=true:=aY (by simp);have hin:inB (0:Int) (w::r).length=true:=by unfold inB;rw[aY (by omega),aY (by simp)];rfl
       rw[hd,aA];simp only[aa.aP,ae.aP,aQ,aU,aO,hin,show(w::r).getD (Int.toNat 0) ae.zero=w from rfl];rw[wrap_i64 (n:=(a:Int)+(jr t:Int)) (by omega) (by omega),show((a:Int)+(jr t:Int))=((a+jr t:Nat):Int) by omega];simp only at g1;rw[g1];rfl
     ·rw[an hp3];have hb:(t.Kind==13||(t.Kind==14||t.Kind==17))=false:=by rw[cr (fun e=>hp3 (.inl e)),cr (fun e=>hp3 (.inr (.inl e))),cr (fun e=>hp3 (.inr (.inr e)))];rfl
      rw[hb,aT,aa.aP,vd t hN hs];simp only[aQ,aU,aO];have h64:(lay t).1<=64:=by
       rcases EY hs with k|k|k|k|k|k|k|k|k|k|k
       ·rw[A0 k];decide
       ·rw[EZ k];have:=JS t.Kind;simp only;omega
       all_goals first|(exfalso;omega)|(rw[E0 k];decide)|(rw[E1 k];split<;>decide)
      rw[sM v.Num _ h64,h0];simp only[aQ,aU,aO];rw[E5 _ _ _ _ _ hst.2.1 (by rw[iq];omega)];rfl
  ·have:(st.2.2 !=0)=true:=by rw[oK];exact h0
   rw[av h0,this];rfl
end
end M
namespace M
open Go Go.V
def ja(enc:Int)(st:ba):Option (List UInt8×Int×Int×List af):=some (st.1,enc,st.2.2,st.2.1)
abbrev akO :=M.aa->M.ae->Int->List UInt8->Int->Int->List M.af->Option (List UInt8×Int×Int×List M.af)
theorem Inv.XM{L:Nat}{st:ba}(h:Inv L st):st.2.1.length<=4096:=h.2.len
theorem akP(enc:Int)(he:1<=enc/\enc<=3):M.Ae enc=some (gB enc:Int):=by
 have:enc=1\/enc=2\/enc=3:=by omega
 rcases this with h|h|h<;>subst h<;>rfl
theorem Kx(l:List aa)(hN:∀x∈l,x.sz<=1048576)(hs:∀x∈l,bj x=true)(hl:l.length<=1048576)(hz:aR aa.sz l<=1048576):
 M.mK M.gR l=some ((bW 0 1 (l.map lay)).1,((cQ (bW 0 1 (l.map lay)).2.1 (bW 0 1 (l.map lay)).2.2:Nat):Int),((bW 0 1 (l.map lay)).2.2:Int)):=
 Xa (rec:=M.gR) (fun x hx=>EW x (hN x hx) (hs x hx)) hl hz
theorem akQ(t:aa)(hN:t.sz<=1048576)(hs:bj t=true)(hk:t.Kind=13\/t.Kind=14\/t.Kind=17):M.xf t=some ((jr t:Nat):Int):=by
 unfold M.xf jr;have hkl:=aa.fw hN;rw[aa.aP,ym t hs hk];simp only[aQ,aU,aO];rw[Xb (l:=bB t) (rec:=M.gR) (fun x hx=>EW x (by have:=kL hs hk x hx;omega) (lF hs hk x hx)) (AW t hkl)];simp only[aQ,aU,aO];rw[show(1:Int)=((1:Nat):Int)from rfl,yl 1 _ (E2 _) (by omega)];rfl
section
variable {rec :akO}{f:aa->ae->Nat->ba->ba}{enc:Int}{L:Nat}
theorem XN(hid:∀t v a st,st.2.2≠0->f t v a st=st)(t:aa)(l:List ae)(p:Nat)(st:ba)(hst:Inv L st)(h8:l.length<=8)(hp:st.2.2=0->p+l.length*(lay t).1<=L)
 (hr:∀w∈l,∀a st,st.2.2=0->Inv L st->a+(lay t).1<=L->rec t w (a:Int) st.1 enc st.2.2 st.2.1=ja enc (f t w a st)/\Inv L (f t w a st)):
 M.l5 rec l ((lay t).1:Int) (l.length:Int) (p:Int) ah 0 st.1 enc st.2.2 t st.2.1=
   some ((l.length:Int),(p:Int),(eY f t (lay t).1 l p st).1,enc,(eY f t (lay t).1 l p st).2.2,(eY f t (lay t).1 l p st).2.1):=by
 have stay:∀(r:List ae)(a:Nat)(s:ba),s.2.2≠0->eY f t (lay t).1 r a s=s:=by
  intro r
  induction r with
  |nil=>intro a s _;rfl
  |cons v r ih=>intro a s hs;rw[eY,hid _ _ _ _ hs];exact ih _ _ hs
 have e:=kd (F:=fun g i (s:ba)=>M.l5 rec l ((lay t).1:Int) (l.length:Int) (p:Int) g i s.1 enc s.2.2 t s.2.1) l (by omega)
  (fun r s=>some ((l.length:Int),(p:Int),(eY f t (lay t).1 r (p+(l.length-r.length)*(lay t).1) s).1,enc,(eY f t (lay t).1 r (p+(l.length-r.length)*(lay t).1) s).2.2,(eY f t (lay t).1 r (p+(l.length-r.length)*(lay t).1) s).2.1))
  (fun k s=>Inv L s/\(s.2.2=0->p+l.length*(lay t).1<=L)) ?_ ?_ st ⟨hst,hp⟩
 ·simp only[oR,mX,Nat.add_zero]at e;exact e
 ·rintro g k s hk ⟨hI,hle⟩ ih
  have hL:=hI.le
  show M.l5 rec l ((lay t).1:Int) (l.length:Int) (p:Int) (g+1) (k:Int) s.1 enc s.2.2 t s.2.1=_
  rw[M.l5];by_cases h0:s.2.2=0
  ·have hle:=hle h0;have hmul:(k+1)*(lay t).1<=l.length*(lay t).1:=dt _ hk;rw[Nat.add_one_mul]at hmul;have ew:IntKind.wrap .i64 ((p:Int)+IntKind.wrap .i64 ((k:Int)*((lay t).1:Int)))=((p+k*(lay t).1:Nat):Int):=by
    rw[<-Int.natCast_mul,wrap_i64 (n:=((k*(lay t).1:Nat):Int)) (by omega) (by omega),wrap_i64 (by omega) (by omega)];omega
   obtain⟨h1,h2⟩:=hr l[k] (bn hk) (p+k*(lay t).1) s h0 hI (by omega);have hb:(s.2.2==0)=true:=by rw[h0];rfl
   simp only[cJ,hk,cn,hb,aA,bL,getD_lt hk,cq,aO,bM,aa.aP,ae.aP,aQ,aU,ew,h1,ja];rw[cm hk (by omega:l.length<2^62)];refine Eq.trans (ih _ ⟨h2,fun _=>hle⟩) ?_;have e1:l.length-(l[k]::l.drop (k+1)).length=k:=by rw[bX,List.length_drop];omega
   have e2:l.length-(l.drop (k+1)).length=k+1:=by rw[List.length_drop];omega
   rw[e1,e2,Nat.add_one_mul,<-gX];rfl
  ·rw[cr h0,Bool.and_false,aT,stay _ _ _ h0]
 ·rintro g s ⟨hI,-⟩
  show M.l5 rec l ((lay t).1:Int) (l.length:Int) (p:Int) (g+1) (l.length:Int) s.1 enc s.2.2 t s.2.1=_
  rw[M.l5];simp[eY]
theorem XO(hid:∀t v a st,st.2.2≠0->f t v a st=st):∀(ts:List aa)(vs:List ae)(ps:List Int)(a:Nat)(s:ba),s.2.2≠0->fO f ts vs ps a s=s
 |[],_,_,a,s,_=>by unfold fO;rfl
 |t::ts,[],_,a,s,_=>by unfold fO;rfl
 |t::ts,v::vs,[],a,s,_=>by unfold fO;rfl
 |t::ts,v::vs,p::ps,a,s,h=>by rw[fO,hid _ _ _ _ h];exact XO hid ts vs ps a s h
theorem XP(hid:∀t v a st,st.2.2≠0->f t v a st=st)(ts:List aa)(vs:List ae)(ps:List Int)(a:Nat)(st:ba)(hst:Inv L st)(hl:ts.length=vs.length)(hp:ps.length=ts.length)(h8:ts.length<=1048576)
 (hr:∀k (hk:k<ts.length) (st:ba),st.2.2=0->Inv L st->∃q:Nat,ps.getD k 0=(q:Int)/\a+q<=4096/\rec (ts.getD k aa.zero) (vs.getD k ae.zero) ((a+q:Nat):Int) st.1 enc st.2.2 st.2.1=ja enc (f (ts.getD k aa.zero) (vs.getD k ae.zero) (a+q) st)/\Inv L (f (ts.getD k aa.zero) (vs.getD k ae.zero) (a+q) st)):
 M.lj rec ts vs (a:Int) ps ah 0 st.1 enc st.2.2 st.2.1=ja enc (fO f ts vs ps a st):=by
 have e:=kd (F:=fun g i (s:ba)=>M.lj rec ts vs (a:Int) ps g i s.1 enc s.2.2 s.2.1) ts (by omega)
  (fun r s=>ja enc (fO f r (vs.drop (ts.length-r.length)) (ps.drop (ts.length-r.length)) a s))
  (fun k s=>Inv L s) ?_ ?_ st hst
 ·simp only[oR,ej]at e;exact e
 ·intro g k s hk hI ih
  show M.lj rec ts vs (a:Int) ps (g+1) (k:Int) s.1 enc s.2.2 s.2.1=_
  rw[M.lj];by_cases h0:s.2.2=0
  ·obtain⟨q,hq,hle,h1,h2⟩:=hr k hk s h0 hI;have hkv:k<vs.length:=by omega
   have hkp:k<ps.length:=by omega
   have ew:IntKind.wrap .i64 ((a:Int)+(q:Int))=((a+q:Nat):Int):=by rw[wrap_i64 (by omega) (by omega)];omega
   have hb:(s.2.2==0)=true:=by rw[h0];rfl
   simp only[cJ,hk,cn,hb,aA,bL,cq,hkv,hkp,aO,bM,aa.aP,ae.aP,hq,ew,h1,ja,aQ,aU];rw[cm hk (by omega:ts.length<2^62)];refine Eq.trans (ih _ h2) ?_;have e1:ts.length-(ts[k]::ts.drop (k+1)).length=k:=by rw[bX,List.length_drop];omega
   have e2:ts.length-(ts.drop (k+1)).length=k+1:=by rw[List.length_drop];omega
   rw[e1,e2,dZ hkv,dZ hkp];have hq':ps[k]=(q:Int):=by rw[<-hq,getD_lt hkp]
   rw[getD_lt hk,getD_lt hkv]
   show ja enc _=ja enc (fO f (ts.drop (k+1)) (vs.drop (k+1)) (ps.drop (k+1)) a (f ts[k] vs[k] (a+(ps[k]).toNat) s))
   rw[hq',bL]
  ·rw[cr h0,Bool.and_false,aT,XO hid _ _ _ _ _ h0];rfl
 ·intro g s hI
  show M.lj rec ts vs (a:Int) ps (g+1) (ts.length:Int) s.1 enc s.2.2 s.2.1=_
  rw[M.lj];simp[fO,ja]
theorem akR(s B:List UInt8)(F:List af)(he:1<=enc/\enc<=3)(ht:gA s=true)(hM:i4 B F):
 ∃x y:Int,M.rN s B enc 0 F=some (x,y,(match md enc s with
  |none=>(B,enc,19,F)
  |some bs=>match eV bs.length (gB enc) F with
   |none=>(B,enc,4,F)
   |some p=>(eX p.1 bs B,enc,0,p.2)))/\∀bs p,md enc s=some bs->eV bs.length (gB enc) F=some p->x=p.1/\y=((bs.length/gB enc:Nat):Int):=by
 unfold M.rN;rw[akK enc s ht];cases hE:md enc s with
 |none=>exact⟨0,0,rfl,fun bs p h=>by cases h⟩
 |some bs=>
  have hb:=XD enc _ bs ht hE;simp only[aQ,aU,aO,show((0:Int) !=0)=false from rfl,aT,akP enc he];rw[J2 bs.length (gB enc) B F enc 0 (by omega) (Kv enc) hM];cases hT:eV bs.length (gB enc) F with
  |none=>exact⟨0,0,rfl,fun bs' p h h2=>by simp only[ar]at h;subst h;rw[hT]at h2;cases h2⟩
  |some p=>
   simp only[aQ,aU,aO,show((0:Int) !=0)=false from rfl,sN];have hI:Inv B.length (B,F,(0:Int)):=⟨rfl,hM⟩;obtain⟨g1,g2,g3⟩:=hI.take (Kv enc) hT 0;by_cases hn:bs=[]
   ·subst hn;simp only[lH,aA,Xq];refine⟨p.1,0,rfl,fun bs' p' h h2=>?_⟩;simp only[ar]at h;subst h;rw[hT]at h2;simp only[ar]at h2;subst h2;exact⟨rfl,by simp⟩
   ·have hne:(bs==[])=false:=by rw[kK];exact hn
    have hF:=(show i4 B p.2 from g1.2).len;rw[hne,aT,Xu p.1 bs B p.2 hM.1 (by omega) (by omega),av ⟨g2,g3⟩];simp only[aQ,aU,aO,Fj,aA];refine⟨p.1,_,rfl,fun bs' p' h h2=>?_⟩;simp only[ar]at h;subst h;rw[hT]at h2;simp only[ar]at h2;subst h2;exact⟨rfl,XG _ _ (by omega)⟩
theorem XQ(hid:∀t v a st,st.2.2≠0->f t v a st=st)(t:aa)(v:ae)(st:ba)(he:1<=enc/\enc<=3)(h0:st.2.2=0)(hst:Inv L st)(hN:t.sz<=1048576)(hs:bj t=true)(hf:bY v t=true)(hk:t.Kind=11\/t.Kind=12)
 (hr:t.Kind=12->∀w∈v.Kids,∀a st,st.2.2=0->Inv L st->a+(lay (t.Kids.getD 0 aa.zero)).1<=L->rec (t.Kids.getD 0 aa.zero) w (a:Int) st.1 enc st.2.2 st.2.1=ja enc (f (t.Kids.getD 0 aa.zero) w a st)/\Inv L (f (t.Kids.getD 0 aa.zero) w a st)):
 ∃x y:Int,M.rO rec t v st.1 enc st.2.2 st.2.1=some (x,y,(dN enc f t v st).2.2.1,enc,(dN enc f t v st).2.2.2.2,(dN enc f t v st).2.2.2.1)/\
  ((dN enc f t v st).2.2.2.2=0->x=(dN enc f t v st).1/\y=(dN enc f t v st).2.1):=by
 obtain⟨B,F,c⟩:=st;simp only at h0;subst h0;have hM:i4 B F:=hst.2;unfold M.rO dN;rcases hk with h11|h12
 ·rw[av h11,h11];simp only[lH,aA];have ht:=(Kp hf).2.2;obtain⟨x,y,e1,e2⟩:=akR v.Text B F he ht hM;rw[e1];cases hE:md enc v.Text with
  |none=>exact⟨x,y,rfl,fun h=>by simp at h⟩
  |some bs=>
   cases hT:eV bs.length (gB enc) F with
   |none=>
    refine⟨x,y,?_,fun h=>?_⟩
    ·simp only[hT];rfl
    ·simp only[hT]at h;simp at h
   |some p=>
    refine⟨x,y,?_,fun h=>?_⟩
    ·simp only[hT];rfl
    ·simp only[hT];exact e2 bs p hE hT
 ·have h11:t.Kind≠11:=by omega
  rw[an h11,cr h11,aT];have dE:=qx hs h12;have hks:bj (t.Kids.getD 0 aa.zero)=true:=by rw[getD_lt dE];exact fu hs _ (bn _)
  have hkN:(t.Kids.getD 0 aa.zero).sz<=1048576:=by rw[getD_lt dE];have:=aa.cX (a:=t) (bn dE);omega
  obtain⟨l8,hall⟩:=qw hf h12;have hsz:=AT (t.Kids.getD 0 aa.zero);have hin:inB (0:Int) t.Kids.length=true:=by unfold inB;rw[aY (by omega),aY (by omega)];rfl
  have hmul:v.Kids.length*(lay (t.Kids.getD 0 aa.zero)).1<=8*(16*1048577):=Nat.mul_le_mul l8 (by omega);simp only[aa.aP,ae.aP,Int.toNat_zero,hin,aO];have hr:=hr h12;generalize t.Kids.getD 0 aa.zero=kt at*;have key:∃x:Int,M.uE rec kt v.Kids B enc 0 F=some (x,(v.Kids.length:Int),(match eV (v.Kids.length*(lay kt).1) (lay kt).2 F with
   |none=>(B,enc,4,F)
   |some p=>((eY f kt (lay kt).1 v.Kids p.1.toNat (B,p.2,0)).1,enc,(eY f kt (lay kt).1 v.Kids p.1.toNat (B,p.2,0)).2.2,(eY f kt (lay kt).1 v.Kids p.1.toNat (B,p.2,0)).2.1)))/\∀p,eV (v.Kids.length*(lay kt).1) (lay kt).2 F=some p->x=p.1:=by
   unfold M.uE;rw[aa.aP,EW kt hkN hks];simp only[aQ,aU,aO];rw[<-Int.natCast_mul,wrap_i64 (by omega) (by omega),J2 _ _ B F enc 0 (by omega) (sF _) hM];cases hT:eV (v.Kids.length*(lay kt).1) (lay kt).2 F with
   |none=>
    simp only[aQ,aU,aO];have:=XN (rec:=rec) (f:=f) (enc:=enc) (L:=L) hid kt v.Kids 0 (B,F,4) (hst.code 4) l8 (fun h=>by simp at h) hr;simp only[Int.natCast_zero]at this;have stay:∀(r:List ae)(a:Nat)(s:ba),s.2.2≠0->eY f kt (lay kt).1 r a s=s:=by
     intro r
     induction r with
     |nil=>intro a s _;rfl
     |cons v r ih=>intro a s hs;rw[eY,hid _ _ _ _ hs];exact ih _ _ hs
    rw[stay _ _ _ (by simp)]at this;rw[this];exact⟨0,rfl,fun p h=>by cases h⟩
   |some p=>
    obtain⟨g1,g2,g3⟩:=hst.take (sF kt) hT 0;obtain⟨n,hn⟩:=mW g2;simp only[aQ,aU,aO];have:=XN (rec:=rec) (f:=f) (enc:=enc) (L:=L) hid kt v.Kids n (B,p.2,0) g1 l8 (fun _=>by omega) hr;rw[hn];simp only at this;rw[this];simp only[bL,aA];exact⟨_,rfl,fun p' h=>by simp only[ar]at h;subst h;exact hn.symm⟩
  obtain⟨x,e1,e2⟩:=key;rw[e1];cases hT:eV (v.Kids.length*(lay kt).1) (lay kt).2 F with
  |none=>exact⟨x,_,rfl,fun h=>by simp at h⟩
  |some p=>exact⟨x,_,rfl,fun _=>⟨e2 p hT,rfl⟩⟩
end
theorem Ky(enc:Int)(he:1<=enc/\enc<=3)(L:Nat):∀(m:Nat)(t:aa)(v:ae)(a:Nat)(st:ba),v.sz<m->t.sz<=1048576->bj t=true->bY v t=true->st.2.2=0->Inv L st->a+(lay t).1<=L->
 M.rP m t v (a:Int) st.1 enc st.2.2 st.2.1=ja enc (cY enc m t v a st)
 |0,t,v,a,st,h,_,_,_,_,_,_=>absurd h (en _)
 |m+1,t,v,a,st,hm,hN,hs,hf,h0,hst,ha=>by
  have hL:=hst.le;have hFl:=hst.XM;have ih:∀(t:aa)(v:ae)(a:Nat)(st:ba),v.sz<m->t.sz<=1048576->bj t=true->bY v t=true->st.2.2=0->Inv L st->a+(lay t).1<=L->
   M.rP m t v (a:Int) st.1 enc st.2.2 st.2.1=ja enc (cY enc m t v a st)/\Inv L (cY enc m t v a st):=fun t v a st h1 h2 h3 h4 h5 h6 h7=>
   ⟨Ky enc he L m t v a st h1 h2 h3 h4 h5 h6 h7,mf enc L m t v a st h3 h4 h6 h7⟩
  have hvk:∀w∈v.Kids,w.sz<m:=fun w hw=>by have:=ae.cX (a:=v) hw;omega
  show M.Af (M.rP m) t v (a:Int) st.1 enc st.2.2 st.2.1=ja enc (me enc (cY enc m) t v a st)
  unfold M.Af me;rw[an (by simp[h0])];simp only[qu];by_cases h1:t.Kind=1
  ·have hn:¬(t.Kind=11\/t.Kind=12)/\¬(t.Kind=15\/t.Kind=16)/\¬(t.Kind=13\/t.Kind=14\/t.Kind=17):=by omega
   rw[an hn.1,an hn.2.1,an hn.2.2,h1,A0 h1];simp only[lH,aA,fixF,Xq,ja,h0]
  rw[cr h1,aT];by_cases hp:t.Kind=11\/t.Kind=12
  ·rw[av hp];have hb:(t.Kind==11||t.Kind==12)=true:=by rcases hp with h|h<;>rw[h]<;>rfl
   rw[hb,aA];have dE:t.Kind=12->∀w∈v.Kids,∀a st,st.2.2=0->Inv L st->a+(lay (t.Kids.getD 0 aa.zero)).1<=L->M.rP m (t.Kids.getD 0 aa.zero) w (a:Int) st.1 enc st.2.2 st.2.1=ja enc (cY enc m (t.Kids.getD 0 aa.zero) w a st)/\Inv L (cY enc m (t.Kids.getD 0 aa.zero) w a st):=fun h12 w hw a st hz hi hle=>by
    have hk0:=qx hs h12;rw[getD_lt hk0]at hle⊢;have hfw:=(qw hf h12).2 w hw;rw[getD_lt hk0]at hfw;exact ih _ w a st (hvk w hw) (by have:=aa.cX (a:=t) (bn hk0);omega) (fu hs _ (bn _)) hfw hz hi hle
   obtain⟨x,y,e1,e2⟩:=XQ (fun t v a st h=>Fg enc m t v a st h) t v st he h0 hst hN hs hf hp dE;have hpi:Inv L (dN enc (cY enc m) t v st).2.2:=Fh t v st hs hf hp hst fun h12 w hw a st hi hle=>by
    have hk0:=qx hs h12;rw[getD_lt hk0]at hle⊢;have hfw:=(qw hf h12).2 w hw;rw[getD_lt hk0]at hfw;exact mf enc L m _ w a st (fu hs _ (bn _)) hfw hi hle
   rw[aa.aP,ae.aP,e1];simp only[aQ,aU,aO];unfold Fa;by_cases hc:(dN enc (cY enc m) t v st).2.2.2.2=0
   ·obtain⟨g1,g2⟩:=e2 hc;rw[an (by simp[hc]),hc,g1,g2];simp only[lH,aA];have hlen:(dN enc (cY enc m) t v st).2.2.1.length=L:=hpi.1;have hfl:=hpi.XM;rw[show(4:Int)=((4:Nat):Int)from rfl,E6 _ _ 4 _ _ _ _ hpi.2.1 (by omega) (by omega)];simp only[aQ,aU,aO];rw[wrap_i64 (n:=(a:Int)+((4:Nat):Int)) (by omega) (by omega),E6 _ _ 4 _ _ _ _ (by rw[Xp];exact hpi.2.1) (by omega) (by omega)];simp only[aQ,aU,aO,aA];have h8:(lay t).1=8:=by rw[A4 hp]
    have:=ako (a:Int) (fixF (dN enc (cY enc m) t v st).1 4) (fixF (dN enc (cY enc m) t v st).2.1 4) (dN enc (cY enc m) t v st).2.2.1 (by omega) (by rw[iq,iq,hlen];omega);rw[iq]at this;rw[this];rfl
   ·rw[av hc,cr hc];rfl
  ·rw[an hp];have hb:(t.Kind==11||t.Kind==12)=false:=by rw[cr (fun e=>hp (.inl e)),cr (fun e=>hp (.inr e))];rfl
   rw[hb,aT];by_cases hp2:t.Kind=15\/t.Kind=16
   ·rw[av hp2];have hb:(t.Kind==15||t.Kind==16)=true:=by rcases hp2 with h|h<;>rw[h]<;>rfl
    rw[hb,aA];have hkl:=aa.fw hN;unfold M.pX;rw[Kx t.Kids (fun x hx=>by have:=aa.cX (a:=t) hx;omega) (fu hs) hkl (aa.ke hN)];simp only[aQ,aU,aO];obtain⟨hl,hall⟩:=yu hf hp2;rw[XP (f:=cY enc m) (L:=L) (fun t v a st h=>Fg enc m t v a st h) t.Kids v.Kids (bW 0 1 (t.Kids.map lay)).1 a st hst hl (by rw[vc];simp) hkl (fun k hk s hz hi=>by
     obtain⟨p,g1,g2⟩:=Ff t.Kids k hk;rw[A5 hp2]at ha;simp only at ha;have hfk:=hall k (by omega);rw[getD_lt hk]at hfk;refine⟨p,g1,by omega,?_⟩;rw[getD_lt hk,getD_lt (by omega:k<v.Kids.length)];exact ih _ _ _ s (hvk _ (bn _)) (by have:=aa.cX (a:=t) (bn hk);omega) (fu hs _ (bn _)) hfk hz hi (by omega))]
    rfl
   ·rw[an hp2];have hb:(t.Kind==15||t.Kind==16)=false:=by rw[cr (fun e=>hp2 (.inl e)),cr (fun e=>hp2 (.inr e))];rfl
    rw[hb,aT];by_cases hp3:t.Kind=13\/t.Kind=14\/t.Kind=17
    ·rw[av hp3];have hb:(t.Kind==13||(t.Kind==14||t.Kind==17))=true:=by rcases hp3 with h|h|h<;>rw[h]<;>rfl
     rw[hb,aA];obtain⟨n0,n1,hl1,hall⟩:=vi hs hf hp3;have hci:=Ks hs hp3 n0 n1;have f1:M.mM (a:Int) v.Num (1:Int) st.1 enc st.2.2 st.2.1=some (eX a (fixF v.Num 1) st.1,enc,st.2.2,st.2.1):=E6 a v.Num 1 st.1 st.2.1 enc st.2.2 hst.2.1 (by omega) (by omega);obtain⟨nn,hnn⟩:=mW n0;have hin2:inB v.Num (bB t).length=true:=by unfold inB;rw[aY n0,aY n1];rfl
     simp only[aa.aP,ae.aP,ym t hs hp3,akQ t hN hs hp3,f1,aQ,aU,aO,hin2,bM];unfold vh;cases hk:v.Kids with
     |nil=>simp only[h0];rfl
     |cons w r=>
      have hw:w∈v.Kids:=by rw[hk];exact ek ..
      have hi2:Inv L (eX a (fixF v.Num 1) st.1,st.2.1,0):=hst.write _ _ 0;obtain⟨g1,g2⟩:=ih (fN t v.Num) w (a+jr t) _ (hvk w hw) (by have:=kL hs hp3 _ (lI n0 n1);omega) (lF hs hp3 _ (lI n0 n1)) (hall w hw) rfl hi2 (by omega);have hd:decide ((0:Int)<((w::r).length:Int))=true:=aY (by simp);have hin:inB (0:Int) (w::r).length=true:=by unfold inB;rw[aY (by omega),aY (by simp)];rfl
      rw[hd,aA];have hty:(bB t).getD v.Num.toNat aa.zero=fN t v.Num:=rfl;rw[hty];simp only[aQ,aU,aO,hin,show(w::r).getD (Int.toNat 0) ae.zero=w from rfl,h0];rw[wrap_i64 (n:=(a:Int)+(jr t:Int)) (by omega) (by omega),show((a:Int)+(jr t:Int))=((a+jr t:Nat):Int) by omega];simp only at g1;rw[g1];rfl
    ·rw[an hp3];have hb:(t.Kind==13||(t.Kind==14||t.Kind==17))=false:=by rw[cr (fun e=>hp3 (.inl e)),cr (fun e=>hp3 (.inr (.inl e))),cr (fun e=>hp3 (.inr (.inr e)))];rfl
     rw[hb,aT,aa.aP,EW t hN hs];simp only[aQ,aU,aO];have h64:(lay t).1<=8:=by
      rcases EY hs with k|k|k|k|k|k|k|k|k|k|k
      ·rw[A0 k];decide
      ·rw[EZ k];have:=JS t.Kind;simp only;omega
      all_goals first|(exfalso;omega)|(rw[E0 k];decide)|(rw[E1 k];split<;>decide)
     rw[E6 _ _ _ _ _ _ _ hst.2.1 (by omega) h64];simp only[aQ,aU,aO,aA,h0];rfl
end M
namespace M
open Go Go.V
theorem Ba{t:aa}(h:fP t=true):bj t=true:=by
 unfold fP at h;rw[aZ]at h;exact h.2
def oS(enc:Int):Bool:=decide ((1:Int)<=enc)&&decide (enc<=3)
theorem akS{enc:Int}:oS enc=true↔1<=enc/\enc<=3:=by unfold oS;rw[aZ,bh,bh]
theorem akT(v:ae)(t:aa)(hv:v.sz<=1048576)(ht:t.sz<=1048576)(ho:fP t=true):M.zT v t=some (bY v t):=XR ah v t (eU hv) hv ht (Ba ho)
theorem akU(l:List aa)(hl:l.length<=1048576)(hz:∀x∈l,x.sz<=1048576):M.xm l=some (decide (l.length<=24)&&l.all fP):=by
 have c:∀x∈l,M.xk x=some (!fP x):=fun x hx=>by
  unfold M.xk;rw[aa.aP,akV x (hz x hx)];rfl
 have e:=contains_of (p:=fun x=> !fP x) (F:=M.uF l (l.length:Int)) l (by omega) (fun f k hk=>by
  rw[M.uF];simp only[aa.aP,getD_lt hk,c _ (bn hk),bL,cq,cJ,hk,cn,aA,cD,bM,aO,cm hk (by omega:l.length<2^62),aQ,aU]) (fun f=>by
  rw[M.uF];simp)
 have e2:M.Ag l=_:=e;have e3:M.xl l=some (!l.all fP):=by
  unfold M.xl;rw[e2];simp only[aQ,aU,aO,aA];rw[index_ge,Kz]
 unfold M.xm;rw[e3];have d:decide ((l.length:Int)<=24)=decide (l.length<=24):=by congr 1;exact propext ⟨fun h=>by omega,fun h=>by omega⟩
 rw[d];simp
def sO(m:aB)(enc:Int)(l:List aa):Bool:=((jI m.Bytes m.Free&&oS enc)&&decide (l.length<=6))&&l.all fP
theorem akW(m:aB)(enc:Int)(l:List aa)(hB:m.Bytes.length<=1048576)(hF:m.Free.length<=1048576)(hl:l.length<=1048576)(hz:∀x∈l,x.sz<=1048576):M.xn m enc l=some (sO m enc l):=by
 unfold M.xn sO;rw[akU l hl hz,akr m hB hF];have d:decide ((l.length:Int)<=6)=decide (l.length<=6):=by congr 1;exact propext ⟨fun h=>by omega,fun h=>by omega⟩
 rw[d];simp only[aQ,aU,cD,aO,aA];congr 1;show(((jI m.Bytes m.Free&&oS enc)&&decide (l.length<=6))&&(decide (l.length<=24)&&l.all fP))=_
 by_cases h:l.length<=6
 ·rw[aY (by omega:l.length<=24),bM]
 ·rw[bU h,Bool.and_false,oP,oP]
theorem akX(m:aB)(enc:Int)(hB:m.Bytes.length<=1048576)(hF:m.Free.length<=1048576):M.rJ m enc=some (jI m.Bytes m.Free&&oS enc):=by
 unfold M.rJ;rw[aks m hB hF];rfl
def akY(m:aB)(t:aa)(a:Int):Bool:=(Int.tmod a ((lay t).2:Int)==0)&&decide (0<=a/\a+(lay t).1<=m.Bytes.length)
def akZ(s:ba):List UInt8×Int×List af:=if s.2.2≠0 then([],s.2.2,[])else(s.1,0,s.2.1)
noncomputable def apP(m:aB)(enc:Int)(t:aa)(v:ae)(a:Int):List UInt8×Int×List af:=
 if((jI m.Bytes m.Free&&oS enc)&&(fP t&&bY v t))=true then
  (if akY m t a=true then akZ (cY enc ah t v a.toNat (m.Bytes,m.Free,0))else([],10,[]))
 else([],1,[])
theorem XS(F:List af)(h:F.length<=1048576):M.mN F=some F:=by
 unfold M.mN;rw[aY h];rfl
theorem ak0(m:aB)(hM:i4 m.Bytes m.Free):M.xo m=some (m.Bytes,m.Free):=by
 unfold M.xo;have h1:=hM.len;have h2:=hM.1;rw[XS _ (by omega),aY (by omega)];simp
theorem ak1(B:List UInt8)(F:List af)(hM:i4 B F):M.xw (M.ig.mk B F)=some (B,F):=by
 unfold M.xw;have h1:=hM.len;show(let q0:=M.mN F;_)=_
 rw[XS _ (by omega)];simp
end M
