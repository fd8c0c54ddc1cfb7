/-
  LOWERING into memory, in plain Lean: one function that both sides compute; what it keeps.
-/
import Derived.Test.YtalddlopgnfpaaaGreatDoorXILb
import Derived.Test.YtalddlopgnfpaaaGreatDoorXIU
set_option linter.unusedVariables false
set_option linter.unusedSimpArgs false
namespace M
open Go Go.V
abbrev bz :=List UInt8×List af×Int
def fB(enc:Int):Nat:=if enc=2 then 2 else 1
def iW(t:aa)(n:Int):aa:=(cH t).getD n.toNat aa.zero
def eY(f:aa->ae->Nat->bz->bz)(t:aa)(sz:Nat):List ae->Nat->bz->bz
 |[],_,st=>st
 |v::r,a,st=>eY f t sz r (a+sz) (f t v a st)
def iF(f:aa->ae->Nat->bz->bz):List aa->List ae->List Int->Nat->bz->bz
 |t::ts,v::vs,p::ps,a,st=>iF f ts vs ps a (f t v (a+p.toNat) st)
 |_,_,_,_,st=>st
def dU(enc:Int)(f:aa->ae->Nat->bz->bz)(t:aa)(v:ae)(st:bz):Int×Int×bz:=
 if t.Kind=11 then match kE enc v.Text with
  |none=>(0,0,(st.1,st.2.1,19))
  |some bs=>match eN bs.length (fB enc) st.2.1 with
   |none=>(0,0,(st.1,st.2.1,4))
   |some p=>(p.1,((bs.length/fB enc:Nat):Int),(ee p.1 bs st.1,p.2,0))
 else match eN (v.Kids.length*(lay (t.Kids.getD 0 aa.zero)).1) (lay (t.Kids.getD 0 aa.zero)).2 st.2.1 with
  |none=>(0,(v.Kids.length:Int),(st.1,st.2.1,4))
  |some p=>(p.1,(v.Kids.length:Int),eY f (t.Kids.getD 0 aa.zero) (lay (t.Kids.getD 0 aa.zero)).1 v.Kids p.1.toNat (st.1,p.2,0))
def Bf(f:aa->ae->Nat->bz->bz)(t:aa)(v:ae)(a:Nat)(st:bz):bz:=
 match v.Kids with
 |[]=>(ee a (fixF v.Num 1) st.1,st.2.1,0)
 |w::_=>f (iW t v.Num) w (a+iC t) (ee a (fixF v.Num 1) st.1,st.2.1,0)
def Bg(a:Nat)(p:Int×Int×bz):bz:=if p.2.2.2.2≠0 then p.2.2 else(ee a (fixF p.1 4++fixF p.2.1 4) p.2.2.1,p.2.2.2.1,0)
def oz(enc:Int)(f:aa->ae->Nat->bz->bz)(t:aa)(v:ae)(a:Nat)(st:bz):bz:=
 if st.2.2≠0 then st
 else if t.Kind=11\/t.Kind=12 then Bg a (dU enc f t v st)
 else if t.Kind=15\/t.Kind=16 then iF f t.Kids v.Kids (cb 0 1 (t.Kids.map lay)).1 a st
 else if t.Kind=13\/t.Kind=14\/t.Kind=17 then Bf f t v a st
 else(ee a (fixF v.Num (lay t).1) st.1,st.2.1,0)
def cZ(enc:Int):Nat->aa->ae->Nat->bz->bz
 |0=>fun _ _ _ st=>st
 |n+1=>oz enc (cZ enc n)
def Inv(L:Nat)(st:bz):Prop:=st.1.length=L/\gn st.1 st.2.1
theorem Inv.le{L:Nat}{st:bz}(h:Inv L st):L<=4096:=by rw[<-h.1];exact h.2.1
theorem Inv.write{L:Nat}{st:bz}(h:Inv L st)(a:Int)(bs:List UInt8)(c:Int):Inv L (ee a bs st.1,st.2.1,c):=by
 unfold Inv gn at*;simp only[QN];exact h
theorem Inv.code{L:Nat}{st:bz}(h:Inv L st)(c:Int):Inv L (st.1,st.2.1,c):=h
theorem Inv.take{L:Nat}{st:bz}(h:Inv L st){many al:Nat}(ha:cU al){p:Int×List af}(hp:eN many al st.2.1=some p)(c:Int):Inv L (st.1,p.2,c)/\0<=p.1/\p.1+many<=L:=by
 obtain⟨h1,h2⟩:=h;have:=adb ha (e:=st.1.length) (a:=p.1) (l':=p.2) h2.2 (by omega) hp;exact⟨⟨h1,h2.1,this.1⟩,this.2.1,by rw[<-h1];exact this.2.2⟩
theorem Q2{v:ae}{t:aa}(h:bS v t=true):v.Kind=t.Kind/\fV v.Num t=true/\fA v.Text=true:=by
 rw[Bh,aU]at h;have h1:=h.1;unfold headB at h1;simp only[aU,jI]at h1;exact⟨h1.1.1.1,h1.1.1.2,h1.2⟩
theorem F6{v:ae}{t:aa}(h:bS v t=true):∃ts,kT v.Num v.Kids.length t=some ts/\ts.length=v.Kids.length/\ic v.Kids ts=true:=by
 rw[Bh,aU]at h;cases hk:kT v.Num v.Kids.length t with
 |none=>rw[hk]at h;simp at h
 |some ts=>
  rw[hk]at h;simp only[aU,aZ]at h;exact⟨ts,rfl,h.2⟩
theorem Q3{v:ae}{ts:List aa}(hl:ts.length=v.Kids.length)(h:ic v.Kids ts=true):∀k (hk:k<v.Kids.length),bS v.Kids[k] (ts.getD k aa.zero)=true:=by
 rw[Bi _ _ hl,di]at h;intro k hk;have:=h k (so.2 hk)
 rwa [getD_lt hk]at this
theorem vi{v:ae}{t:aa}(h:bS v t=true)(hk:t.Kind=12):v.Kids.length<=8/\∀w∈v.Kids,bS w (t.Kids.getD 0 aa.zero)=true:=by
 obtain⟨ts,h1,h2,h3⟩:=F6 h;unfold kT at h1;rw[bG hk]at h1;simp only[ak]at h1;subst h1;rw[dc]at h2;refine⟨by omega,?_⟩;rw[F7 _ _ _ (by omega),di]at h3;exact h3
theorem F8{v:ae}{t:aa}(h:bS v t=true)(hk:t.Kind=15\/t.Kind=16):t.Kids.length=v.Kids.length/\∀k (hk:k<v.Kids.length),bS v.Kids[k] (t.Kids.getD k aa.zero)=true:=by
 obtain⟨ts,h1,h2,h3⟩:=F6 h;unfold kT at h1;rw[bH (by omega),bG hk]at h1;simp only[ak]at h1;subst h1;exact⟨h2,Q3 h2 h3⟩
theorem F9{v:ae}{t:aa}(hs:bK t=true)(h:bS v t=true)(hk:t.Kind=13\/t.Kind=14\/t.Kind=17):0<=v.Num/\v.Num<((cH t).length:Int)/\v.Kids.length<=1/\∀w∈v.Kids,bS w (iW t v.Num)=true:=by
 obtain⟨ts,h1,h2,h3⟩:=F6 h;have one:∀(x:aa),(ie x).length<=1:=fun x=>by unfold ie;split<;>simp
 have fin:∀(x:aa),ts=ie x->∀w∈v.Kids,bS w x=true:=fun x hx w hw=>by
  obtain⟨k,hk1,rfl⟩:=m7 hw;have hl:ts.length<=1:=by rw[hx];exact one x
  have h0:k=0:=by omega
  subst h0;have:=Q3 h2 h3 0 hk1;rw[hx]at this h2;unfold ie at this h2;split at this
  ·rename_i hu;rw[bG hu]at h2;simp at h2;omega
  ·exact this
 unfold kT at h1;rw[bH (by omega),bH (by omega)]at h1;by_cases h13:t.Kind=13
 ·have hp:=xE hs h13;rw[bG h13]at h1;have hc:cH t=[.mk 1 [] [] [],t.Kids.getD 0 aa.zero]:=by unfold cH;rw[bG h13]
  unfold iW;rw[hc];split at h1
  ·rename_i h0;simp only[ak]at h1;subst h1;have:v.Kids=[]:=cA (by rw[<-h2];rfl);rw[this,h0];exact⟨by omega,by simp,by simp,fun w hw=>by simp at hw⟩
  ·split at h1
   ·rename_i h0 h1';simp only[ak]at h1;rw[h1'];exact⟨by omega,by simp,by rw[<-h2,<-h1];exact one _,fin _ h1.symm⟩
   ·cases h1
 ·have hk':t.Kind=14\/t.Kind=17:=by omega
  rw[bH h13,bG hk']at h1;have hc:cH t=t.Kids:=by unfold cH;rw[bH h13]
  unfold iW;rw[hc];split at h1
  ·rename_i hn;simp only[ak]at h1;exact⟨hn.1,hn.2,by rw[<-h2,<-h1];exact one _,fin _ h1.symm⟩
  ·cases h1
theorem vj{t:aa}{n:Int}(h0:0<=n)(h1:n<((cH t).length:Int)):iW t n∈cH t:=by
 unfold iW;rw[getD_lt (by omega:n.toNat<(cH t).length)];exact an _
theorem Ge{t:aa}{n:Int}(hs:bK t=true)(hk:t.Kind=13\/t.Kind=14\/t.Kind=17)(h0:0<=n)(h1:n<((cH t).length:Int)):iC t+(lay (iW t n)).1<=(lay t).1:=by
 have hm:=Qw ((cH t).map lay) 0 1 (lay (iW t n)) (lB.2 ⟨_,vj h0 h1,rfl⟩);rw[FQ hs hk];have:=va (a:=cL 1 (db 0 1 ((cH t).map lay)).2+(db 0 1 ((cH t).map lay)).1) (A4 (cH t));unfold iC;simp only;omega
theorem Gf(l:List aa)(k:Nat)(hk:k<l.length):∃p:Nat,(cb 0 1 (l.map lay)).1.getD k 0=(p:Int)/\p+(lay l[k]).1<=cL (cb 0 1 (l.map lay)).2.1 (cb 0 1 (l.map lay)).2.2:=by
 obtain⟨p,h1,h2,h3⟩:=Qu (l.map lay) 0 1 k (by simpa using hk) (qi l);have:=va (a:=(cb 0 1 (l.map lay)).2.1) (xC (l.map lay) 0 1 (qi l) (.inl rfl));rw[List.getElem_map]at h3;exact⟨p,h1,by omega⟩
theorem Q4(enc:Int):∀(m:Nat)(t:aa)(v:ae)(a:Nat)(st:bz),st.2.2≠0->cZ enc m t v a st=st
 |0,t,v,a,st,h=>rfl
 |m+1,t,v,a,st,h=>by show oz enc (cZ enc m) t v a st=st;unfold oz;rw[bG h]
theorem Q5{f:aa->ae->Nat->bz->bz}{t:aa}{sz L:Nat}:∀(l:List ae)(a:Nat)(st:bz),(∀w∈l,∀a st,Inv L st->a+sz<=L->Inv L (f t w a st))->Inv L st->a+l.length*sz<=L->Inv L (eY f t sz l a st)
 |[],a,st,_,h,_=>h
 |v::r,a,st,hf,h,ha=>by
  rw[bY,Nat.add_one_mul]at ha;exact Q5 r (a+sz) _ (fun w hw=>hf w (jF _ hw)) (hf v (jo ..) a st h (by omega)) (by omega)
theorem Q6{f:aa->ae->Nat->bz->bz}{L a:Nat}:∀(ts:List aa)(vs:List ae)(ps:List Int)(st:bz),ts.length=vs.length->ps.length=ts.length->
 (∀k,k<ts.length->∀st,Inv L st->Inv L (f (ts.getD k aa.zero) (vs.getD k ae.zero) (a+(ps.getD k 0).toNat) st))->Inv L st->Inv L (iF f ts vs ps a st)
 |[],_,_,st,_,_,_,h=>h
 |t::ts,[],_,st,hl,_,_,h=>by simp at hl
 |t::ts,v::vs,[],st,_,hp,_,h=>by simp at hp
 |t::ts,v::vs,p::ps,st,hl,hp,hf,h=>by
  refine Q6 ts vs ps _ (by simpa using hl) (by simpa using hp) (fun k hk st hst=>?_) (hf 0 (by simp) st h);exact hf (k+1) (by simpa using hk) st hst
theorem vk{t:aa}(hs:bK t=true)(h12:t.Kind=12):0<t.Kids.length:=by
 rw[m3]at hs;have h1:iV t=true:=by rw[aU]at hs;exact hs.1
 unfold iV ql at h1;rw[bG (.inl h12:t.Kind=12\/t.Kind=13)]at h1;simp only[aU,jI]at h1;omega
theorem Gg{f:aa->ae->Nat->bz->bz}{enc:Int}{L:Nat}(t:aa)(v:ae)(st:bz)(hs:bK t=true)(hf:bS v t=true)(hk:t.Kind=11\/t.Kind=12)(h:Inv L st)
 (hr:t.Kind=12->∀w∈v.Kids,∀a st,Inv L st->a+(lay (t.Kids.getD 0 aa.zero)).1<=L->Inv L (f (t.Kids.getD 0 aa.zero) w a st)):Inv L (dU enc f t v st).2.2:=by
 unfold dU;split
 ·split
  ·exact h.code 19
  ·split
   ·exact h.code 4
   ·rename_i bs hb p hp;have:=h.take (by unfold fB;split<;>simp[cU]) hp 0;exact this.1.write _ _ 0
 ·rename_i h11;have h12:t.Kind=12:=by omega
  split
  ·exact h.code 4
  ·rename_i p hp;obtain⟨g1,g2,g3⟩:=h.take (mY _) hp 0;exact Q5 v.Kids p.1.toNat _ (fun w hw a' st' hi hle=>hr h12 w hw a' st' hi hle) g1 (by omega)
theorem sn(enc:Int)(L:Nat):∀(m:Nat)(t:aa)(v:ae)(a:Nat)(st:bz),bK t=true->bS v t=true->Inv L st->a+(lay t).1<=L->Inv L (cZ enc m t v a st)
 |0,t,v,a,st,_,_,h,_=>h
 |m+1,t,v,a,st,hs,hf,h,ha=>by
  show Inv L (oz enc (cZ enc m) t v a st)
  unfold oz;split
  ·exact h
  ·split
   ·rename_i hc hk;unfold Bg;have key:Inv L (dU enc (cZ enc m) t v st).2.2:=Gg t v st hs hf hk h fun h12 w hw a' st' hi hle=>by
     have ef:=vk hs h12;have hks:bK (t.Kids.getD 0 aa.zero)=true:=by rw[getD_lt ef];exact hZ hs _ (an _)
     exact sn enc L m _ w a' st' hks ((vi hf h12).2 w hw) hi hle
    split
    ·exact key
    ·exact key.write _ _ 0
   ·split
    ·rename_i hc hk hk2;obtain⟨hl,hall⟩:=F8 hf hk2;refine Q6 t.Kids v.Kids _ st hl (by rw[AP];simp) (fun k hk st' hi=>?_) h;obtain⟨p,h1,h2⟩:=Gf t.Kids k hk;rw[h1,bP,getD_lt hk,getD_lt (by omega:k<v.Kids.length)];have hf2:=hall k (by omega);rw[getD_lt hk]at hf2;refine sn enc L m _ _ _ st' (hZ hs _ (an _)) hf2 hi ?_;rw[xM hk2]at ha;simp only at ha;omega
    ·split
     ·rename_i hc hk hk2 hk3;obtain⟨h0,h1,h2,hall⟩:=F9 hs hf hk3;unfold Bf;split
      ·exact h.write _ _ 0
      ·rename_i w r e;have hci:=Ge hs hk3 h0 h1;exact sn enc L m _ w _ _ (qj hs hk3 _ (vj h0 h1)) (hall w (by rw[e];exact jo ..)) (h.write _ _ 0) (by omega)
     ·exact h.write _ _ 0
end M
namespace M
open Go Go.V
def iY(enc:Int)(st:bz):Option (Int×Int×List UInt8×List af):=some (enc,st.2.2,st.1,st.2.1)
abbrev adC :=M.aa->M.ae->Int->Int->Int->List UInt8->List M.af->Option (Int×Int×List UInt8×List M.af)
section
variable {rec :adC}{f:aa->ae->Nat->bz->bz}{enc:Int}{L:Nat}
theorem adD(t:aa)(v:ae)(p:Nat)(st:bz)(hst:Inv L st)(hN:t.sz<=1048576)(hs:bK t=true)(h8:v.Kids.length<=8)(hp:p+v.Kids.length*(lay t).1<=L)
 (hr:∀w∈v.Kids,∀a st,Inv L st->a+(lay t).1<=L->rec t w (a:Int) enc st.2.2 st.1 st.2.1=iY enc (f t w a st)/\Inv L (f t w a st)):
 M.iP rec (p:Int) v.Kids (v.Kids.length:Int) ai 0 enc st.2.2 v t st.1 st.2.1=
   some ((p:Int),enc,(eY f t (lay t).1 v.Kids p st).2.2,v,(eY f t (lay t).1 v.Kids p st).1,(eY f t (lay t).1 v.Kids p st).2.1):=by
 have e:=jl (F:=fun g i (s:bz)=>M.iP rec (p:Int) v.Kids (v.Kids.length:Int) g i enc s.2.2 v t s.1 s.2.1) v.Kids (by omega)
  (fun r s=>some ((p:Int),enc,(eY f t (lay t).1 r (p+(v.Kids.length-r.length)*(lay t).1) s).2.2,v,(eY f t (lay t).1 r (p+(v.Kids.length-r.length)*(lay t).1) s).1,(eY f t (lay t).1 r (p+(v.Kids.length-r.length)*(lay t).1) s).2.1))
  (fun k s=>Inv L s) ?_ ?_ st hst
 ·simp only[m8,lD,Nat.add_zero]at e;exact e
 ·intro g k s hk hI ih;have hL:=hI.le
  show M.iP rec (p:Int) v.Kids (v.Kids.length:Int) (g+1) (k:Int) enc s.2.2 v t s.1 s.2.1=_
  rw[M.iP];have hkl:(v.Kids.drop (k+1)).length=v.Kids.length-(k+1):=List.length_drop;have hmul:(k+1)*(lay t).1<=v.Kids.length*(lay t).1:=bL _ hk;rw[Nat.add_one_mul]at hmul;have ew:IntKind.wrap .i64 ((p:Int)+IntKind.wrap .i64 ((k:Int)*((lay t).1:Int)))=((p+k*(lay t).1:Nat):Int):=by
   rw[<-Int.natCast_mul,wrap_i64 (n:=((k*(lay t).1:Nat):Int)) (by omega) (by omega),wrap_i64 (by omega) (by omega)];omega
  obtain⟨h1,h2⟩:=hr v.Kids[k] (an hk) (p+k*(lay t).1) s hI (by omega);simp only[eF,hk,gQ,cE,bP,getD_lt hk,cD,aQ,c9,aa.aG,ae.aG,vf t hN hs,aC,aR,ew,h1,iY];rw[cq hk (by omega:v.Kids.length<2^62)];refine Eq.trans (ih _ h2) ?_;have e1:v.Kids.length-(v.Kids[k]::v.Kids.drop (k+1)).length=k:=by rw[bY,hkl];omega
  have e2:v.Kids.length-(v.Kids.drop (k+1)).length=k+1:=by rw[hkl];omega
  rw[e1,e2,Nat.add_one_mul,<-jG];rfl
 ·intro g s hI
  show M.iP rec (p:Int) v.Kids (v.Kids.length:Int) (g+1) (v.Kids.length:Int) enc s.2.2 v t s.1 s.2.1=_
  rw[M.iP];simp[eY,ae.aG]
theorem adE(ts:List aa)(v:ae)(ps:List Int)(a:Nat)(st:bz)(hst:Inv L st)(hl:ts.length=v.Kids.length)(hp:ps.length=ts.length)(h8:ts.length<=1048576)
 (hr:∀k (hk:k<ts.length) (st:bz),Inv L st->∃q:Nat,ps.getD k 0=(q:Int)/\a+q<=4096/\rec (ts.getD k aa.zero) (v.Kids.getD k ae.zero) ((a+q:Nat):Int) enc st.2.2 st.1 st.2.1=iY enc (f (ts.getD k aa.zero) (v.Kids.getD k ae.zero) (a+q) st)/\Inv L (f (ts.getD k aa.zero) (v.Kids.getD k ae.zero) (a+q) st)):
 M.mN rec (a:Int) ps ts (ts.length:Int) ai 0 enc st.2.2 v st.1 st.2.1=iY enc (iF f ts v.Kids ps a st):=by
 have e:=jl (F:=fun g i (s:bz)=>M.mN rec (a:Int) ps ts (ts.length:Int) g i enc s.2.2 v s.1 s.2.1) ts (by omega)
  (fun r s=>iY enc (iF f r (v.Kids.drop (ts.length-r.length)) (ps.drop (ts.length-r.length)) a s))
  (fun k s=>Inv L s) ?_ ?_ st hst
 ·simp only[m8,fN]at e;exact e
 ·intro g k s hk hI ih
  show M.mN rec (a:Int) ps ts (ts.length:Int) (g+1) (k:Int) enc s.2.2 v s.1 s.2.1=_
  rw[M.mN];obtain⟨q,hq,hle,h1,h2⟩:=hr k hk s hI;have hkv:k<v.Kids.length:=by omega
  have hkp:k<ps.length:=by omega
  have ew:IntKind.wrap .i64 ((a:Int)+(q:Int))=((a+q:Nat):Int):=by rw[wrap_i64 (by omega) (by omega)];omega
  simp only[eF,hk,gQ,cE,bP,cD,hkv,hkp,aQ,c9,aa.aG,ae.aG,hq,ew,h1,iY,aC,aR];rw[cq hk (by omega:ts.length<2^62)];refine Eq.trans (ih _ h2) ?_;have e1:ts.length-(ts[k]::ts.drop (k+1)).length=k:=by rw[bY,List.length_drop];omega
  have e2:ts.length-(ts.drop (k+1)).length=k+1:=by rw[List.length_drop];omega
  rw[e1,e2,fe hkv,fe hkp];have hq':ps[k]=(q:Int):=by rw[<-hq,getD_lt hkp]
  rw[getD_lt hk,getD_lt hkv]
  show iY enc _=iY enc (iF f (ts.drop (k+1)) (v.Kids.drop (k+1)) (ps.drop (k+1)) a (f ts[k] v.Kids[k] (a+(ps[k]).toNat) s))
  rw[hq',bP]
 ·intro g s hI
  show M.mN rec (a:Int) ps ts (ts.length:Int) (g+1) (ts.length:Int) enc s.2.2 v s.1 s.2.1=_
  rw[M.mN];simp[iF,iY]
theorem adF(t:aa)(v:ae)(hid:∀w∈v.Kids,∀a c B F,c≠0->rec t w a enc c B F=some (enc,c,B,F))(p c:Int)(B:List UInt8)(F:List af)(hc:c≠0)(hN:t.sz<=1048576)(hs:bK t=true)(h8:v.Kids.length<=8):
 M.iP rec p v.Kids (v.Kids.length:Int) ai 0 enc c v t B F=some (p,enc,c,v,B,F):=by
 refine Q7 (F:=fun g i=>M.iP rec p v.Kids (v.Kids.length:Int) g i enc c v t B F) (n:=v.Kids.length) (by omega) (fun g k hk=>?_) (fun g=>?_)
 ·show M.iP rec p v.Kids (v.Kids.length:Int) (g+1) (k:Int) enc c v t B F=_
  rw[M.iP];simp only[eF,hk,gQ,cE,bP,getD_lt hk,cD,aQ,c9,aa.aG,ae.aG,vf t hN hs,aC,aR,hid _ (an hk) _ c B F hc];rw[cq hk (by omega:v.Kids.length<2^62)]
 ·show M.iP rec p v.Kids (v.Kids.length:Int) (g+1) (v.Kids.length:Int) enc c v t B F=_
  rw[M.iP];simp[ae.aG]
theorem xQ(enc:Int):M.rP enc=some (fB enc:Int):=by
 unfold M.rP fB;by_cases h:enc=2
 ·rw[bG h,h];rfl
 ·rw[bH h,de h];rfl
theorem Gh(enc:Int):cU (fB enc):=by unfold fB;split<;>simp[cU]
theorem Bj(enc:Int):((fB enc:Int) !=0)=true:=by unfold fB;split<;>rfl
theorem Q8(n:Nat)(enc:Int)(hn:n<=1048576):IntKind.wrap .i64 (Int.tdiv (n:Int) (fB enc:Int))=((n/fB enc:Nat):Int):=by
 rw[<-Int.ofNat_tdiv];have:n/fB enc<=n:=Nat.div_le_self _ _;generalize n/fB enc=q at*;rw[wrap_i64 (by omega) (by omega)]
theorem adG(t:aa)(v:ae)(st:bz)(h0:st.2.2=0)(hst:Inv L st)(hN:t.sz<=1048576)(hs:bK t=true)(hf:bS v t=true)(hk:t.Kind=11\/t.Kind=12)
 (hid:∀t,∀w∈v.Kids,∀a c B F,c≠0->rec t w a enc c B F=some (enc,c,B,F))
 (hr:t.Kind=12->∀w∈v.Kids,∀a st,Inv L st->a+(lay (t.Kids.getD 0 aa.zero)).1<=L->rec (t.Kids.getD 0 aa.zero) w (a:Int) enc st.2.2 st.1 st.2.1=iY enc (f (t.Kids.getD 0 aa.zero) w a st)/\Inv L (f (t.Kids.getD 0 aa.zero) w a st)):
 ∃x y:Int,M.uS rec t v enc st.2.2 st.1 st.2.1=some (x,y,enc,(dU enc f t v st).2.2.2.2,(dU enc f t v st).2.2.1,(dU enc f t v st).2.2.2.1)/\
  ((dU enc f t v st).2.2.2.2=0->x=(dU enc f t v st).1/\y=(dU enc f t v st).2.1):=by
 obtain⟨B,F,c⟩:=st;simp only at h0;subst h0;have hM:gn B F:=hst.2;unfold M.uS dU;simp only[show((0:Int) !=0)=false from rfl,aW];rcases hk with h11|h12
 ·rw[bG h11,h11];simp only[kD,cE];have ht:=(Q2 hf).2.2;rw[adz enc v.Text ht];cases hE:kE enc v.Text with
  |none=>
   simp only[aC,aR,aQ,xQ];rw[adn _ _ _ _ _ _ (by decide)];simp only[aC,aR,aQ];rw[FU _ _ _ _ _ _ (by decide)];simp only[aC,aR,aQ,xQ,Bj,cE];exact⟨_,_,rfl,fun h=>by simp at h⟩
  |some bs=>
   have hb:=Q1 enc _ bs ht hE;simp only[aC,aR,aQ,xQ];rw[QU bs.length (fB enc) B F enc (by omega) (Gh enc) hM];cases hT:eN bs.length (fB enc) F with
   |none=>
    simp only[aC,aR,aQ];rw[FU _ _ _ _ _ _ (by decide)];simp only[aC,aR,aQ,xQ,Bj,cE];exact⟨_,_,rfl,fun h=>by simp at h⟩
   |some p=>
    simp only[aC,aR,aQ];rw[A9 _ _ _ _ _ hM.1 (by omega)];simp only[aC,aR,aQ,xQ,Bj,cE];exact⟨_,_,rfl,fun _=>⟨rfl,Q8 _ _ (by omega)⟩⟩
 ·have h11:t.Kind≠11:=by omega
  rw[bH h11,de h11,aW];have ef:=vk hs h12;have hks:bK (t.Kids.getD 0 aa.zero)=true:=by rw[getD_lt ef];exact hZ hs _ (an _)
  have hkN:(t.Kids.getD 0 aa.zero).sz<=1048576:=by rw[getD_lt ef];have:=aa.dw (a:=t) (an ef);omega
  obtain⟨l8,hall⟩:=vi hf h12;have hsz:=sg (t.Kids.getD 0 aa.zero);have hin:inB (0:Int) t.Kids.length=true:=by unfold inB;rw[bD (by omega),bD (by omega)];rfl
  have hmul:v.Kids.length*(lay (t.Kids.getD 0 aa.zero)).1<=8*(16*1048577):=Nat.mul_le_mul l8 (by omega);simp only[aa.aG,ae.aG,Int.toNat_zero,vf _ hkN hks,ve _ hkN hks,aC,aR,aQ,hin];rw[<-Int.natCast_mul,wrap_i64 (by omega) (by omega),QU _ _ B F enc (by omega) (mY _) hM];have hr:=hr h12;generalize t.Kids.getD 0 aa.zero=kt at*;cases hT:eN (v.Kids.length*(lay kt).1) (lay kt).2 F with
  |none=>
   simp only[aC,aR,aQ];rw[adF kt v (hid kt) 0 4 B F (by decide) hkN hks l8];exact⟨_,_,rfl,fun h=>by simp at h⟩
  |some p=>
   obtain⟨g1,g2,g3⟩:=hst.take (mY kt) hT 0;obtain⟨n,hn⟩:=mU g2;simp only[aC,aR,aQ];have:=adD (rec:=rec) (f:=f) (enc:=enc) kt v n (B,p.2,0) g1 hkN hks l8 (by omega) hr;rw[hn];simp only at this;rw[this];simp only[bP,cE];exact⟨_,_,rfl,fun _=>⟨rfl,rfl⟩⟩
theorem adH{t:aa}(hs:bK t=true)(hN:t.sz<=1048576){n:Int}(hk:t.Kind=13\/t.Kind=14\/t.Kind=17)(h0:0<=n)(h1:n<((cH t).length:Int)):M.k9 t n=some (iW t n,true):=by
 have hkl:=aa.fg hN;by_cases h13:t.Kind=13
 ·have hc:cH t=[.mk 1 [] [] [],t.Kids.getD 0 aa.zero]:=by unfold cH;rw[bG h13]
  have hn:n=0\/n=1:=by rw[hc]at h1;simp at h1;omega
  have hl:t.Kids.length=1:=((xR hs).2.1 h13).1;rw[Q9 t n h13 hl hn];unfold iW;rw[hc];rcases hn with rfl|rfl
  ·rfl
  ·rfl
 ·have hc:cH t=t.Kids:=by unfold cH;rw[bH h13]
  rw[Rb t n hkl h13];unfold iW;rw[hc]at h1⊢;rw[bG ⟨h0,h1⟩]
theorem Re(enc:Int)(L:Nat):∀(m:Nat)(t:aa)(v:ae)(a:Nat)(st:bz),v.sz<m->t.sz<=1048576->bK t=true->bS v t=true->Inv L st->a+(lay t).1<=L->
 M.mO m t v (a:Int) enc st.2.2 st.1 st.2.1=iY enc (cZ enc m t v a st)
 |0,t,v,a,st,h,_,_,_,_,_=>absurd h (jD _)
 |m+1,t,v,a,st,hm,hN,hs,hf,hst,ha=>by
  have hL:=hst.le;have hid:∀(t:M.aa)(v:M.ae)(a c:Int)(B:List UInt8)(F:List af),c≠0->0<m->M.mO m t v a enc c B F=some (enc,c,B,F):=fun t v a c B F hc hm0=>by
   obtain⟨k,rfl⟩:∃k,m=k+1:=⟨m-1,by omega⟩
   show M.rQ (M.mO k) t v a enc c B F=_
   unfold M.rQ;have:(c !=0)=true:=by rw[sE];exact hc
   rw[this];rfl
  have ih:∀(t:aa)(v:ae)(a:Nat)(st:bz),v.sz<m->t.sz<=1048576->bK t=true->bS v t=true->Inv L st->a+(lay t).1<=L->
   M.mO m t v (a:Int) enc st.2.2 st.1 st.2.1=iY enc (cZ enc m t v a st)/\Inv L (cZ enc m t v a st):=fun t v a st h1 h2 h3 h4 h5 h6=>
   ⟨Re enc L m t v a st h1 h2 h3 h4 h5 h6,sn enc L m t v a st h3 h4 h5 h6⟩
  have hvk:∀w∈v.Kids,w.sz<m:=fun w hw=>by have:=ae.dw (a:=v) hw;omega
  show M.rQ (M.mO m) t v (a:Int) enc st.2.2 st.1 st.2.1=iY enc (oz enc (cZ enc m) t v a st)
  unfold M.rQ oz;by_cases h0:st.2.2=0
  ·rw[bH (by simp[h0]),show(st.2.2 !=0)=false by rw[h0];rfl,aW];simp only[vb];by_cases hp:t.Kind=11\/t.Kind=12
   ·rw[bG hp];have hb:(t.Kind==11||t.Kind==12)=true:=by rcases hp with h|h<;>rw[h]<;>rfl
    rw[hb,cE];have ef:t.Kind=12->∀w∈v.Kids,∀a st,Inv L st->a+(lay (t.Kids.getD 0 aa.zero)).1<=L->M.mO m (t.Kids.getD 0 aa.zero) w (a:Int) enc st.2.2 st.1 st.2.1=iY enc (cZ enc m (t.Kids.getD 0 aa.zero) w a st)/\Inv L (cZ enc m (t.Kids.getD 0 aa.zero) w a st):=fun h12 w hw a st hi hle=>by
     have hk0:=vk hs h12;rw[getD_lt hk0]at hle⊢;have hfw:=(vi hf h12).2 w hw;rw[getD_lt hk0]at hfw;exact ih _ w a st (hvk w hw) (by have:=aa.dw (a:=t) (an hk0);omega) (hZ hs _ (an _)) hfw hi hle
    obtain⟨x,y,e1,e2⟩:=adG t v st h0 hst hN hs hf hp (fun t w hw a c B F hc=>hid t w a c B F hc (by have:=hvk w hw;omega)) ef;rw[aa.aG,ae.aG,e1];simp only[aC,aR,aQ];rw[show(4:Int)=((4:Nat):Int)from rfl,qm x 4 (by omega),qm y 4 (by omega)];simp only[aC,aR,aQ];have Rf:dS (fixF x 4) (fixF y 4)=true:=by unfold dS;rw[aZ,gm,gm];omega
    have hpi:Inv L (dU enc (cZ enc m) t v st).2.2:=Gg t v st hs hf hp hst fun h12 w hw a st hi hle=>(ef h12 w hw a st hi hle).2
    unfold Bg;by_cases hc:(dU enc (cZ enc m) t v st).2.2.2.2=0
    ·rw[bH (by simp[hc]),hc,A9 _ _ _ _ _ hpi.2.1 (by rw[dj,gm,gm];omega),Rf];obtain⟨g1,g2⟩:=e2 hc;rw[g1,g2];rfl
    ·rw[bG hc,FU _ _ _ _ _ _ hc,Rf];rfl
   ·rw[bH hp];have hb:(t.Kind==11||t.Kind==12)=false:=by rw[de (fun e=>hp (.inl e)),de (fun e=>hp (.inr e))];rfl
    rw[hb,aW];by_cases hp2:t.Kind=15\/t.Kind=16
    ·rw[bG hp2];have hb:(t.Kind==15||t.Kind==16)=true:=by rcases hp2 with h|h<;>rw[h]<;>rfl
     rw[hb,cE];have hkl:=aa.fg hN;rw[QK (l:=t.Kids) (rec:=M.jY) (fun x hx=>vf x (by have:=aa.dw (a:=t) hx;omega) (hZ hs x hx)) (fun x hx=>ve x (by have:=aa.dw (a:=t) hx;omega) (hZ hs x hx)) hkl (aa.mZ hN)];simp only[aC,aR,aQ,ae.aG];obtain⟨hl,hall⟩:=F8 hf hp2;rw[adE (f:=cZ enc m) (L:=L) t.Kids v (cb 0 1 (t.Kids.map lay)).1 a st hst hl (by rw[AP];simp) hkl (fun k hk s hi=>by
      obtain⟨p,g1,g2⟩:=Gf t.Kids k hk;rw[xM hp2]at ha;simp only at ha;have hfk:=hall k (by omega);rw[getD_lt hk]at hfk;refine⟨p,g1,by omega,?_⟩;rw[getD_lt hk,getD_lt (by omega:k<v.Kids.length)];exact ih _ _ _ s (hvk _ (an _)) (by have:=aa.dw (a:=t) (an hk);omega) (hZ hs _ (an _)) hfk hi (by omega))]
     rfl
    ·rw[bH hp2];have hb:(t.Kind==15||t.Kind==16)=false:=by rw[de (fun e=>hp2 (.inl e)),de (fun e=>hp2 (.inr e))];rfl
     rw[hb,aW];by_cases hp3:t.Kind=13\/t.Kind=14\/t.Kind=17
     ·rw[bG hp3];have hb:(t.Kind==13||(t.Kind==14||t.Kind==17))=true:=by rcases hp3 with h|h|h<;>rw[h]<;>rfl
      rw[hb,cE];obtain⟨n0,n1,hl1,hall⟩:=F9 hs hf hp3;have hci:=Ge hs hp3 n0 n1;have f1:M.iw v.Num (1:Int)=some (fixF v.Num 1):=qm v.Num 1 (by omega);simp only[aa.aG,ae.aG,adH hs hN hp3 n0 n1,QJ t hN hs hp3,f1,h0,aC,aR,aQ,A9 a (fixF v.Num 1) st.1 st.2.1 enc hst.2.1 (by rw[gm];omega)];unfold Bf;cases hk:v.Kids with
      |nil=>rfl
      |cons w r=>
       have hw:w∈v.Kids:=by rw[hk];exact jo ..
       have hi2:Inv L (ee a (fixF v.Num 1) st.1,st.2.1,0):=hst.write _ _ 0;obtain⟨g1,g2⟩:=ih (iW t v.Num) w (a+iC t) _ (hvk w hw) (by have:=ox hs hp3 _ (vj n0 n1);omega) (qj hs hp3 _ (vj n0 n1)) (hall w hw) hi2 (by omega);have hd:decide ((0:Int)<((w::r).length:Int))=true:=bD (by simp);have hin:inB (0:Int) (w::r).length=true:=by unfold inB;rw[bD (by omega),bD (by simp)];rfl
       rw[hd,cE];simp only[aa.aG,ae.aG,aC,aR,aQ,hin,show(w::r).getD (Int.toNat 0) ae.zero=w from rfl];rw[wrap_i64 (n:=(a:Int)+(iC t:Int)) (by omega) (by omega),show((a:Int)+(iC t:Int))=((a+iC t:Nat):Int) by omega];simp only at g1;rw[g1];rfl
     ·rw[bH hp3];have hb:(t.Kind==13||(t.Kind==14||t.Kind==17))=false:=by rw[de (fun e=>hp3 (.inl e)),de (fun e=>hp3 (.inr (.inl e))),de (fun e=>hp3 (.inr (.inr e)))];rfl
      rw[hb,aW,aa.aG,vf t hN hs];simp only[aC,aR,aQ];have h64:(lay t).1<=64:=by
       rcases AW hs with k|k|k|k|k|k|k|k|k|k|k
       ·rw[xJ k];decide
       ·rw[AY k];have:=FK t.Kind;simp only;omega
       all_goals first|(exfalso;omega)|(rw[AZ k];decide)|(rw[A0 k];split<;>decide)
      rw[qm v.Num _ h64,h0];simp only[aC,aR,aQ];rw[A9 _ _ _ _ _ hst.2.1 (by rw[gm];omega)];rfl
  ·have:(st.2.2 !=0)=true:=by rw[sE];exact h0
   rw[bG h0,this];rfl
end
end M
namespace M
open Go Go.V
def iG(enc:Int)(st:bz):Option (List UInt8×Int×Int×List af):=some (st.1,enc,st.2.2,st.2.1)
abbrev adI :=M.aa->M.ae->Int->List UInt8->Int->Int->List M.af->Option (List UInt8×Int×Int×List M.af)
theorem Inv.Rh{L:Nat}{st:bz}(h:Inv L st):st.2.1.length<=4096:=h.2.len
theorem adJ(enc:Int)(he:1<=enc/\enc<=3):M.xc enc=some (fB enc:Int):=by
 have:enc=1\/enc=2\/enc=3:=by omega
 rcases this with h|h|h<;>subst h<;>rfl
theorem adK(l:List aa)(hN:∀x∈l,x.sz<=1048576)(hs:∀x∈l,bK x=true)(hl:l.length<=1048576)(hz:bc aa.sz l<=1048576):
 M.nS M.iv l=some ((cb 0 1 (l.map lay)).1,((cL (cb 0 1 (l.map lay)).2.1 (cb 0 1 (l.map lay)).2.2:Nat):Int),((cb 0 1 (l.map lay)).2.2:Int)):=
 Qz (rec:=M.iv) (fun x hx=>xG x (hN x hx) (hs x hx)) hl hz
theorem adL(t:aa)(hN:t.sz<=1048576)(hs:bK t=true)(hk:t.Kind=13\/t.Kind=14\/t.Kind=17):M.uD t=some ((iC t:Nat):Int):=by
 unfold M.uD iC;have hkl:=aa.fg hN;rw[aa.aG,AU t hs hk];simp only[aC,aR,aQ];rw[QA (l:=cH t) (rec:=M.iv) (fun x hx=>xG x (by have:=ox hs hk x hx;omega) (qj hs hk x hx)) (xF t hkl)];simp only[aC,aR,aQ];rw[show(1:Int)=((1:Nat):Int)from rfl,vc 1 _ (A4 _) (by omega)];rfl
section
variable {rec :adI}{f:aa->ae->Nat->bz->bz}{enc:Int}{L:Nat}
theorem Ri(hid:∀t v a st,st.2.2≠0->f t v a st=st)(t:aa)(l:List ae)(p:Nat)(st:bz)(hst:Inv L st)(h8:l.length<=8)(hp:st.2.2=0->p+l.length*(lay t).1<=L)
 (hr:∀w∈l,∀a st,st.2.2=0->Inv L st->a+(lay t).1<=L->rec t w (a:Int) st.1 enc st.2.2 st.2.1=iG enc (f t w a st)/\Inv L (f t w a st)):
 M.mB rec l ((lay t).1:Int) (l.length:Int) (p:Int) ai 0 st.1 enc st.2.2 t st.2.1=
   some ((l.length:Int),(p:Int),(eY f t (lay t).1 l p st).1,enc,(eY f t (lay t).1 l p st).2.2,(eY f t (lay t).1 l p st).2.1):=by
 have stay:∀(r:List ae)(a:Nat)(s:bz),s.2.2≠0->eY f t (lay t).1 r a s=s:=by
  intro r
  induction r with
  |nil=>intro a s _;rfl
  |cons v r ih=>intro a s hs;rw[eY,hid _ _ _ _ hs];exact ih _ _ hs
 have e:=jl (F:=fun g i (s:bz)=>M.mB rec l ((lay t).1:Int) (l.length:Int) (p:Int) g i s.1 enc s.2.2 t s.2.1) l (by omega)
  (fun r s=>some ((l.length:Int),(p:Int),(eY f t (lay t).1 r (p+(l.length-r.length)*(lay t).1) s).1,enc,(eY f t (lay t).1 r (p+(l.length-r.length)*(lay t).1) s).2.2,(eY f t (lay t).1 r (p+(l.length-r.length)*(lay t).1) s).2.1))
  (fun k s=>Inv L s/\(s.2.2=0->p+l.length*(lay t).1<=L)) ?_ ?_ st ⟨hst,hp⟩
 ·simp only[m8,lD,Nat.add_zero]at e;exact e
 ·rintro g k s hk ⟨hI,hle⟩ ih
  have hL:=hI.le
  show M.mB rec l ((lay t).1:Int) (l.length:Int) (p:Int) (g+1) (k:Int) s.1 enc s.2.2 t s.2.1=_
  rw[M.mB];by_cases h0:s.2.2=0
  ·have hle:=hle h0;have hmul:(k+1)*(lay t).1<=l.length*(lay t).1:=bL _ hk;rw[Nat.add_one_mul]at hmul;have ew:IntKind.wrap .i64 ((p:Int)+IntKind.wrap .i64 ((k:Int)*((lay t).1:Int)))=((p+k*(lay t).1:Nat):Int):=by
    rw[<-Int.natCast_mul,wrap_i64 (n:=((k*(lay t).1:Nat):Int)) (by omega) (by omega),wrap_i64 (by omega) (by omega)];omega
   obtain⟨h1,h2⟩:=hr l[k] (an hk) (p+k*(lay t).1) s h0 hI (by omega);have hb:(s.2.2==0)=true:=by rw[h0];rfl
   simp only[eF,hk,gQ,hb,cE,bP,getD_lt hk,cD,aQ,c9,aa.aG,ae.aG,aC,aR,ew,h1,iG];rw[cq hk (by omega:l.length<2^62)];refine Eq.trans (ih _ ⟨h2,fun _=>hle⟩) ?_;have e1:l.length-(l[k]::l.drop (k+1)).length=k:=by rw[bY,List.length_drop];omega
   have e2:l.length-(l.drop (k+1)).length=k+1:=by rw[List.length_drop];omega
   rw[e1,e2,Nat.add_one_mul,<-jG];rfl
  ·rw[de h0,Bool.and_false,aW,stay _ _ _ h0]
 ·rintro g s ⟨hI,-⟩
  show M.mB rec l ((lay t).1:Int) (l.length:Int) (p:Int) (g+1) (l.length:Int) s.1 enc s.2.2 t s.2.1=_
  rw[M.mB];simp[eY]
theorem Rj(hid:∀t v a st,st.2.2≠0->f t v a st=st):∀(ts:List aa)(vs:List ae)(ps:List Int)(a:Nat)(s:bz),s.2.2≠0->iF f ts vs ps a s=s
 |[],_,_,a,s,_=>by unfold iF;rfl
 |t::ts,[],_,a,s,_=>by unfold iF;rfl
 |t::ts,v::vs,[],a,s,_=>by unfold iF;rfl
 |t::ts,v::vs,p::ps,a,s,h=>by rw[iF,hid _ _ _ _ h];exact Rj hid ts vs ps a s h
theorem adM(hid:∀t v a st,st.2.2≠0->f t v a st=st)(ts:List aa)(vs:List ae)(ps:List Int)(a:Nat)(st:bz)(hst:Inv L st)(hl:ts.length=vs.length)(hp:ps.length=ts.length)(h8:ts.length<=1048576)
 (hr:∀k (hk:k<ts.length) (st:bz),st.2.2=0->Inv L st->∃q:Nat,ps.getD k 0=(q:Int)/\a+q<=4096/\rec (ts.getD k aa.zero) (vs.getD k ae.zero) ((a+q:Nat):Int) st.1 enc st.2.2 st.2.1=iG enc (f (ts.getD k aa.zero) (vs.getD k ae.zero) (a+q) st)/\Inv L (f (ts.getD k aa.zero) (vs.getD k ae.zero) (a+q) st)):
 M.mC rec ts vs (a:Int) ps ai 0 st.1 enc st.2.2 st.2.1=iG enc (iF f ts vs ps a st):=by
 have e:=jl (F:=fun g i (s:bz)=>M.mC rec ts vs (a:Int) ps g i s.1 enc s.2.2 s.2.1) ts (by omega)
  (fun r s=>iG enc (iF f r (vs.drop (ts.length-r.length)) (ps.drop (ts.length-r.length)) a s))
  (fun k s=>Inv L s) ?_ ?_ st hst
 ·simp only[m8,fN]at e;exact e
 ·intro g k s hk hI ih
  show M.mC rec ts vs (a:Int) ps (g+1) (k:Int) s.1 enc s.2.2 s.2.1=_
  rw[M.mC];by_cases h0:s.2.2=0
  ·obtain⟨q,hq,hle,h1,h2⟩:=hr k hk s h0 hI;have hkv:k<vs.length:=by omega
   have hkp:k<ps.length:=by omega
   have ew:IntKind.wrap .i64 ((a:Int)+(q:Int))=((a+q:Nat):Int):=by rw[wrap_i64 (by omega) (by omega)];omega
   have hb:(s.2.2==0)=true:=by rw[h0];rfl
   simp only[eF,hk,gQ,hb,cE,bP,cD,hkv,hkp,aQ,c9,aa.aG,ae.aG,hq,ew,h1,iG,aC,aR];rw[cq hk (by omega:ts.length<2^62)];refine Eq.trans (ih _ h2) ?_;have e1:ts.length-(ts[k]::ts.drop (k+1)).length=k:=by rw[bY,List.length_drop];omega
   have e2:ts.length-(ts.drop (k+1)).length=k+1:=by rw[List.length_drop];omega
   rw[e1,e2,fe hkv,fe hkp];have hq':ps[k]=(q:Int):=by rw[<-hq,getD_lt hkp]
   rw[getD_lt hk,getD_lt hkv]
   show iG enc _=iG enc (iF f (ts.drop (k+1)) (vs.drop (k+1)) (ps.drop (k+1)) a (f ts[k] vs[k] (a+(ps[k]).toNat) s))
   rw[hq',bP]
  ·rw[de h0,Bool.and_false,aW,Rj hid _ _ _ _ _ h0];rfl
 ·intro g s hI
  show M.mC rec ts vs (a:Int) ps (g+1) (ts.length:Int) s.1 enc s.2.2 s.2.1=_
  rw[M.mC];simp[iF,iG]
theorem adN(s B:List UInt8)(F:List af)(he:1<=enc/\enc<=3)(ht:fA s=true)(hM:gn B F):
 ∃x y:Int,M.uA s B enc 0 F=some (x,y,(match kE enc s with
  |none=>(B,enc,19,F)
  |some bs=>match eN bs.length (fB enc) F with
   |none=>(B,enc,4,F)
   |some p=>(ee p.1 bs B,enc,0,p.2)))/\∀bs p,kE enc s=some bs->eN bs.length (fB enc) F=some p->x=p.1/\y=((bs.length/fB enc:Nat):Int):=by
 unfold M.uA;rw[adB enc s ht];cases hE:kE enc s with
 |none=>exact⟨0,0,rfl,fun bs p h=>by cases h⟩
 |some bs=>
  have hb:=Q1 enc _ bs ht hE;simp only[aC,aR,aQ,show((0:Int) !=0)=false from rfl,aW,adJ enc he];rw[QW bs.length (fB enc) B F enc 0 (by omega) (Gh enc) hM];cases hT:eN bs.length (fB enc) F with
  |none=>exact⟨0,0,rfl,fun bs' p h h2=>by simp only[ak]at h;subst h;rw[hT]at h2;cases h2⟩
  |some p=>
   simp only[aC,aR,aQ,show((0:Int) !=0)=false from rfl,x8];have hI:Inv B.length (B,F,(0:Int)):=⟨rfl,hM⟩;obtain⟨g1,g2,g3⟩:=hI.take (Gh enc) hT 0;by_cases hn:bs=[]
   ·subst hn;simp only[kD,cE,QO];refine⟨p.1,0,rfl,fun bs' p' h h2=>?_⟩;simp only[ak]at h;subst h;rw[hT]at h2;simp only[ak]at h2;subst h2;exact⟨rfl,by simp⟩
   ·have hne:(bs==[])=false:=by rw[jj];exact hn
    have hF:=(show gn B p.2 from g1.2).len;rw[hne,aW,QQ p.1 bs B p.2 hM.1 (by omega) (by omega),bG ⟨g2,g3⟩];simp only[aC,aR,aQ,Bj,cE];refine⟨p.1,_,rfl,fun bs' p' h h2=>?_⟩;simp only[ak]at h;subst h;rw[hT]at h2;simp only[ak]at h2;subst h2;exact⟨rfl,Q8 _ _ (by omega)⟩
theorem adO(hid:∀t v a st,st.2.2≠0->f t v a st=st)(t:aa)(v:ae)(st:bz)(he:1<=enc/\enc<=3)(h0:st.2.2=0)(hst:Inv L st)(hN:t.sz<=1048576)(hs:bK t=true)(hf:bS v t=true)(hk:t.Kind=11\/t.Kind=12)
 (hr:t.Kind=12->∀w∈v.Kids,∀a st,st.2.2=0->Inv L st->a+(lay (t.Kids.getD 0 aa.zero)).1<=L->rec (t.Kids.getD 0 aa.zero) w (a:Int) st.1 enc st.2.2 st.2.1=iG enc (f (t.Kids.getD 0 aa.zero) w a st)/\Inv L (f (t.Kids.getD 0 aa.zero) w a st)):
 ∃x y:Int,M.uC rec t v st.1 enc st.2.2 st.2.1=some (x,y,(dU enc f t v st).2.2.1,enc,(dU enc f t v st).2.2.2.2,(dU enc f t v st).2.2.2.1)/\
  ((dU enc f t v st).2.2.2.2=0->x=(dU enc f t v st).1/\y=(dU enc f t v st).2.1):=by
 obtain⟨B,F,c⟩:=st;simp only at h0;subst h0;have hM:gn B F:=hst.2;unfold M.uC dU;rcases hk with h11|h12
 ·rw[bG h11,h11];simp only[kD,cE];have ht:=(Q2 hf).2.2;obtain⟨x,y,e1,e2⟩:=adN v.Text B F he ht hM;rw[e1];cases hE:kE enc v.Text with
  |none=>exact⟨x,y,rfl,fun h=>by simp at h⟩
  |some bs=>
   cases hT:eN bs.length (fB enc) F with
   |none=>
    refine⟨x,y,?_,fun h=>?_⟩
    ·simp only[hT];rfl
    ·simp only[hT]at h;simp at h
   |some p=>
    refine⟨x,y,?_,fun h=>?_⟩
    ·simp only[hT];rfl
    ·simp only[hT];exact e2 bs p hE hT
 ·have h11:t.Kind≠11:=by omega
  rw[bH h11,de h11,aW];have ef:=vk hs h12;have hks:bK (t.Kids.getD 0 aa.zero)=true:=by rw[getD_lt ef];exact hZ hs _ (an _)
  have hkN:(t.Kids.getD 0 aa.zero).sz<=1048576:=by rw[getD_lt ef];have:=aa.dw (a:=t) (an ef);omega
  obtain⟨l8,hall⟩:=vi hf h12;have hsz:=sg (t.Kids.getD 0 aa.zero);have hin:inB (0:Int) t.Kids.length=true:=by unfold inB;rw[bD (by omega),bD (by omega)];rfl
  have hmul:v.Kids.length*(lay (t.Kids.getD 0 aa.zero)).1<=8*(16*1048577):=Nat.mul_le_mul l8 (by omega);simp only[aa.aG,ae.aG,Int.toNat_zero,hin,aQ];have hr:=hr h12;generalize t.Kids.getD 0 aa.zero=kt at*;have key:∃x:Int,M.uB rec kt v.Kids B enc 0 F=some (x,(v.Kids.length:Int),(match eN (v.Kids.length*(lay kt).1) (lay kt).2 F with
   |none=>(B,enc,4,F)
   |some p=>((eY f kt (lay kt).1 v.Kids p.1.toNat (B,p.2,0)).1,enc,(eY f kt (lay kt).1 v.Kids p.1.toNat (B,p.2,0)).2.2,(eY f kt (lay kt).1 v.Kids p.1.toNat (B,p.2,0)).2.1)))/\∀p,eN (v.Kids.length*(lay kt).1) (lay kt).2 F=some p->x=p.1:=by
   unfold M.uB;rw[aa.aG,xG kt hkN hks];simp only[aC,aR,aQ];rw[<-Int.natCast_mul,wrap_i64 (by omega) (by omega),QW _ _ B F enc 0 (by omega) (mY _) hM];cases hT:eN (v.Kids.length*(lay kt).1) (lay kt).2 F with
   |none=>
    simp only[aC,aR,aQ];have:=Ri (rec:=rec) (f:=f) (enc:=enc) (L:=L) hid kt v.Kids 0 (B,F,4) (hst.code 4) l8 (fun h=>by simp at h) hr;simp only[Int.natCast_zero]at this;have stay:∀(r:List ae)(a:Nat)(s:bz),s.2.2≠0->eY f kt (lay kt).1 r a s=s:=by
     intro r
     induction r with
     |nil=>intro a s _;rfl
     |cons v r ih=>intro a s hs;rw[eY,hid _ _ _ _ hs];exact ih _ _ hs
    rw[stay _ _ _ (by simp)]at this;rw[this];exact⟨0,rfl,fun p h=>by cases h⟩
   |some p=>
    obtain⟨g1,g2,g3⟩:=hst.take (mY kt) hT 0;obtain⟨n,hn⟩:=mU g2;simp only[aC,aR,aQ];have:=Ri (rec:=rec) (f:=f) (enc:=enc) (L:=L) hid kt v.Kids n (B,p.2,0) g1 l8 (fun _=>by omega) hr;rw[hn];simp only at this;rw[this];simp only[bP,cE];exact⟨_,rfl,fun p' h=>by simp only[ak]at h;subst h;exact hn.symm⟩
  obtain⟨x,e1,e2⟩:=key;rw[e1];cases hT:eN (v.Kids.length*(lay kt).1) (lay kt).2 F with
  |none=>exact⟨x,_,rfl,fun h=>by simp at h⟩
  |some p=>exact⟨x,_,rfl,fun _=>⟨e2 p hT,rfl⟩⟩
end
theorem Rk(enc:Int)(he:1<=enc/\enc<=3)(L:Nat):∀(m:Nat)(t:aa)(v:ae)(a:Nat)(st:bz),v.sz<m->t.sz<=1048576->bK t=true->bS v t=true->st.2.2=0->Inv L st->a+(lay t).1<=L->
 M.pV m t v (a:Int) st.1 enc st.2.2 st.2.1=iG enc (cZ enc m t v a st)
 |0,t,v,a,st,h,_,_,_,_,_,_=>absurd h (jD _)
 |m+1,t,v,a,st,hm,hN,hs,hf,h0,hst,ha=>by
  have hL:=hst.le;have hFl:=hst.Rh;have ih:∀(t:aa)(v:ae)(a:Nat)(st:bz),v.sz<m->t.sz<=1048576->bK t=true->bS v t=true->st.2.2=0->Inv L st->a+(lay t).1<=L->
   M.pV m t v (a:Int) st.1 enc st.2.2 st.2.1=iG enc (cZ enc m t v a st)/\Inv L (cZ enc m t v a st):=fun t v a st h1 h2 h3 h4 h5 h6 h7=>
   ⟨Rk enc he L m t v a st h1 h2 h3 h4 h5 h6 h7,sn enc L m t v a st h3 h4 h6 h7⟩
  have hvk:∀w∈v.Kids,w.sz<m:=fun w hw=>by have:=ae.dw (a:=v) hw;omega
  show M.xe (M.pV m) t v (a:Int) st.1 enc st.2.2 st.2.1=iG enc (oz enc (cZ enc m) t v a st)
  unfold M.xe oz;rw[bH (by simp[h0])];simp only[vb];by_cases h1:t.Kind=1
  ·have hn:¬(t.Kind=11\/t.Kind=12)/\¬(t.Kind=15\/t.Kind=16)/\¬(t.Kind=13\/t.Kind=14\/t.Kind=17):=by omega
   rw[bH hn.1,bH hn.2.1,bH hn.2.2,h1,xJ h1];simp only[kD,cE,fixF,QO,iG,h0]
  rw[de h1,aW];by_cases hp:t.Kind=11\/t.Kind=12
  ·rw[bG hp];have hb:(t.Kind==11||t.Kind==12)=true:=by rcases hp with h|h<;>rw[h]<;>rfl
   rw[hb,cE];have ef:t.Kind=12->∀w∈v.Kids,∀a st,st.2.2=0->Inv L st->a+(lay (t.Kids.getD 0 aa.zero)).1<=L->M.pV m (t.Kids.getD 0 aa.zero) w (a:Int) st.1 enc st.2.2 st.2.1=iG enc (cZ enc m (t.Kids.getD 0 aa.zero) w a st)/\Inv L (cZ enc m (t.Kids.getD 0 aa.zero) w a st):=fun h12 w hw a st hz hi hle=>by
    have hk0:=vk hs h12;rw[getD_lt hk0]at hle⊢;have hfw:=(vi hf h12).2 w hw;rw[getD_lt hk0]at hfw;exact ih _ w a st (hvk w hw) (by have:=aa.dw (a:=t) (an hk0);omega) (hZ hs _ (an _)) hfw hz hi hle
   obtain⟨x,y,e1,e2⟩:=adO (fun t v a st h=>Q4 enc m t v a st h) t v st he h0 hst hN hs hf hp ef;have hpi:Inv L (dU enc (cZ enc m) t v st).2.2:=Gg t v st hs hf hp hst fun h12 w hw a st hi hle=>by
    have hk0:=vk hs h12;rw[getD_lt hk0]at hle⊢;have hfw:=(vi hf h12).2 w hw;rw[getD_lt hk0]at hfw;exact sn enc L m _ w a st (hZ hs _ (an _)) hfw hi hle
   rw[aa.aG,ae.aG,e1];simp only[aC,aR,aQ];unfold Bg;by_cases hc:(dU enc (cZ enc m) t v st).2.2.2.2=0
   ·obtain⟨g1,g2⟩:=e2 hc;rw[bH (by simp[hc]),hc,g1,g2];simp only[kD,cE];have hlen:(dU enc (cZ enc m) t v st).2.2.1.length=L:=hpi.1;have hfl:=hpi.Rh;rw[show(4:Int)=((4:Nat):Int)from rfl,Ba _ _ 4 _ _ _ _ hpi.2.1 (by omega) (by omega)];simp only[aC,aR,aQ];rw[wrap_i64 (n:=(a:Int)+((4:Nat):Int)) (by omega) (by omega),Ba _ _ 4 _ _ _ _ (by rw[QN];exact hpi.2.1) (by omega) (by omega)];simp only[aC,aR,aQ,cE];have h8:(lay t).1=8:=by rw[xK hp]
    have:=ade (a:Int) (fixF (dU enc (cZ enc m) t v st).1 4) (fixF (dU enc (cZ enc m) t v st).2.1 4) (dU enc (cZ enc m) t v st).2.2.1 (by omega) (by rw[gm,gm,hlen];omega);rw[gm]at this;rw[this];rfl
   ·rw[bG hc,de hc];rfl
  ·rw[bH hp];have hb:(t.Kind==11||t.Kind==12)=false:=by rw[de (fun e=>hp (.inl e)),de (fun e=>hp (.inr e))];rfl
   rw[hb,aW];by_cases hp2:t.Kind=15\/t.Kind=16
   ·rw[bG hp2];have hb:(t.Kind==15||t.Kind==16)=true:=by rcases hp2 with h|h<;>rw[h]<;>rfl
    rw[hb,cE];have hkl:=aa.fg hN;unfold M.xd;rw[adK t.Kids (fun x hx=>by have:=aa.dw (a:=t) hx;omega) (hZ hs) hkl (aa.mZ hN)];simp only[aC,aR,aQ];obtain⟨hl,hall⟩:=F8 hf hp2;rw[adM (f:=cZ enc m) (L:=L) (fun t v a st h=>Q4 enc m t v a st h) t.Kids v.Kids (cb 0 1 (t.Kids.map lay)).1 a st hst hl (by rw[AP];simp) hkl (fun k hk s hz hi=>by
     obtain⟨p,g1,g2⟩:=Gf t.Kids k hk;rw[xM hp2]at ha;simp only at ha;have hfk:=hall k (by omega);rw[getD_lt hk]at hfk;refine⟨p,g1,by omega,?_⟩;rw[getD_lt hk,getD_lt (by omega:k<v.Kids.length)];exact ih _ _ _ s (hvk _ (an _)) (by have:=aa.dw (a:=t) (an hk);omega) (hZ hs _ (an _)) hfk hz hi (by omega))]
    rfl
   ·rw[bH hp2];have hb:(t.Kind==15||t.Kind==16)=false:=by rw[de (fun e=>hp2 (.inl e)),de (fun e=>hp2 (.inr e))];rfl
    rw[hb,aW];by_cases hp3:t.Kind=13\/t.Kind=14\/t.Kind=17
    ·rw[bG hp3];have hb:(t.Kind==13||(t.Kind==14||t.Kind==17))=true:=by rcases hp3 with h|h|h<;>rw[h]<;>rfl
     rw[hb,cE];obtain⟨n0,n1,hl1,hall⟩:=F9 hs hf hp3;have hci:=Ge hs hp3 n0 n1;have f1:M.ln (a:Int) v.Num (1:Int) st.1 enc st.2.2 st.2.1=some (ee a (fixF v.Num 1) st.1,enc,st.2.2,st.2.1):=Ba a v.Num 1 st.1 st.2.1 enc st.2.2 hst.2.1 (by omega) (by omega);obtain⟨nn,hnn⟩:=mU n0;have hin2:inB v.Num (cH t).length=true:=by unfold inB;rw[bD n0,bD n1];rfl
     simp only[aa.aG,ae.aG,AU t hs hp3,adL t hN hs hp3,f1,aC,aR,aQ,hin2,c9];unfold Bf;cases hk:v.Kids with
     |nil=>simp only[h0];rfl
     |cons w r=>
      have hw:w∈v.Kids:=by rw[hk];exact jo ..
      have hi2:Inv L (ee a (fixF v.Num 1) st.1,st.2.1,0):=hst.write _ _ 0;obtain⟨g1,g2⟩:=ih (iW t v.Num) w (a+iC t) _ (hvk w hw) (by have:=ox hs hp3 _ (vj n0 n1);omega) (qj hs hp3 _ (vj n0 n1)) (hall w hw) rfl hi2 (by omega);have hd:decide ((0:Int)<((w::r).length:Int))=true:=bD (by simp);have hin:inB (0:Int) (w::r).length=true:=by unfold inB;rw[bD (by omega),bD (by simp)];rfl
      rw[hd,cE];have hty:(cH t).getD v.Num.toNat aa.zero=iW t v.Num:=rfl;rw[hty];simp only[aC,aR,aQ,hin,show(w::r).getD (Int.toNat 0) ae.zero=w from rfl,h0];rw[wrap_i64 (n:=(a:Int)+(iC t:Int)) (by omega) (by omega),show((a:Int)+(iC t:Int))=((a+iC t:Nat):Int) by omega];simp only at g1;rw[g1];rfl
    ·rw[bH hp3];have hb:(t.Kind==13||(t.Kind==14||t.Kind==17))=false:=by rw[de (fun e=>hp3 (.inl e)),de (fun e=>hp3 (.inr (.inl e))),de (fun e=>hp3 (.inr (.inr e)))];rfl
     rw[hb,aW,aa.aG,xG t hN hs];simp only[aC,aR,aQ];have h64:(lay t).1<=8:=by
      rcases AW hs with k|k|k|k|k|k|k|k|k|k|k
      ·rw[xJ k];decide
      ·rw[AY k];have:=FK t.Kind;simp only;omega
      all_goals first|(exfalso;omega)|(rw[AZ k];decide)|(rw[A0 k];split<;>decide)
     rw[Ba _ _ _ _ _ _ _ hst.2.1 (by omega) h64];simp only[aC,aR,aQ,cE,h0];rfl
end M
namespace M
open Go Go.V
theorem xU{t:aa}(h:dE t=true):bK t=true:=by
 unfold dE at h;rw[aU]at h;exact h.2
def jm(enc:Int):Bool:=decide ((1:Int)<=enc)&&decide (enc<=3)
theorem adP{enc:Int}:jm enc=true↔1<=enc/\enc<=3:=by unfold jm;rw[aU,aZ,aZ]
theorem adQ(v:ae)(t:aa)(hv:v.sz<=1048576)(ht:t.sz<=1048576):M.pN v t=some (dE t&&bS v t):=by
 unfold M.pN;rw[aa.aG,ae.aG,Rl t ht];cases ho:dE t with
 |false=>simp
 |true=>
  have e:M.wS v t=some (bS v t):=Gi ai v t (ia hv) hv ht (xU ho);rw[e];simp
theorem adR(v:ae)(t:aa)(hv:v.sz<=1048576)(ht:t.sz<=1048576)(ho:dE t=true):M.wU v t=some (bS v t):=Gj ai v t (ia hv) hv ht (xU ho)
theorem adS(l:List aa)(hl:l.length<=1048576)(hz:∀x∈l,x.sz<=1048576):M.uI l=some (decide (l.length<=24)&&l.all dE):=by
 have c:∀x∈l,M.uG x=some (!dE x):=fun x hx=>by
  unfold M.uG;rw[aa.aG,Rm x (hz x hx)];rfl
 have e:=contains_of (p:=fun x=> !dE x) (F:=M.rL l (l.length:Int)) l (by omega) (fun f k hk=>by
  rw[M.rL];simp only[aa.aG,getD_lt hk,c _ (an hk),bP,cD,eF,hk,gQ,cE,dy,c9,aQ,cq hk (by omega:l.length<2^62),aC,aR]) (fun f=>by
  rw[M.rL];simp)
 have e2:M.xh l=_:=e;have e3:M.uH l=some (!l.all dE):=by
  unfold M.uH;rw[e2];simp only[aC,aR,aQ,cE];rw[index_ge,A7]
 unfold M.uI;rw[e3];have d:decide ((l.length:Int)<=24)=decide (l.length<=24):=by congr 1;exact propext ⟨fun h=>by omega,fun h=>by omega⟩
 rw[d];simp
def xW(m:ax)(enc:Int)(l:List aa):Bool:=((fU m.Bytes m.Free&&jm enc)&&decide (l.length<=6))&&l.all dE
theorem adT(m:ax)(enc:Int)(l:List aa)(hB:m.Bytes.length<=1048576)(hF:m.Free.length<=1048576)(hl:l.length<=1048576)(hz:∀x∈l,x.sz<=1048576):M.uJ m enc l=some (xW m enc l):=by
 unfold M.uJ xW;rw[adS l hl hz,adh m hB hF];have d:decide ((l.length:Int)<=6)=decide (l.length<=6):=by congr 1;exact propext ⟨fun h=>by omega,fun h=>by omega⟩
 rw[d];simp only[aC,aR,dy,aQ,cE];congr 1;show(((fU m.Bytes m.Free&&jm enc)&&decide (l.length<=6))&&(decide (l.length<=24)&&l.all dE))=_
 by_cases h:l.length<=6
 ·rw[bD (by omega:l.length<=24),c9]
 ·rw[av h,Bool.and_false,oy,oy]
theorem adU(m:ax)(enc:Int)(hB:m.Bytes.length<=1048576)(hF:m.Free.length<=1048576):M.uu m enc=some (fU m.Bytes m.Free&&jm enc):=by
 unfold M.uu;rw[adi m hB hF];rfl
def m9(m:ax)(t:aa)(a:Int):Bool:=(Int.tmod a ((lay t).2:Int)==0)&&decide (0<=a/\a+(lay t).1<=m.Bytes.length)
def vl(s:bz):List UInt8×Int×List af:=if s.2.2≠0 then([],s.2.2,[])else(s.1,0,s.2.1)
noncomputable def na(m:ax)(enc:Int)(t:aa)(v:ae)(a:Int):List UInt8×Int×List af:=
 if((fU m.Bytes m.Free&&jm enc)&&(dE t&&bS v t))=true then
  (if m9 m t a=true then vl (cZ enc ai t v a.toNat (m.Bytes,m.Free,0))else([],10,[]))
 else([],1,[])
theorem adV(m:ax)(t:aa)(a:Int)(hB:m.Bytes.length<=4096)(hN:t.sz<=1048576)(hs:bK t=true):M.uM (M.eQ.mk m.Bytes m.Free) t a=some (m9 m t a):=by
 unfold M.uM m9;have hsz:=sg t;rw[aa.aG,vf t hN hs,ve t hN hs];simp only[aC,aR,aQ];rw[A8 m.Bytes m.Free a (lay t).1 hB (by omega)];have hne:(((lay t).2:Int) !=0)=true:=by rw[sE];have:=(mY t).le;omega
 rw[hne];simp
theorem Rn(F:List af)(h:F.length<=1048576):M.lp F=some F:=by
 unfold M.lp;rw[bD h];rfl
theorem adW(m:ax)(hM:gn m.Bytes m.Free):M.uK m=some (m.Bytes,m.Free):=by
 unfold M.uK;have h1:=hM.len;have h2:=hM.1;rw[Rn _ (by omega),bD (by omega)];simp
theorem adX(B:List UInt8)(F:List af)(hM:gn B F):M.uT (M.eQ.mk B F)=some (B,F):=by
 unfold M.uT;have h1:=hM.len;show(let q0:=M.lp F;_)=_
 rw[Rn _ (by omega)];simp
theorem Gk{m:ax}{t:aa}{a:Int}(h:m9 m t a=true):0<=a/\a+(lay t).1<=m.Bytes.length:=by
 unfold m9 at h;rw[aU,aZ]at h;exact h.2
theorem Gl(m:ax)(enc:Int)(t:aa)(v:ae)(a:Int)(hs:bK t=true)(hf:bS v t=true)(hM:gn m.Bytes m.Free)(hp:m9 m t a=true):Inv m.Bytes.length (cZ enc ai t v a.toNat (m.Bytes,m.Free,0)):=
 sn enc m.Bytes.length ai t v a.toNat _ hs hf ⟨rfl,hM⟩ (by have:=Gk hp;omega)
theorem adY(m:ax)(enc:Int)(t:aa)(v:ae)(a:Int)(hB:m.Bytes.length<=1048576)(hF:m.Free.length<=1048576)(ht:t.sz<=1048576)(hv:v.sz<=1048576):M.rR m enc t v a=some (na m enc t v a):=by
 unfold M.rR na;rw[aa.aG,ae.aG,adT m enc [t] hB hF (by simp) (fun x hx=>by simp at hx;subst hx;exact ht)];have hc:xW m enc [t]=((fU m.Bytes m.Free&&jm enc)&&dE t):=by unfold xW;simp
 rw[hc];simp only[aC,aR,aQ];by_cases h1:((fU m.Bytes m.Free&&jm enc)&&dE t)=true
 ·have ho:dE t=true:=by rw[aU]at h1;exact h1.2
  have h1':(fU m.Bytes m.Free&&jm enc)=true:=by rw[aU]at h1;exact h1.1
  have hM:gn m.Bytes m.Free:=by rw[aU]at h1';exact(A6 _ _).1 h1'.1
  have hs:=xU ho;rw[h1,adR v t hv ht ho,h1',ho];simp only[fO,x8,aC,aR,dy,c9,aQ];cases hf:bS v t with
  |false=>simp
  |true=>
   rw[adW m hM];simp only[fO,aW,aC,aR,aQ,sc];rw[adV m t a hM.1 ht hs];simp only[aC,aR,aQ];cases hp:m9 m t a with
   |false=>simp
   |true=>
    obtain⟨p1,p2⟩:=Gk hp;obtain⟨n,rfl⟩:=mU p1;have hI:=Gl m enc t v (n:Int) hs hf hM hp;have e:=Re enc m.Bytes.length ai t v n (m.Bytes,m.Free,0) (ia hv) ht hs hf ⟨rfl,hM⟩ (by omega);simp only at e;have e':M.AD t v (n:Int) enc 0 m.Bytes m.Free=iY enc (cZ enc ai t v n (m.Bytes,m.Free,0)):=e;rw[e'];rw[bP]at hI⊢;simp only[fO,aW,iY,aC,aR,aQ,sc,vl];by_cases hcode:(cZ enc ai t v n (m.Bytes,m.Free,0)).2.2=0
    ·rw[hcode];simp only[show((0:Int) !=0)=false from rfl,aW];rw[adX _ _ hI.2];simp
    ·have:((cZ enc ai t v n (m.Bytes,m.Free,0)).2.2 !=0)=true:=by rw[sE];exact hcode
     rw[this,bG hcode];simp
 ·have h1:((fU m.Bytes m.Free&&jm enc)&&dE t)=false:=by simpa using h1
  rw[h1];have h2:((fU m.Bytes m.Free&&jm enc)&&(dE t&&bS v t))=false:=by rw[<-Bool.and_assoc,h1,oy]
  rw[h2];simp
theorem adZ(m:ax)(enc:Int)(t:aa)(v:ae)(a:Int)(hB:m.Bytes.length<=1048576)(hF:m.Free.length<=1048576)(ht:t.sz<=1048576)(hv:v.sz<=1048576):M.rK m enc t v a=some (M.ax.mk (na m enc t v a).1 (na m enc t v a).2.2,(na m enc t v a).2.1):=by
 unfold M.rK na;rw[aa.aG,ae.aG,adU m enc hB hF,adQ v t hv ht];simp only[aC,aR,aQ];by_cases h1:((fU m.Bytes m.Free&&jm enc)&&(dE t&&bS v t))=true
 ·rw[bG h1];rw[aU]at h1;obtain⟨h1',h2⟩:=h1;rw[h1',h2];rw[aU]at h2;obtain⟨ho,hf⟩:=h2;have hs:=xU ho;have hM:gn m.Bytes m.Free:=by rw[aU]at h1';exact(A6 _ _).1 h1'.1
  have he:1<=enc/\enc<=3:=by rw[aU]at h1';exact adP.1 h1'.2
  have hne:(((lay t).2:Int) !=0)=true:=by rw[sE];have:=(mY t).le;omega
  have hsz:=sg t;have ein:M.mw m a ((lay t).1:Int)=some (decide (0<=a/\a+(lay t).1<=m.Bytes.length)):=by
   have:=A8 m.Bytes m.Free a (lay t).1 hM.1 (by omega);unfold M.mK at this;unfold M.mw;rw[<-this];simp only[Bool.and_comm (decide ((0:Int)<=((lay t).1:Int)))]
  rw[xG t ht hs];simp only[aC,aR,aQ,fO,gj,aW,hne];rw[ein];simp only[aC,aR,aQ];have hpb:(Int.tmod a ((lay t).2:Int) !=0|| !decide (0<=a/\a+(lay t).1<=m.Bytes.length))= !m9 m t a:=by
   unfold m9;rw[Bool.not_and];rfl
  rw[hpb];cases hp:m9 m t a with
  |false=>simp
  |true=>
   obtain⟨p1,p2⟩:=Gk hp;obtain⟨n,rfl⟩:=mU p1;have hI:=Gl m enc t v (n:Int) hs hf hM hp;have e:=Rk enc he m.Bytes.length ai t v n (m.Bytes,m.Free,0) (ia hv) ht hs hf rfl ⟨rfl,hM⟩ (by omega);simp only at e;have e':M.Ag t v (n:Int) m.Bytes enc 0 m.Free=iG enc (cZ enc ai t v n (m.Bytes,m.Free,0)):=e;have eo:M.jW m=some (m.Bytes,m.Free):=QV m.Bytes m.Free (by have:=hM.len;omega);rw[eo];simp only[aC,aR,aQ];rw[e'];rw[bP]at hI⊢;simp only[fO,aW,iG,aC,aR,aQ,sc,vl];by_cases hcode:(cZ enc ai t v n (m.Bytes,m.Free,0)).2.2=0
   ·rw[hcode];simp
   ·have:((cZ enc ai t v n (m.Bytes,m.Free,0)).2.2 !=0)=true:=by rw[sE];exact hcode
    rw[this,bG hcode];simp
 ·rw[bH h1];have h2:((fU m.Bytes m.Free&&jm enc)&&(dE t&&bS v t))=false:=by simpa using h1
  rw[<-Bool.not_and,h2];simp
theorem ad2{L:Nat}{s:bz}(h:Inv L s):(vl s).1.length<=4096/\(vl s).2.2.length<=4096:=by
 unfold vl;split
 ·simp
 ·exact⟨h.2.1,h.2.len⟩
theorem ad3(m:ax)(enc:Int)(t:aa)(v:ae)(a:Int):(na m enc t v a).1.length<=4096/\(na m enc t v a).2.2.length<=4096:=by
 unfold na;split
 ·rename_i h1;rw[aU,aU,aU]at h1;split
  ·rename_i hp;exact ad2 (Gl m enc t v a (xU h1.2.1) h1.2.2 ((A6 _ _).1 h1.1.1) hp)
  ·simp
 ·simp
end M
