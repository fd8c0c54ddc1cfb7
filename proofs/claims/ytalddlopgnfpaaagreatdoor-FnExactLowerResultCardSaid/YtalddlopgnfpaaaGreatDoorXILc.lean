/-
  LOWERING into memory, in plain Lean: one function that both sides compute; what it keeps.
-/
import Derived.Test.YtalddlopgnfpaaaGreatDoorXILb
import Derived.Test.YtalddlopgnfpaaaGreatDoorXIU
set_option linter.unusedVariables false
set_option linter.unusedSimpArgs false
namespace M
open Go Go.V
abbrev bh :=List UInt8×List af×Int
def gn(enc:Int):Nat:=if enc=2 then 2 else 1
def fG(t:aa)(n:Int):aa:=(bB t).getD n.toNat aa.zero
def fH(f:aa->ae->Nat->bh->bh)(t:aa)(sz:Nat):List ae->Nat->bh->bh
 |[],_,st=>st
 |v::r,a,st=>fH f t sz r (a+sz) (f t v a st)
def jn(f:aa->ae->Nat->bh->bh):List aa->List ae->List Int->Nat->bh->bh
 |t::ts,v::vs,p::ps,a,st=>jn f ts vs ps a (f t v (a+p.toNat) st)
 |_,_,_,_,st=>st
def ed(enc:Int)(f:aa->ae->Nat->bh->bh)(t:aa)(v:ae)(st:bh):Int×Int×bh:=
 if t.Kind=11 then match md enc v.Text with
  |none=>(0,0,(st.1,st.2.1,19))
  |some bs=>match fy bs.length (gn enc) st.2.1 with
   |none=>(0,0,(st.1,st.2.1,4))
   |some p=>(p.1,((bs.length/gn enc:Nat):Int),(eM p.1 bs st.1,p.2,0))
 else match fy (v.Kids.length*(lay (t.Kids.getD 0 aa.zero)).1) (lay (t.Kids.getD 0 aa.zero)).2 st.2.1 with
  |none=>(0,(v.Kids.length:Int),(st.1,st.2.1,4))
  |some p=>(p.1,(v.Kids.length:Int),fH f (t.Kids.getD 0 aa.zero) (lay (t.Kids.getD 0 aa.zero)).1 v.Kids p.1.toNat (st.1,p.2,0))
def EB(f:aa->ae->Nat->bh->bh)(t:aa)(v:ae)(a:Nat)(st:bh):bh:=
 match v.Kids with
 |[]=>(eM a (fixF v.Num 1) st.1,st.2.1,0)
 |w::_=>f (fG t v.Num) w (a+jl t) (eM a (fixF v.Num 1) st.1,st.2.1,0)
def EC(a:Nat)(p:Int×Int×bh):bh:=if p.2.2.2.2≠0 then p.2.2 else(eM a (fixF p.1 4++fixF p.2.1 4) p.2.2.1,p.2.2.2.1,0)
def qh(enc:Int)(f:aa->ae->Nat->bh->bh)(t:aa)(v:ae)(a:Nat)(st:bh):bh:=
 if st.2.2≠0 then st
 else if t.Kind=11\/t.Kind=12 then EC a (ed enc f t v st)
 else if t.Kind=15\/t.Kind=16 then jn f t.Kids v.Kids (cE 0 1 (t.Kids.map lay)).1 a st
 else if t.Kind=13\/t.Kind=14\/t.Kind=17 then EB f t v a st
 else(eM a (fixF v.Num (lay t).1) st.1,st.2.1,0)
def dx(enc:Int):Nat->aa->ae->Nat->bh->bh
 |0=>fun _ _ _ st=>st
 |n+1=>qh enc (dx enc n)
def Inv(L:Nat)(st:bh):Prop:=st.1.length=L/\ix st.1 st.2.1
theorem Inv.le{L:Nat}{st:bh}(h:Inv L st):L<=4096:=by rw[<-h.1];exact h.2.1
theorem Inv.write{L:Nat}{st:bh}(h:Inv L st)(a:Int)(bs:List UInt8)(c:Int):Inv L (eM a bs st.1,st.2.1,c):=by
 unfold Inv ix at*;simp only[VG];exact h
theorem Inv.code{L:Nat}{st:bh}(h:Inv L st)(c:Int):Inv L (st.1,st.2.1,c):=h
theorem Inv.take{L:Nat}{st:bh}(h:Inv L st){many al:Nat}(ha:di al){p:Int×List af}(hp:fy many al st.2.1=some p)(c:Int):Inv L (st.1,p.2,c)/\0<=p.1/\p.1+many<=L:=by
 obtain⟨h1,h2⟩:=h;have:=aid ha (e:=st.1.length) (a:=p.1) (l':=p.2) h2.2 (by omega) hp;exact⟨⟨h1,h2.1,this.1⟩,this.2.1,by rw[<-h1];exact this.2.2⟩
theorem Jk{v:ae}{t:aa}(h:ct v t=true):v.Kind=t.Kind/\fQ v.Num t=true/\gm v.Text=true:=by
 rw[ED,aW]at h;have h1:=h.1;unfold headB at h1;simp only[aW,kK]at h1;exact⟨h1.1.1.1,h1.1.1.2,h1.2⟩
theorem EE{v:ae}{t:aa}(h:ct v t=true):∃ts,kT v.Num v.Kids.length t=some ts/\ts.length=v.Kids.length/\iZ v.Kids ts=true:=by
 rw[ED,aW]at h;cases hk:kT v.Num v.Kids.length t with
 |none=>rw[hk]at h;simp at h
 |some ts=>
  rw[hk]at h;simp only[aW,bm]at h;exact⟨ts,rfl,h.2⟩
theorem VW{v:ae}{ts:List aa}(hl:ts.length=v.Kids.length)(h:iZ v.Kids ts=true):∀k (hk:k<v.Kids.length),ct v.Kids[k] (ts.getD k aa.zero)=true:=by
 rw[EF _ _ hl,fg]at h;intro k hk;have:=h k (xN.2 hk)
 rwa [getD_lt hk]at this
theorem qi{v:ae}{t:aa}(h:ct v t=true)(hk:t.Kind=12):v.Kids.length<=8/\∀w∈v.Kids,ct w (t.Kids.getD 0 aa.zero)=true:=by
 obtain⟨ts,h1,h2,h3⟩:=EE h;unfold kT at h1;rw[av hk]at h1;simp only[ar]at h1;subst h1;rw[gj]at h2;refine⟨by omega,?_⟩;rw[Jl _ _ _ (by omega),fg]at h3;exact h3
theorem xO{v:ae}{t:aa}(h:ct v t=true)(hk:t.Kind=15\/t.Kind=16):t.Kids.length=v.Kids.length/\∀k (hk:k<v.Kids.length),ct v.Kids[k] (t.Kids.getD k aa.zero)=true:=by
 obtain⟨ts,h1,h2,h3⟩:=EE h;unfold kT at h1;rw[ak (by omega),av hk]at h1;simp only[ar]at h1;subst h1;exact⟨h2,VW h2 h3⟩
theorem uL{v:ae}{t:aa}(hs:bw t=true)(h:ct v t=true)(hk:t.Kind=13\/t.Kind=14\/t.Kind=17):0<=v.Num/\v.Num<((bB t).length:Int)/\v.Kids.length<=1/\∀w∈v.Kids,ct w (fG t v.Num)=true:=by
 obtain⟨ts,h1,h2,h3⟩:=EE h;have one:∀(x:aa),(i3 x).length<=1:=fun x=>by unfold i3;split<;>simp
 have fin:∀(x:aa),ts=i3 x->∀w∈v.Kids,ct w x=true:=fun x hx w hw=>by
  obtain⟨k,hk1,rfl⟩:=oK hw;have hl:ts.length<=1:=by rw[hx];exact one x
  have h0:k=0:=by omega
  subst h0;have:=VW h2 h3 0 hk1;rw[hx]at this h2;unfold i3 at this h2;split at this
  ·rename_i hu;rw[av hu]at h2;simp at h2;omega
  ·exact this
 unfold kT at h1;rw[ak (by omega),ak (by omega)]at h1;by_cases h13:t.Kind=13
 ·have hp:=sg hs h13;rw[av h13]at h1;have hc:bB t=[.mk 1 [] [] [],t.Kids.getD 0 aa.zero]:=by unfold bB;rw[av h13]
  unfold fG;rw[hc];split at h1
  ·rename_i h0;simp only[ar]at h1;subst h1;have:v.Kids=[]:=iU (by rw[<-h2];rfl);rw[this,h0];exact⟨by omega,by simp,by simp,fun w hw=>by simp at hw⟩
  ·split at h1
   ·rename_i h0 h1';simp only[ar]at h1;rw[h1'];exact⟨by omega,by simp,by rw[<-h2,<-h1];exact one _,fin _ h1.symm⟩
   ·cases h1
 ·have hk':t.Kind=14\/t.Kind=17:=by omega
  rw[ak h13,av hk']at h1;have hc:bB t=t.Kids:=by unfold bB;rw[ak h13]
  unfold fG;rw[hc];split at h1
  ·rename_i hn;simp only[ar]at h1;exact⟨hn.1,hn.2,by rw[<-h2,<-h1];exact one _,fin _ h1.symm⟩
  ·cases h1
theorem lF{t:aa}{n:Int}(h0:0<=n)(h1:n<((bB t).length:Int)):fG t n∈bB t:=by
 unfold fG;rw[getD_lt (by omega:n.toNat<(bB t).length)];exact bC _
theorem Jm{t:aa}{n:Int}(hs:bw t=true)(hk:t.Kind=13\/t.Kind=14\/t.Kind=17)(h0:0<=n)(h1:n<((bB t).length:Int)):jl t+(lay (fG t n)).1<=(lay t).1:=by
 have hm:=Vo ((bB t).map lay) 0 1 (lay (fG t n)) (mO.2 ⟨_,lF h0 h1,rfl⟩);rw[I8 hs hk];have:=xG (a:=cY 1 (du 0 1 ((bB t).map lay)).2+(du 0 1 ((bB t).map lay)).1) (Eo (bB t));unfold jl;simp only;omega
theorem Jn(l:List aa)(k:Nat)(hk:k<l.length):∃p:Nat,(cE 0 1 (l.map lay)).1.getD k 0=(p:Int)/\p+(lay l[k]).1<=cY (cE 0 1 (l.map lay)).2.1 (cE 0 1 (l.map lay)).2.2:=by
 obtain⟨p,h1,h2,h3⟩:=Vm (l.map lay) 0 1 k (by simpa using hk) (sf l);have:=xG (a:=(cE 0 1 (l.map lay)).2.1) (Ab (l.map lay) 0 1 (sf l) (.inl rfl));rw[List.getElem_map]at h3;exact⟨p,h1,by omega⟩
theorem Jo(enc:Int):∀(m:Nat)(t:aa)(v:ae)(a:Nat)(st:bh),st.2.2≠0->dx enc m t v a st=st
 |0,t,v,a,st,h=>rfl
 |m+1,t,v,a,st,h=>by show qh enc (dx enc m) t v a st=st;unfold qh;rw[av h]
theorem VX{f:aa->ae->Nat->bh->bh}{t:aa}{sz L:Nat}:∀(l:List ae)(a:Nat)(st:bh),(∀w∈l,∀a st,Inv L st->a+sz<=L->Inv L (f t w a st))->Inv L st->a+l.length*sz<=L->Inv L (fH f t sz l a st)
 |[],a,st,_,h,_=>h
 |v::r,a,st,hf,h,ha=>by
  rw[bQ,Nat.add_one_mul]at ha;exact VX r (a+sz) _ (fun w hw=>hf w (gQ _ hw)) (hf v (fa ..) a st h (by omega)) (by omega)
theorem VY{f:aa->ae->Nat->bh->bh}{L a:Nat}:∀(ts:List aa)(vs:List ae)(ps:List Int)(st:bh),ts.length=vs.length->ps.length=ts.length->
 (∀k,k<ts.length->∀st,Inv L st->Inv L (f (ts.getD k aa.zero) (vs.getD k ae.zero) (a+(ps.getD k 0).toNat) st))->Inv L st->Inv L (jn f ts vs ps a st)
 |[],_,_,st,_,_,_,h=>h
 |t::ts,[],_,st,hl,_,_,h=>by simp at hl
 |t::ts,v::vs,[],st,_,hp,_,h=>by simp at hp
 |t::ts,v::vs,p::ps,st,hl,hp,hf,h=>by
  refine VY ts vs ps _ (by simpa using hl) (by simpa using hp) (fun k hk st hst=>?_) (hf 0 (by simp) st h);exact hf (k+1) (by simpa using hk) st hst
theorem qj{t:aa}(hs:bw t=true)(h12:t.Kind=12):0<t.Kids.length:=by
 rw[oH]at hs;have h1:jD t=true:=by rw[aW]at hs;exact hs.1
 unfold jD sj at h1;rw[av (.inl h12:t.Kind=12\/t.Kind=13)]at h1;simp only[aW,kK]at h1;omega
theorem EG{f:aa->ae->Nat->bh->bh}{enc:Int}{L:Nat}(t:aa)(v:ae)(st:bh)(hs:bw t=true)(hf:ct v t=true)(hk:t.Kind=11\/t.Kind=12)(h:Inv L st)
 (hr:t.Kind=12->∀w∈v.Kids,∀a st,Inv L st->a+(lay (t.Kids.getD 0 aa.zero)).1<=L->Inv L (f (t.Kids.getD 0 aa.zero) w a st)):Inv L (ed enc f t v st).2.2:=by
 unfold ed;split
 ·split
  ·exact h.code 19
  ·split
   ·exact h.code 4
   ·rename_i bs hb p hp;have:=h.take (by unfold gn;split<;>simp[di]) hp 0;exact this.1.write _ _ 0
 ·rename_i h11;have h12:t.Kind=12:=by omega
  split
  ·exact h.code 4
  ·rename_i p hp;obtain⟨g1,g2,g3⟩:=h.take (sd _) hp 0;exact VX v.Kids p.1.toNat _ (fun w hw a' st' hi hle=>hr h12 w hw a' st' hi hle) g1 (by omega)
theorem qk(enc:Int)(L:Nat):∀(m:Nat)(t:aa)(v:ae)(a:Nat)(st:bh),bw t=true->ct v t=true->Inv L st->a+(lay t).1<=L->Inv L (dx enc m t v a st)
 |0,t,v,a,st,_,_,h,_=>h
 |m+1,t,v,a,st,hs,hf,h,ha=>by
  show Inv L (qh enc (dx enc m) t v a st)
  unfold qh;split
  ·exact h
  ·split
   ·rename_i hc hk;unfold EC;have key:Inv L (ed enc (dx enc m) t v st).2.2:=EG t v st hs hf hk h fun h12 w hw a' st' hi hle=>by
     have dA:=qj hs h12;have hks:bw (t.Kids.getD 0 aa.zero)=true:=by rw[getD_lt dA];exact fh hs _ (bC _)
     exact qk enc L m _ w a' st' hks ((qi hf h12).2 w hw) hi hle
    split
    ·exact key
    ·exact key.write _ _ 0
   ·split
    ·rename_i hc hk hk2;obtain⟨hl,hall⟩:=xO hf hk2;refine VY t.Kids v.Kids _ st hl (by rw[Ed];simp) (fun k hk st' hi=>?_) h;obtain⟨p,h1,h2⟩:=Jn t.Kids k hk;rw[h1,cN,getD_lt hk,getD_lt (by omega:k<v.Kids.length)];have hf2:=hall k (by omega);rw[getD_lt hk]at hf2;refine qk enc L m _ _ _ st' (fh hs _ (bC _)) hf2 hi ?_;rw[Ai hk2]at ha;simp only at ha;omega
    ·split
     ·rename_i hc hk hk2 hk3;obtain⟨h0,h1,h2,hall⟩:=uL hs hf hk3;unfold EB;split
      ·exact h.write _ _ 0
      ·rename_i w r e;have hci:=Jm hs hk3 h0 h1;exact qk enc L m _ w _ _ (lD hs hk3 _ (lF h0 h1)) (hall w (by rw[e];exact fa ..)) (h.write _ _ 0) (by omega)
     ·exact h.write _ _ 0
end M
namespace M
open Go Go.V
def kL(enc:Int)(st:bh):Option (Int×Int×List UInt8×List af):=some (enc,st.2.2,st.1,st.2.1)
abbrev aiC :=M.aa->M.ae->Int->Int->Int->List UInt8->List M.af->Option (Int×Int×List UInt8×List M.af)
section
variable {rec :aiC}{f:aa->ae->Nat->bh->bh}{enc:Int}{L:Nat}
theorem aiD(t:aa)(v:ae)(p:Nat)(st:bh)(hst:Inv L st)(hN:t.sz<=1048576)(hs:bw t=true)(h8:v.Kids.length<=8)(hp:p+v.Kids.length*(lay t).1<=L)
 (hr:∀w∈v.Kids,∀a st,Inv L st->a+(lay t).1<=L->rec t w (a:Int) enc st.2.2 st.1 st.2.1=kL enc (f t w a st)/\Inv L (f t w a st)):
 M.iL rec (p:Int) v.Kids (v.Kids.length:Int) ah 0 enc st.2.2 v t st.1 st.2.1=
   some ((p:Int),enc,(fH f t (lay t).1 v.Kids p st).2.2,v,(fH f t (lay t).1 v.Kids p st).1,(fH f t (lay t).1 v.Kids p st).2.1):=by
 have e:=j5 (F:=fun g i (s:bh)=>M.iL rec (p:Int) v.Kids (v.Kids.length:Int) g i enc s.2.2 v t s.1 s.2.1) v.Kids (by omega)
  (fun r s=>some ((p:Int),enc,(fH f t (lay t).1 r (p+(v.Kids.length-r.length)*(lay t).1) s).2.2,v,(fH f t (lay t).1 r (p+(v.Kids.length-r.length)*(lay t).1) s).1,(fH f t (lay t).1 r (p+(v.Kids.length-r.length)*(lay t).1) s).2.1))
  (fun k s=>Inv L s) ?_ ?_ st hst
 ·simp only[oL,mQ,Nat.add_zero]at e;exact e
 ·intro g k s hk hI ih;have hL:=hI.le
  show M.iL rec (p:Int) v.Kids (v.Kids.length:Int) (g+1) (k:Int) enc s.2.2 v t s.1 s.2.1=_
  rw[M.iL];have hkl:(v.Kids.drop (k+1)).length=v.Kids.length-(k+1):=List.length_drop;have hmul:(k+1)*(lay t).1<=v.Kids.length*(lay t).1:=dr _ hk;rw[Nat.add_one_mul]at hmul;have ew:IntKind.wrap .i64 ((p:Int)+IntKind.wrap .i64 ((k:Int)*((lay t).1:Int)))=((p+k*(lay t).1:Nat):Int):=by
   rw[<-Int.natCast_mul,wrap_i64 (n:=((k*(lay t).1:Nat):Int)) (by omega) (by omega),wrap_i64 (by omega) (by omega)];omega
  obtain⟨h1,h2⟩:=hr v.Kids[k] (bC hk) (p+k*(lay t).1) s hI (by omega);simp only[cO,hk,cr,aA,cN,getD_lt hk,cB,aP,bI,aa.aO,ae.aO,Ak t hN hs,aS,aU,ew,h1,kL];rw[cm hk (by omega:v.Kids.length<2^62)];refine Eq.trans (ih _ h2) ?_;have e1:v.Kids.length-(v.Kids[k]::v.Kids.drop (k+1)).length=k:=by rw[bQ,hkl];omega
  have e2:v.Kids.length-(v.Kids.drop (k+1)).length=k+1:=by rw[hkl];omega
  rw[e1,e2,Nat.add_one_mul,<-gJ];rfl
 ·intro g s hI
  show M.iL rec (p:Int) v.Kids (v.Kids.length:Int) (g+1) (v.Kids.length:Int) enc s.2.2 v t s.1 s.2.1=_
  rw[M.iL];simp[fH,ae.aO]
theorem aiE(ts:List aa)(v:ae)(ps:List Int)(a:Nat)(st:bh)(hst:Inv L st)(hl:ts.length=v.Kids.length)(hp:ps.length=ts.length)(h8:ts.length<=1048576)
 (hr:∀k (hk:k<ts.length) (st:bh),Inv L st->∃q:Nat,ps.getD k 0=(q:Int)/\a+q<=4096/\rec (ts.getD k aa.zero) (v.Kids.getD k ae.zero) ((a+q:Nat):Int) enc st.2.2 st.1 st.2.1=kL enc (f (ts.getD k aa.zero) (v.Kids.getD k ae.zero) (a+q) st)/\Inv L (f (ts.getD k aa.zero) (v.Kids.getD k ae.zero) (a+q) st)):
 M.oo rec (a:Int) ps ts (ts.length:Int) ah 0 enc st.2.2 v st.1 st.2.1=kL enc (jn f ts v.Kids ps a st):=by
 have e:=j5 (F:=fun g i (s:bh)=>M.oo rec (a:Int) ps ts (ts.length:Int) g i enc s.2.2 v s.1 s.2.1) ts (by omega)
  (fun r s=>kL enc (jn f r (v.Kids.drop (ts.length-r.length)) (ps.drop (ts.length-r.length)) a s))
  (fun k s=>Inv L s) ?_ ?_ st hst
 ·simp only[oL,ej]at e;exact e
 ·intro g k s hk hI ih
  show M.oo rec (a:Int) ps ts (ts.length:Int) (g+1) (k:Int) enc s.2.2 v s.1 s.2.1=_
  rw[M.oo];obtain⟨q,hq,hle,h1,h2⟩:=hr k hk s hI;have hkv:k<v.Kids.length:=by omega
  have hkp:k<ps.length:=by omega
  have ew:IntKind.wrap .i64 ((a:Int)+(q:Int))=((a+q:Nat):Int):=by rw[wrap_i64 (by omega) (by omega)];omega
  simp only[cO,hk,cr,aA,cN,cB,hkv,hkp,aP,bI,aa.aO,ae.aO,hq,ew,h1,kL,aS,aU];rw[cm hk (by omega:ts.length<2^62)];refine Eq.trans (ih _ h2) ?_;have e1:ts.length-(ts[k]::ts.drop (k+1)).length=k:=by rw[bQ,List.length_drop];omega
  have e2:ts.length-(ts.drop (k+1)).length=k+1:=by rw[List.length_drop];omega
  rw[e1,e2,dX hkv,dX hkp];have hq':ps[k]=(q:Int):=by rw[<-hq,getD_lt hkp]
  rw[getD_lt hk,getD_lt hkv]
  show kL enc _=kL enc (jn f (ts.drop (k+1)) (v.Kids.drop (k+1)) (ps.drop (k+1)) a (f ts[k] v.Kids[k] (a+(ps[k]).toNat) s))
  rw[hq',cN]
 ·intro g s hI
  show M.oo rec (a:Int) ps ts (ts.length:Int) (g+1) (ts.length:Int) enc s.2.2 v s.1 s.2.1=_
  rw[M.oo];simp[jn,kL]
theorem aiF(t:aa)(v:ae)(hid:∀w∈v.Kids,∀a c B F,c≠0->rec t w a enc c B F=some (enc,c,B,F))(p c:Int)(B:List UInt8)(F:List af)(hc:c≠0)(hN:t.sz<=1048576)(hs:bw t=true)(h8:v.Kids.length<=8):
 M.iL rec p v.Kids (v.Kids.length:Int) ah 0 enc c v t B F=some (p,enc,c,v,B,F):=by
 refine Jp (F:=fun g i=>M.iL rec p v.Kids (v.Kids.length:Int) g i enc c v t B F) (n:=v.Kids.length) (by omega) (fun g k hk=>?_) (fun g=>?_)
 ·show M.iL rec p v.Kids (v.Kids.length:Int) (g+1) (k:Int) enc c v t B F=_
  rw[M.iL];simp only[cO,hk,cr,aA,cN,getD_lt hk,cB,aP,bI,aa.aO,ae.aO,Ak t hN hs,aS,aU,hid _ (bC hk) _ c B F hc];rw[cm hk (by omega:v.Kids.length<2^62)]
 ·show M.iL rec p v.Kids (v.Kids.length:Int) (g+1) (v.Kids.length:Int) enc c v t B F=_
  rw[M.iL];simp[ae.aO]
theorem Ao(enc:Int):M.oj enc=some (gn enc:Int):=by
 unfold M.oj gn;by_cases h:enc=2
 ·rw[av h,h];rfl
 ·rw[ak h,cq h];rfl
theorem Jq(enc:Int):di (gn enc):=by unfold gn;split<;>simp[di]
theorem EH(enc:Int):((gn enc:Int) !=0)=true:=by unfold gn;split<;>rfl
theorem VZ(n:Nat)(enc:Int)(hn:n<=1048576):IntKind.wrap .i64 (Int.tdiv (n:Int) (gn enc:Int))=((n/gn enc:Nat):Int):=by
 rw[<-Int.ofNat_tdiv];have:n/gn enc<=n:=Nat.div_le_self _ _;generalize n/gn enc=q at*;rw[wrap_i64 (by omega) (by omega)]
theorem V0(t:aa)(v:ae)(st:bh)(h0:st.2.2=0)(hst:Inv L st)(hN:t.sz<=1048576)(hs:bw t=true)(hf:ct v t=true)(hk:t.Kind=11\/t.Kind=12)
 (hid:∀t,∀w∈v.Kids,∀a c B F,c≠0->rec t w a enc c B F=some (enc,c,B,F))
 (hr:t.Kind=12->∀w∈v.Kids,∀a st,Inv L st->a+(lay (t.Kids.getD 0 aa.zero)).1<=L->rec (t.Kids.getD 0 aa.zero) w (a:Int) enc st.2.2 st.1 st.2.1=kL enc (f (t.Kids.getD 0 aa.zero) w a st)/\Inv L (f (t.Kids.getD 0 aa.zero) w a st)):
 ∃x y:Int,M.rM rec t v enc st.2.2 st.1 st.2.1=some (x,y,enc,(ed enc f t v st).2.2.2.2,(ed enc f t v st).2.2.1,(ed enc f t v st).2.2.2.1)/\
  ((ed enc f t v st).2.2.2.2=0->x=(ed enc f t v st).1/\y=(ed enc f t v st).2.1):=by
 obtain⟨B,F,c⟩:=st;simp only at h0;subst h0;have hM:ix B F:=hst.2;unfold M.rM ed;simp only[show((0:Int) !=0)=false from rfl,aR];rcases hk with h11|h12
 ·rw[av h11,h11];simp only[mc,aA];have ht:=(Jk hf).2.2;rw[aiz enc v.Text ht];cases hE:md enc v.Text with
  |none=>
   simp only[aS,aU,aP,Ao];rw[ain _ _ _ _ _ _ (by decide)];simp only[aS,aU,aP];rw[Jb _ _ _ _ _ _ (by decide)];simp only[aS,aU,aP,Ao,EH,aA];exact⟨_,_,rfl,fun h=>by simp at h⟩
  |some bs=>
   have hb:=VV enc _ bs ht hE;simp only[aS,aU,aP,Ao];rw[VO bs.length (gn enc) B F enc (by omega) (Jq enc) hM];cases hT:fy bs.length (gn enc) F with
   |none=>
    simp only[aS,aU,aP];rw[Jb _ _ _ _ _ _ (by decide)];simp only[aS,aU,aP,Ao,EH,aA];exact⟨_,_,rfl,fun h=>by simp at h⟩
   |some p=>
    simp only[aS,aU,aP];rw[Eu _ _ _ _ _ hM.1 (by omega)];simp only[aS,aU,aP,Ao,EH,aA];exact⟨_,_,rfl,fun _=>⟨rfl,VZ _ _ (by omega)⟩⟩
 ·have h11:t.Kind≠11:=by omega
  rw[ak h11,cq h11,aR];have dA:=qj hs h12;have hks:bw (t.Kids.getD 0 aa.zero)=true:=by rw[getD_lt dA];exact fh hs _ (bC _)
  have hkN:(t.Kids.getD 0 aa.zero).sz<=1048576:=by rw[getD_lt dA];have:=aa.cZ (a:=t) (bC dA);omega
  obtain⟨l8,hall⟩:=qi hf h12;have hsz:=Ac (t.Kids.getD 0 aa.zero);have hin:inB (0:Int) t.Kids.length=true:=by unfold inB;rw[aY (by omega),aY (by omega)];rfl
  have hmul:v.Kids.length*(lay (t.Kids.getD 0 aa.zero)).1<=8*(16*1048577):=Nat.mul_le_mul l8 (by omega);simp only[aa.aO,ae.aO,Int.toNat_zero,Ak _ hkN hks,Aj _ hkN hks,aS,aU,aP,hin];rw[<-Int.natCast_mul,wrap_i64 (by omega) (by omega),VO _ _ B F enc (by omega) (sd _) hM];have hr:=hr h12;generalize t.Kids.getD 0 aa.zero=kt at*;cases hT:fy (v.Kids.length*(lay kt).1) (lay kt).2 F with
  |none=>
   simp only[aS,aU,aP];rw[aiF kt v (hid kt) 0 4 B F (by decide) hkN hks l8];exact⟨_,_,rfl,fun h=>by simp at h⟩
  |some p=>
   obtain⟨g1,g2,g3⟩:=hst.take (sd kt) hT 0;obtain⟨n,hn⟩:=kD g2;simp only[aS,aU,aP];have:=aiD (rec:=rec) (f:=f) (enc:=enc) kt v n (B,p.2,0) g1 hkN hks l8 (by omega) hr;rw[hn];simp only at this;rw[this];simp only[cN,aA];exact⟨_,_,rfl,fun _=>⟨rfl,rfl⟩⟩
theorem V1{t:aa}(hs:bw t=true)(hN:t.sz<=1048576){n:Int}(hk:t.Kind=13\/t.Kind=14\/t.Kind=17)(h0:0<=n)(h1:n<((bB t).length:Int)):M.k7 t n=some (fG t n,true):=by
 have hkl:=aa.fi hN;by_cases h13:t.Kind=13
 ·have hc:bB t=[.mk 1 [] [] [],t.Kids.getD 0 aa.zero]:=by unfold bB;rw[av h13]
  have hn:n=0\/n=1:=by rw[hc]at h1;simp at h1;omega
  have hl:t.Kids.length=1:=((Ap hs).2.1 h13).1;rw[V2 t n h13 hl hn];unfold fG;rw[hc];rcases hn with rfl|rfl
  ·rfl
  ·rfl
 ·have hc:bB t=t.Kids:=by unfold bB;rw[ak h13]
  rw[V3 t n hkl h13];unfold fG;rw[hc]at h1⊢;rw[av ⟨h0,h1⟩]
theorem V4(enc:Int)(L:Nat):∀(m:Nat)(t:aa)(v:ae)(a:Nat)(st:bh),v.sz<m->t.sz<=1048576->bw t=true->ct v t=true->Inv L st->a+(lay t).1<=L->
 M.l4 m t v (a:Int) enc st.2.2 st.1 st.2.1=kL enc (dx enc m t v a st)
 |0,t,v,a,st,h,_,_,_,_,_=>absurd h (eB _)
 |m+1,t,v,a,st,hm,hN,hs,hf,hst,ha=>by
  have hL:=hst.le;have hid:∀(t:M.aa)(v:M.ae)(a c:Int)(B:List UInt8)(F:List af),c≠0->0<m->M.l4 m t v a enc c B F=some (enc,c,B,F):=fun t v a c B F hc hm0=>by
   obtain⟨k,rfl⟩:∃k,m=k+1:=⟨m-1,by omega⟩
   show M.pL (M.l4 k) t v a enc c B F=_
   unfold M.pL;have:(c !=0)=true:=by rw[qg];exact hc
   rw[this];rfl
  have ih:∀(t:aa)(v:ae)(a:Nat)(st:bh),v.sz<m->t.sz<=1048576->bw t=true->ct v t=true->Inv L st->a+(lay t).1<=L->
   M.l4 m t v (a:Int) enc st.2.2 st.1 st.2.1=kL enc (dx enc m t v a st)/\Inv L (dx enc m t v a st):=fun t v a st h1 h2 h3 h4 h5 h6=>
   ⟨V4 enc L m t v a st h1 h2 h3 h4 h5 h6,qk enc L m t v a st h3 h4 h5 h6⟩
  have hvk:∀w∈v.Kids,w.sz<m:=fun w hw=>by have:=ae.cZ (a:=v) hw;omega
  show M.pL (M.l4 m) t v (a:Int) enc st.2.2 st.1 st.2.1=kL enc (qh enc (dx enc m) t v a st)
  unfold M.pL qh;by_cases h0:st.2.2=0
  ·rw[ak (by simp[h0]),show(st.2.2 !=0)=false by rw[h0];rfl,aR];simp only[se];by_cases hp:t.Kind=11\/t.Kind=12
   ·rw[av hp];have hb:(t.Kind==11||t.Kind==12)=true:=by rcases hp with h|h<;>rw[h]<;>rfl
    rw[hb,aA];have dA:t.Kind=12->∀w∈v.Kids,∀a st,Inv L st->a+(lay (t.Kids.getD 0 aa.zero)).1<=L->M.l4 m (t.Kids.getD 0 aa.zero) w (a:Int) enc st.2.2 st.1 st.2.1=kL enc (dx enc m (t.Kids.getD 0 aa.zero) w a st)/\Inv L (dx enc m (t.Kids.getD 0 aa.zero) w a st):=fun h12 w hw a st hi hle=>by
     have hk0:=qj hs h12;rw[getD_lt hk0]at hle⊢;have hfw:=(qi hf h12).2 w hw;rw[getD_lt hk0]at hfw;exact ih _ w a st (hvk w hw) (by have:=aa.cZ (a:=t) (bC hk0);omega) (fh hs _ (bC _)) hfw hi hle
    obtain⟨x,y,e1,e2⟩:=V0 t v st h0 hst hN hs hf hp (fun t w hw a c B F hc=>hid t w a c B F hc (by have:=hvk w hw;omega)) dA;rw[aa.aO,ae.aO,e1];simp only[aS,aU,aP];rw[show(4:Int)=((4:Nat):Int)from rfl,sk x 4 (by omega),sk y 4 (by omega)];simp only[aS,aU,aP];have V5:eA (fixF x 4) (fixF y 4)=true:=by unfold eA;rw[bm,hZ,hZ];omega
    have hpi:Inv L (ed enc (dx enc m) t v st).2.2:=EG t v st hs hf hp hst fun h12 w hw a st hi hle=>(dA h12 w hw a st hi hle).2
    unfold EC;by_cases hc:(ed enc (dx enc m) t v st).2.2.2.2=0
    ·rw[ak (by simp[hc]),hc,Eu _ _ _ _ _ hpi.2.1 (by rw[cL,hZ,hZ];omega),V5];obtain⟨g1,g2⟩:=e2 hc;rw[g1,g2];rfl
    ·rw[av hc,Jb _ _ _ _ _ _ hc,V5];rfl
   ·rw[ak hp];have hb:(t.Kind==11||t.Kind==12)=false:=by rw[cq (fun e=>hp (.inl e)),cq (fun e=>hp (.inr e))];rfl
    rw[hb,aR];by_cases hp2:t.Kind=15\/t.Kind=16
    ·rw[av hp2];have hb:(t.Kind==15||t.Kind==16)=true:=by rcases hp2 with h|h<;>rw[h]<;>rfl
     rw[hb,aA];have hkl:=aa.fi hN;rw[VD (l:=t.Kids) (rec:=M.kq) (fun x hx=>Ak x (by have:=aa.cZ (a:=t) hx;omega) (fh hs x hx)) (fun x hx=>Aj x (by have:=aa.cZ (a:=t) hx;omega) (fh hs x hx)) hkl (aa.jk hN)];simp only[aS,aU,aP,ae.aO];obtain⟨hl,hall⟩:=xO hf hp2;rw[aiE (f:=dx enc m) (L:=L) t.Kids v (cE 0 1 (t.Kids.map lay)).1 a st hst hl (by rw[Ed];simp) hkl (fun k hk s hi=>by
      obtain⟨p,g1,g2⟩:=Jn t.Kids k hk;rw[Ai hp2]at ha;simp only at ha;have hfk:=hall k (by omega);rw[getD_lt hk]at hfk;refine⟨p,g1,by omega,?_⟩;rw[getD_lt hk,getD_lt (by omega:k<v.Kids.length)];exact ih _ _ _ s (hvk _ (bC _)) (by have:=aa.cZ (a:=t) (bC hk);omega) (fh hs _ (bC _)) hfk hi (by omega))]
     rfl
    ·rw[ak hp2];have hb:(t.Kind==15||t.Kind==16)=false:=by rw[cq (fun e=>hp2 (.inl e)),cq (fun e=>hp2 (.inr e))];rfl
     rw[hb,aR];by_cases hp3:t.Kind=13\/t.Kind=14\/t.Kind=17
     ·rw[av hp3];have hb:(t.Kind==13||(t.Kind==14||t.Kind==17))=true:=by rcases hp3 with h|h|h<;>rw[h]<;>rfl
      rw[hb,aA];obtain⟨n0,n1,hl1,hall⟩:=uL hs hf hp3;have hci:=Jm hs hp3 n0 n1;have f1:M.jf v.Num (1:Int)=some (fixF v.Num 1):=sk v.Num 1 (by omega);simp only[aa.aO,ae.aO,V1 hs hN hp3 n0 n1,VC t hN hs hp3,f1,h0,aS,aU,aP,Eu a (fixF v.Num 1) st.1 st.2.1 enc hst.2.1 (by rw[hZ];omega)];unfold EB;cases hk:v.Kids with
      |nil=>rfl
      |cons w r=>
       have hw:w∈v.Kids:=by rw[hk];exact fa ..
       have hi2:Inv L (eM a (fixF v.Num 1) st.1,st.2.1,0):=hst.write _ _ 0;obtain⟨g1,g2⟩:=ih (fG t v.Num) w (a+jl t) _ (hvk w hw) (by have:=kG hs hp3 _ (lF n0 n1);omega) (lD hs hp3 _ (lF n0 n1)) (hall w hw) hi2 (by omega);have hd:decide ((0:Int)<((w::r).length:Int))=true:=aY (by simp);have hin:inB (0:Int) (w::r).length=true:=by unfold inB;rw[aY (by omega),aY (by simp)];rfl
       rw[hd,aA];simp only[aa.aO,ae.aO,aS,aU,aP,hin,show(w::r).getD (Int.toNat 0) ae.zero=w from rfl];rw[wrap_i64 (n:=(a:Int)+(jl t:Int)) (by omega) (by omega),show((a:Int)+(jl t:Int))=((a+jl t:Nat):Int) by omega];simp only at g1;rw[g1];rfl
     ·rw[ak hp3];have hb:(t.Kind==13||(t.Kind==14||t.Kind==17))=false:=by rw[cq (fun e=>hp3 (.inl e)),cq (fun e=>hp3 (.inr (.inl e))),cq (fun e=>hp3 (.inr (.inr e)))];rfl
      rw[hb,aR,aa.aO,Ak t hN hs];simp only[aS,aU,aP];have h64:(lay t).1<=64:=by
       rcases Ei hs with k|k|k|k|k|k|k|k|k|k|k
       ·rw[Ag k];decide
       ·rw[Ek k];have:=I4 t.Kind;simp only;omega
       all_goals first|(exfalso;omega)|(rw[Em k];decide)|(rw[En k];split<;>decide)
      rw[sk v.Num _ h64,h0];simp only[aS,aU,aP];rw[Eu _ _ _ _ _ hst.2.1 (by rw[hZ];omega)];rfl
  ·have:(st.2.2 !=0)=true:=by rw[qg];exact h0
   rw[av h0,this];rfl
end
end M
namespace M
open Go Go.V
def j6(enc:Int)(st:bh):Option (List UInt8×Int×Int×List af):=some (st.1,enc,st.2.2,st.2.1)
abbrev aiG :=M.aa->M.ae->Int->List UInt8->Int->Int->List M.af->Option (List UInt8×Int×Int×List M.af)
theorem Inv.V6{L:Nat}{st:bh}(h:Inv L st):st.2.1.length<=4096:=h.2.len
theorem aiH(enc:Int)(he:1<=enc/\enc<=3):M.zw enc=some (gn enc:Int):=by
 have:enc=1\/enc=2\/enc=3:=by omega
 rcases this with h|h|h<;>subst h<;>rfl
theorem aiI(l:List aa)(hN:∀x∈l,x.sz<=1048576)(hs:∀x∈l,bw x=true)(hl:l.length<=1048576)(hz:aZ aa.sz l<=1048576):
 M.pD M.je l=some ((cE 0 1 (l.map lay)).1,((cY (cE 0 1 (l.map lay)).2.1 (cE 0 1 (l.map lay)).2.2:Nat):Int),((cE 0 1 (l.map lay)).2.2:Int)):=
 Vr (rec:=M.je) (fun x hx=>Eh x (hN x hx) (hs x hx)) hl hz
theorem aiJ(t:aa)(hN:t.sz<=1048576)(hs:bw t=true)(hk:t.Kind=13\/t.Kind=14\/t.Kind=17):M.wM t=some ((jl t:Nat):Int):=by
 unfold M.wM jl;have hkl:=aa.fi hN;rw[aa.aO,xI t hs hk];simp only[aS,aU,aP];rw[Vs (l:=bB t) (rec:=M.je) (fun x hx=>Eh x (by have:=kG hs hk x hx;omega) (lD hs hk x hx)) (Ad t hkl)];simp only[aS,aU,aP];rw[show(1:Int)=((1:Nat):Int)from rfl,xH 1 _ (Eo _) (by omega)];rfl
section
variable {rec :aiG}{f:aa->ae->Nat->bh->bh}{enc:Int}{L:Nat}
theorem V7(hid:∀t v a st,st.2.2≠0->f t v a st=st)(t:aa)(l:List ae)(p:Nat)(st:bh)(hst:Inv L st)(h8:l.length<=8)(hp:st.2.2=0->p+l.length*(lay t).1<=L)
 (hr:∀w∈l,∀a st,st.2.2=0->Inv L st->a+(lay t).1<=L->rec t w (a:Int) st.1 enc st.2.2 st.2.1=j6 enc (f t w a st)/\Inv L (f t w a st)):
 M.lX rec l ((lay t).1:Int) (l.length:Int) (p:Int) ah 0 st.1 enc st.2.2 t st.2.1=
   some ((l.length:Int),(p:Int),(fH f t (lay t).1 l p st).1,enc,(fH f t (lay t).1 l p st).2.2,(fH f t (lay t).1 l p st).2.1):=by
 have stay:∀(r:List ae)(a:Nat)(s:bh),s.2.2≠0->fH f t (lay t).1 r a s=s:=by
  intro r
  induction r with
  |nil=>intro a s _;rfl
  |cons v r ih=>intro a s hs;rw[fH,hid _ _ _ _ hs];exact ih _ _ hs
 have e:=j5 (F:=fun g i (s:bh)=>M.lX rec l ((lay t).1:Int) (l.length:Int) (p:Int) g i s.1 enc s.2.2 t s.2.1) l (by omega)
  (fun r s=>some ((l.length:Int),(p:Int),(fH f t (lay t).1 r (p+(l.length-r.length)*(lay t).1) s).1,enc,(fH f t (lay t).1 r (p+(l.length-r.length)*(lay t).1) s).2.2,(fH f t (lay t).1 r (p+(l.length-r.length)*(lay t).1) s).2.1))
  (fun k s=>Inv L s/\(s.2.2=0->p+l.length*(lay t).1<=L)) ?_ ?_ st ⟨hst,hp⟩
 ·simp only[oL,mQ,Nat.add_zero]at e;exact e
 ·rintro g k s hk ⟨hI,hle⟩ ih
  have hL:=hI.le
  show M.lX rec l ((lay t).1:Int) (l.length:Int) (p:Int) (g+1) (k:Int) s.1 enc s.2.2 t s.2.1=_
  rw[M.lX];by_cases h0:s.2.2=0
  ·have hle:=hle h0;have hmul:(k+1)*(lay t).1<=l.length*(lay t).1:=dr _ hk;rw[Nat.add_one_mul]at hmul;have ew:IntKind.wrap .i64 ((p:Int)+IntKind.wrap .i64 ((k:Int)*((lay t).1:Int)))=((p+k*(lay t).1:Nat):Int):=by
    rw[<-Int.natCast_mul,wrap_i64 (n:=((k*(lay t).1:Nat):Int)) (by omega) (by omega),wrap_i64 (by omega) (by omega)];omega
   obtain⟨h1,h2⟩:=hr l[k] (bC hk) (p+k*(lay t).1) s h0 hI (by omega);have hb:(s.2.2==0)=true:=by rw[h0];rfl
   simp only[cO,hk,cr,hb,aA,cN,getD_lt hk,cB,aP,bI,aa.aO,ae.aO,aS,aU,ew,h1,j6];rw[cm hk (by omega:l.length<2^62)];refine Eq.trans (ih _ ⟨h2,fun _=>hle⟩) ?_;have e1:l.length-(l[k]::l.drop (k+1)).length=k:=by rw[bQ,List.length_drop];omega
   have e2:l.length-(l.drop (k+1)).length=k+1:=by rw[List.length_drop];omega
   rw[e1,e2,Nat.add_one_mul,<-gJ];rfl
  ·rw[cq h0,Bool.and_false,aR,stay _ _ _ h0]
 ·rintro g s ⟨hI,-⟩
  show M.lX rec l ((lay t).1:Int) (l.length:Int) (p:Int) (g+1) (l.length:Int) s.1 enc s.2.2 t s.2.1=_
  rw[M.lX];simp[fH]
theorem V8(hid:∀t v a st,st.2.2≠0->f t v a st=st):∀(ts:List aa)(vs:List ae)(ps:List Int)(a:Nat)(s:bh),s.2.2≠0->jn f ts vs ps a s=s
 |[],_,_,a,s,_=>by unfold jn;rfl
 |t::ts,[],_,a,s,_=>by unfold jn;rfl
 |t::ts,v::vs,[],a,s,_=>by unfold jn;rfl
 |t::ts,v::vs,p::ps,a,s,h=>by rw[jn,hid _ _ _ _ h];exact V8 hid ts vs ps a s h
theorem aiK(hid:∀t v a st,st.2.2≠0->f t v a st=st)(ts:List aa)(vs:List ae)(ps:List Int)(a:Nat)(st:bh)(hst:Inv L st)(hl:ts.length=vs.length)(hp:ps.length=ts.length)(h8:ts.length<=1048576)
 (hr:∀k (hk:k<ts.length) (st:bh),st.2.2=0->Inv L st->∃q:Nat,ps.getD k 0=(q:Int)/\a+q<=4096/\rec (ts.getD k aa.zero) (vs.getD k ae.zero) ((a+q:Nat):Int) st.1 enc st.2.2 st.2.1=j6 enc (f (ts.getD k aa.zero) (vs.getD k ae.zero) (a+q) st)/\Inv L (f (ts.getD k aa.zero) (vs.getD k ae.zero) (a+q) st)):
 M.nW rec ts vs (a:Int) ps ah 0 st.1 enc st.2.2 st.2.1=j6 enc (jn f ts vs ps a st):=by
 have e:=j5 (F:=fun g i (s:bh)=>M.nW rec ts vs (a:Int) ps g i s.1 enc s.2.2 s.2.1) ts (by omega)
  (fun r s=>j6 enc (jn f r (vs.drop (ts.length-r.length)) (ps.drop (ts.length-r.length)) a s))
  (fun k s=>Inv L s) ?_ ?_ st hst
 ·simp only[oL,ej]at e;exact e
 ·intro g k s hk hI ih
  show M.nW rec ts vs (a:Int) ps (g+1) (k:Int) s.1 enc s.2.2 s.2.1=_
  rw[M.nW];by_cases h0:s.2.2=0
  ·obtain⟨q,hq,hle,h1,h2⟩:=hr k hk s h0 hI;have hkv:k<vs.length:=by omega
   have hkp:k<ps.length:=by omega
   have ew:IntKind.wrap .i64 ((a:Int)+(q:Int))=((a+q:Nat):Int):=by rw[wrap_i64 (by omega) (by omega)];omega
   have hb:(s.2.2==0)=true:=by rw[h0];rfl
   simp only[cO,hk,cr,hb,aA,cN,cB,hkv,hkp,aP,bI,aa.aO,ae.aO,hq,ew,h1,j6,aS,aU];rw[cm hk (by omega:ts.length<2^62)];refine Eq.trans (ih _ h2) ?_;have e1:ts.length-(ts[k]::ts.drop (k+1)).length=k:=by rw[bQ,List.length_drop];omega
   have e2:ts.length-(ts.drop (k+1)).length=k+1:=by rw[List.length_drop];omega
   rw[e1,e2,dX hkv,dX hkp];have hq':ps[k]=(q:Int):=by rw[<-hq,getD_lt hkp]
   rw[getD_lt hk,getD_lt hkv]
   show j6 enc _=j6 enc (jn f (ts.drop (k+1)) (vs.drop (k+1)) (ps.drop (k+1)) a (f ts[k] vs[k] (a+(ps[k]).toNat) s))
   rw[hq',cN]
  ·rw[cq h0,Bool.and_false,aR,V8 hid _ _ _ _ _ h0];rfl
 ·intro g s hI
  show M.nW rec ts vs (a:Int) ps (g+1) (ts.length:Int) s.1 enc s.2.2 s.2.1=_
  rw[M.nW];simp[jn,j6]
theorem aiL(s B:List UInt8)(F:List af)(he:1<=enc/\enc<=3)(ht:gm s=true)(hM:ix B F):
 ∃x y:Int,M.rD s B enc 0 F=some (x,y,(match md enc s with
  |none=>(B,enc,19,F)
  |some bs=>match fy bs.length (gn enc) F with
   |none=>(B,enc,4,F)
   |some p=>(eM p.1 bs B,enc,0,p.2)))/\∀bs p,md enc s=some bs->fy bs.length (gn enc) F=some p->x=p.1/\y=((bs.length/gn enc:Nat):Int):=by
 unfold M.rD;rw[aiB enc s ht];cases hE:md enc s with
 |none=>exact⟨0,0,rfl,fun bs p h=>by cases h⟩
 |some bs=>
  have hb:=VV enc _ bs ht hE;simp only[aS,aU,aP,show((0:Int) !=0)=false from rfl,aR,aiH enc he];rw[VQ bs.length (gn enc) B F enc 0 (by omega) (Jq enc) hM];cases hT:fy bs.length (gn enc) F with
  |none=>exact⟨0,0,rfl,fun bs' p h h2=>by simp only[ar]at h;subst h;rw[hT]at h2;cases h2⟩
  |some p=>
   simp only[aS,aU,aP,show((0:Int) !=0)=false from rfl,uM];have hI:Inv B.length (B,F,(0:Int)):=⟨rfl,hM⟩;obtain⟨g1,g2,g3⟩:=hI.take (Jq enc) hT 0;by_cases hn:bs=[]
   ·subst hn;simp only[mc,aA,VH];refine⟨p.1,0,rfl,fun bs' p' h h2=>?_⟩;simp only[ar]at h;subst h;rw[hT]at h2;simp only[ar]at h2;subst h2;exact⟨rfl,by simp⟩
   ·have hne:(bs==[])=false:=by rw[kF];exact hn
    have hF:=(show ix B p.2 from g1.2).len;rw[hne,aR,VK p.1 bs B p.2 hM.1 (by omega) (by omega),av ⟨g2,g3⟩];simp only[aS,aU,aP,EH,aA];refine⟨p.1,_,rfl,fun bs' p' h h2=>?_⟩;simp only[ar]at h;subst h;rw[hT]at h2;simp only[ar]at h2;subst h2;exact⟨rfl,VZ _ _ (by omega)⟩
theorem V9(hid:∀t v a st,st.2.2≠0->f t v a st=st)(t:aa)(v:ae)(st:bh)(he:1<=enc/\enc<=3)(h0:st.2.2=0)(hst:Inv L st)(hN:t.sz<=1048576)(hs:bw t=true)(hf:ct v t=true)(hk:t.Kind=11\/t.Kind=12)
 (hr:t.Kind=12->∀w∈v.Kids,∀a st,st.2.2=0->Inv L st->a+(lay (t.Kids.getD 0 aa.zero)).1<=L->rec (t.Kids.getD 0 aa.zero) w (a:Int) st.1 enc st.2.2 st.2.1=j6 enc (f (t.Kids.getD 0 aa.zero) w a st)/\Inv L (f (t.Kids.getD 0 aa.zero) w a st)):
 ∃x y:Int,M.rE rec t v st.1 enc st.2.2 st.2.1=some (x,y,(ed enc f t v st).2.2.1,enc,(ed enc f t v st).2.2.2.2,(ed enc f t v st).2.2.2.1)/\
  ((ed enc f t v st).2.2.2.2=0->x=(ed enc f t v st).1/\y=(ed enc f t v st).2.1):=by
 obtain⟨B,F,c⟩:=st;simp only at h0;subst h0;have hM:ix B F:=hst.2;unfold M.rE ed;rcases hk with h11|h12
 ·rw[av h11,h11];simp only[mc,aA];have ht:=(Jk hf).2.2;obtain⟨x,y,e1,e2⟩:=aiL v.Text B F he ht hM;rw[e1];cases hE:md enc v.Text with
  |none=>exact⟨x,y,rfl,fun h=>by simp at h⟩
  |some bs=>
   cases hT:fy bs.length (gn enc) F with
   |none=>
    refine⟨x,y,?_,fun h=>?_⟩
    ·simp only[hT];rfl
    ·simp only[hT]at h;simp at h
   |some p=>
    refine⟨x,y,?_,fun h=>?_⟩
    ·simp only[hT];rfl
    ·simp only[hT];exact e2 bs p hE hT
 ·have h11:t.Kind≠11:=by omega
  rw[ak h11,cq h11,aR];have dA:=qj hs h12;have hks:bw (t.Kids.getD 0 aa.zero)=true:=by rw[getD_lt dA];exact fh hs _ (bC _)
  have hkN:(t.Kids.getD 0 aa.zero).sz<=1048576:=by rw[getD_lt dA];have:=aa.cZ (a:=t) (bC dA);omega
  obtain⟨l8,hall⟩:=qi hf h12;have hsz:=Ac (t.Kids.getD 0 aa.zero);have hin:inB (0:Int) t.Kids.length=true:=by unfold inB;rw[aY (by omega),aY (by omega)];rfl
  have hmul:v.Kids.length*(lay (t.Kids.getD 0 aa.zero)).1<=8*(16*1048577):=Nat.mul_le_mul l8 (by omega);simp only[aa.aO,ae.aO,Int.toNat_zero,hin,aP];have hr:=hr h12;generalize t.Kids.getD 0 aa.zero=kt at*;have key:∃x:Int,M.tW rec kt v.Kids B enc 0 F=some (x,(v.Kids.length:Int),(match fy (v.Kids.length*(lay kt).1) (lay kt).2 F with
   |none=>(B,enc,4,F)
   |some p=>((fH f kt (lay kt).1 v.Kids p.1.toNat (B,p.2,0)).1,enc,(fH f kt (lay kt).1 v.Kids p.1.toNat (B,p.2,0)).2.2,(fH f kt (lay kt).1 v.Kids p.1.toNat (B,p.2,0)).2.1)))/\∀p,fy (v.Kids.length*(lay kt).1) (lay kt).2 F=some p->x=p.1:=by
   unfold M.tW;rw[aa.aO,Eh kt hkN hks];simp only[aS,aU,aP];rw[<-Int.natCast_mul,wrap_i64 (by omega) (by omega),VQ _ _ B F enc 0 (by omega) (sd _) hM];cases hT:fy (v.Kids.length*(lay kt).1) (lay kt).2 F with
   |none=>
    simp only[aS,aU,aP];have:=V7 (rec:=rec) (f:=f) (enc:=enc) (L:=L) hid kt v.Kids 0 (B,F,4) (hst.code 4) l8 (fun h=>by simp at h) hr;simp only[Int.natCast_zero]at this;have stay:∀(r:List ae)(a:Nat)(s:bh),s.2.2≠0->fH f kt (lay kt).1 r a s=s:=by
     intro r
     induction r with
     |nil=>intro a s _;rfl
     |cons v r ih=>intro a s hs;rw[fH,hid _ _ _ _ hs];exact ih _ _ hs
    rw[stay _ _ _ (by simp)]at this;rw[this];exact⟨0,rfl,fun p h=>by cases h⟩
   |some p=>
    obtain⟨g1,g2,g3⟩:=hst.take (sd kt) hT 0;obtain⟨n,hn⟩:=kD g2;simp only[aS,aU,aP];have:=V7 (rec:=rec) (f:=f) (enc:=enc) (L:=L) hid kt v.Kids n (B,p.2,0) g1 l8 (fun _=>by omega) hr;rw[hn];simp only at this;rw[this];simp only[cN,aA];exact⟨_,rfl,fun p' h=>by simp only[ar]at h;subst h;exact hn.symm⟩
  obtain⟨x,e1,e2⟩:=key;rw[e1];cases hT:fy (v.Kids.length*(lay kt).1) (lay kt).2 F with
  |none=>exact⟨x,_,rfl,fun h=>by simp at h⟩
  |some p=>exact⟨x,_,rfl,fun _=>⟨e2 p hT,rfl⟩⟩
end
theorem Wa(enc:Int)(he:1<=enc/\enc<=3)(L:Nat):∀(m:Nat)(t:aa)(v:ae)(a:Nat)(st:bh),v.sz<m->t.sz<=1048576->bw t=true->ct v t=true->st.2.2=0->Inv L st->a+(lay t).1<=L->
 M.rF m t v (a:Int) st.1 enc st.2.2 st.2.1=j6 enc (dx enc m t v a st)
 |0,t,v,a,st,h,_,_,_,_,_,_=>absurd h (eB _)
 |m+1,t,v,a,st,hm,hN,hs,hf,h0,hst,ha=>by
  have hL:=hst.le;have hFl:=hst.V6;have ih:∀(t:aa)(v:ae)(a:Nat)(st:bh),v.sz<m->t.sz<=1048576->bw t=true->ct v t=true->st.2.2=0->Inv L st->a+(lay t).1<=L->
   M.rF m t v (a:Int) st.1 enc st.2.2 st.2.1=j6 enc (dx enc m t v a st)/\Inv L (dx enc m t v a st):=fun t v a st h1 h2 h3 h4 h5 h6 h7=>
   ⟨Wa enc he L m t v a st h1 h2 h3 h4 h5 h6 h7,qk enc L m t v a st h3 h4 h6 h7⟩
  have hvk:∀w∈v.Kids,w.sz<m:=fun w hw=>by have:=ae.cZ (a:=v) hw;omega
  show M.zz (M.rF m) t v (a:Int) st.1 enc st.2.2 st.2.1=j6 enc (qh enc (dx enc m) t v a st)
  unfold M.zz qh;rw[ak (by simp[h0])];simp only[se];by_cases h1:t.Kind=1
  ·have hn:¬(t.Kind=11\/t.Kind=12)/\¬(t.Kind=15\/t.Kind=16)/\¬(t.Kind=13\/t.Kind=14\/t.Kind=17):=by omega
   rw[ak hn.1,ak hn.2.1,ak hn.2.2,h1,Ag h1];simp only[mc,aA,fixF,VH,j6,h0]
  rw[cq h1,aR];by_cases hp:t.Kind=11\/t.Kind=12
  ·rw[av hp];have hb:(t.Kind==11||t.Kind==12)=true:=by rcases hp with h|h<;>rw[h]<;>rfl
   rw[hb,aA];have dA:t.Kind=12->∀w∈v.Kids,∀a st,st.2.2=0->Inv L st->a+(lay (t.Kids.getD 0 aa.zero)).1<=L->M.rF m (t.Kids.getD 0 aa.zero) w (a:Int) st.1 enc st.2.2 st.2.1=j6 enc (dx enc m (t.Kids.getD 0 aa.zero) w a st)/\Inv L (dx enc m (t.Kids.getD 0 aa.zero) w a st):=fun h12 w hw a st hz hi hle=>by
    have hk0:=qj hs h12;rw[getD_lt hk0]at hle⊢;have hfw:=(qi hf h12).2 w hw;rw[getD_lt hk0]at hfw;exact ih _ w a st (hvk w hw) (by have:=aa.cZ (a:=t) (bC hk0);omega) (fh hs _ (bC _)) hfw hz hi hle
   obtain⟨x,y,e1,e2⟩:=V9 (fun t v a st h=>Jo enc m t v a st h) t v st he h0 hst hN hs hf hp dA;have hpi:Inv L (ed enc (dx enc m) t v st).2.2:=EG t v st hs hf hp hst fun h12 w hw a st hi hle=>by
    have hk0:=qj hs h12;rw[getD_lt hk0]at hle⊢;have hfw:=(qi hf h12).2 w hw;rw[getD_lt hk0]at hfw;exact qk enc L m _ w a st (fh hs _ (bC _)) hfw hi hle
   rw[aa.aO,ae.aO,e1];simp only[aS,aU,aP];unfold EC;by_cases hc:(ed enc (dx enc m) t v st).2.2.2.2=0
   ·obtain⟨g1,g2⟩:=e2 hc;rw[ak (by simp[hc]),hc,g1,g2];simp only[mc,aA];have hlen:(ed enc (dx enc m) t v st).2.2.1.length=L:=hpi.1;have hfl:=hpi.V6;rw[show(4:Int)=((4:Nat):Int)from rfl,Ew _ _ 4 _ _ _ _ hpi.2.1 (by omega) (by omega)];simp only[aS,aU,aP];rw[wrap_i64 (n:=(a:Int)+((4:Nat):Int)) (by omega) (by omega),Ew _ _ 4 _ _ _ _ (by rw[VG];exact hpi.2.1) (by omega) (by omega)];simp only[aS,aU,aP,aA];have h8:(lay t).1=8:=by rw[Ah hp]
    have:=aie (a:Int) (fixF (ed enc (dx enc m) t v st).1 4) (fixF (ed enc (dx enc m) t v st).2.1 4) (ed enc (dx enc m) t v st).2.2.1 (by omega) (by rw[hZ,hZ,hlen];omega);rw[hZ]at this;rw[this];rfl
   ·rw[av hc,cq hc];rfl
  ·rw[ak hp];have hb:(t.Kind==11||t.Kind==12)=false:=by rw[cq (fun e=>hp (.inl e)),cq (fun e=>hp (.inr e))];rfl
   rw[hb,aR];by_cases hp2:t.Kind=15\/t.Kind=16
   ·rw[av hp2];have hb:(t.Kind==15||t.Kind==16)=true:=by rcases hp2 with h|h<;>rw[h]<;>rfl
    rw[hb,aA];have hkl:=aa.fi hN;unfold M.zy;rw[aiI t.Kids (fun x hx=>by have:=aa.cZ (a:=t) hx;omega) (fh hs) hkl (aa.jk hN)];simp only[aS,aU,aP];obtain⟨hl,hall⟩:=xO hf hp2;rw[aiK (f:=dx enc m) (L:=L) (fun t v a st h=>Jo enc m t v a st h) t.Kids v.Kids (cE 0 1 (t.Kids.map lay)).1 a st hst hl (by rw[Ed];simp) hkl (fun k hk s hz hi=>by
     obtain⟨p,g1,g2⟩:=Jn t.Kids k hk;rw[Ai hp2]at ha;simp only at ha;have hfk:=hall k (by omega);rw[getD_lt hk]at hfk;refine⟨p,g1,by omega,?_⟩;rw[getD_lt hk,getD_lt (by omega:k<v.Kids.length)];exact ih _ _ _ s (hvk _ (bC _)) (by have:=aa.cZ (a:=t) (bC hk);omega) (fh hs _ (bC _)) hfk hz hi (by omega))]
    rfl
   ·rw[ak hp2];have hb:(t.Kind==15||t.Kind==16)=false:=by rw[cq (fun e=>hp2 (.inl e)),cq (fun e=>hp2 (.inr e))];rfl
    rw[hb,aR];by_cases hp3:t.Kind=13\/t.Kind=14\/t.Kind=17
    ·rw[av hp3];have hb:(t.Kind==13||(t.Kind==14||t.Kind==17))=true:=by rcases hp3 with h|h|h<;>rw[h]<;>rfl
     rw[hb,aA];obtain⟨n0,n1,hl1,hall⟩:=uL hs hf hp3;have hci:=Jm hs hp3 n0 n1;have f1:M.mI (a:Int) v.Num (1:Int) st.1 enc st.2.2 st.2.1=some (eM a (fixF v.Num 1) st.1,enc,st.2.2,st.2.1):=Ew a v.Num 1 st.1 st.2.1 enc st.2.2 hst.2.1 (by omega) (by omega);obtain⟨nn,hnn⟩:=kD n0;have hin2:inB v.Num (bB t).length=true:=by unfold inB;rw[aY n0,aY n1];rfl
     simp only[aa.aO,ae.aO,xI t hs hp3,aiJ t hN hs hp3,f1,aS,aU,aP,hin2,bI];unfold EB;cases hk:v.Kids with
     |nil=>simp only[h0];rfl
     |cons w r=>
      have hw:w∈v.Kids:=by rw[hk];exact fa ..
      have hi2:Inv L (eM a (fixF v.Num 1) st.1,st.2.1,0):=hst.write _ _ 0;obtain⟨g1,g2⟩:=ih (fG t v.Num) w (a+jl t) _ (hvk w hw) (by have:=kG hs hp3 _ (lF n0 n1);omega) (lD hs hp3 _ (lF n0 n1)) (hall w hw) rfl hi2 (by omega);have hd:decide ((0:Int)<((w::r).length:Int))=true:=aY (by simp);have hin:inB (0:Int) (w::r).length=true:=by unfold inB;rw[aY (by omega),aY (by simp)];rfl
      rw[hd,aA];have hty:(bB t).getD v.Num.toNat aa.zero=fG t v.Num:=rfl;rw[hty];simp only[aS,aU,aP,hin,show(w::r).getD (Int.toNat 0) ae.zero=w from rfl,h0];rw[wrap_i64 (n:=(a:Int)+(jl t:Int)) (by omega) (by omega),show((a:Int)+(jl t:Int))=((a+jl t:Nat):Int) by omega];simp only at g1;rw[g1];rfl
    ·rw[ak hp3];have hb:(t.Kind==13||(t.Kind==14||t.Kind==17))=false:=by rw[cq (fun e=>hp3 (.inl e)),cq (fun e=>hp3 (.inr (.inl e))),cq (fun e=>hp3 (.inr (.inr e)))];rfl
     rw[hb,aR,aa.aO,Eh t hN hs];simp only[aS,aU,aP];have h64:(lay t).1<=8:=by
      rcases Ei hs with k|k|k|k|k|k|k|k|k|k|k
      ·rw[Ag k];decide
      ·rw[Ek k];have:=I4 t.Kind;simp only;omega
      all_goals first|(exfalso;omega)|(rw[Em k];decide)|(rw[En k];split<;>decide)
     rw[Ew _ _ _ _ _ _ _ hst.2.1 (by omega) h64];simp only[aS,aU,aP,aA,h0];rfl
end M
namespace M
open Go Go.V
theorem Aq{t:aa}(h:fm t=true):bw t=true:=by
 unfold fm at h;rw[aW]at h;exact h.2
def j7(enc:Int):Bool:=decide ((1:Int)<=enc)&&decide (enc<=3)
theorem aiM{enc:Int}:j7 enc=true↔1<=enc/\enc<=3:=by unfold j7;rw[aW,bm,bm]
theorem aiN(v:ae)(t:aa)(hv:v.sz<=1048576)(ht:t.sz<=1048576):M.rq v t=some (fm t&&ct v t):=by
 unfold M.rq;rw[aa.aO,ae.aO,aiO t ht];cases ho:fm t with
 |false=>simp
 |true=>
  have e:M.Cj v t=some (ct v t):=Wb ah v t (fj hv) hv ht (Aq ho);rw[e];simp
theorem aiP(v:ae)(t:aa)(hv:v.sz<=1048576)(ht:t.sz<=1048576)(ho:fm t=true):M.CH v t=some (ct v t):=Wc ah v t (fj hv) hv ht (Aq ho)
theorem aiQ(l:List aa)(hl:l.length<=1048576)(hz:∀x∈l,x.sz<=1048576):M.wU l=some (decide (l.length<=24)&&l.all fm):=by
 have c:∀x∈l,M.wS x=some (!fm x):=fun x hx=>by
  unfold M.wS;rw[aa.aO,aiR x (hz x hx)];rfl
 have e:=contains_of (p:=fun x=> !fm x) (F:=M.tX l (l.length:Int)) l (by omega) (fun f k hk=>by
  rw[M.tX];simp only[aa.aO,getD_lt hk,c _ (bC hk),cN,cB,cO,hk,cr,aA,gR,bI,aP,cm hk (by omega:l.length<2^62),aS,aU]) (fun f=>by
  rw[M.tX];simp)
 have e2:M.zA l=_:=e;have e3:M.wT l=some (!l.all fm):=by
  unfold M.wT;rw[e2];simp only[aS,aU,aP,aA];rw[index_ge,Jr]
 unfold M.wU;rw[e3];have d:decide ((l.length:Int)<=24)=decide (l.length<=24):=by congr 1;exact propext ⟨fun h=>by omega,fun h=>by omega⟩
 rw[d];simp
def Ar(m:aB)(enc:Int)(l:List aa):Bool:=((gV m.Bytes m.Free&&j7 enc)&&decide (l.length<=6))&&l.all fm
theorem aiS(m:aB)(enc:Int)(l:List aa)(hB:m.Bytes.length<=1048576)(hF:m.Free.length<=1048576)(hl:l.length<=1048576)(hz:∀x∈l,x.sz<=1048576):M.wV m enc l=some (Ar m enc l):=by
 unfold M.wV Ar;rw[aiQ l hl hz,aii m hB hF];have d:decide ((l.length:Int)<=6)=decide (l.length<=6):=by congr 1;exact propext ⟨fun h=>by omega,fun h=>by omega⟩
 rw[d];simp only[aS,aU,gR,aP,aA];congr 1;show(((gV m.Bytes m.Free&&j7 enc)&&decide (l.length<=6))&&(decide (l.length<=24)&&l.all fm))=_
 by_cases h:l.length<=6
 ·rw[aY (by omega:l.length<=24),bI]
 ·rw[bU h,Bool.and_false,mY,mY]
theorem aiT(m:aB)(enc:Int)(hB:m.Bytes.length<=1048576)(hF:m.Free.length<=1048576):M.rA m enc=some (gV m.Bytes m.Free&&j7 enc):=by
 unfold M.rA;rw[aij m hB hF];rfl
def aiU(m:aB)(t:aa)(a:Int):Bool:=(Int.tmod a ((lay t).2:Int)==0)&&decide (0<=a/\a+(lay t).1<=m.Bytes.length)
def aiV(s:bh):List UInt8×Int×List af:=if s.2.2≠0 then([],s.2.2,[])else(s.1,0,s.2.1)
noncomputable def anw(m:aB)(enc:Int)(t:aa)(v:ae)(a:Int):List UInt8×Int×List af:=
 if((gV m.Bytes m.Free&&j7 enc)&&(fm t&&ct v t))=true then
  (if aiU m t a=true then aiV (dx enc ah t v a.toNat (m.Bytes,m.Free,0))else([],10,[]))
 else([],1,[])
theorem We(F:List af)(h:F.length<=1048576):M.mJ F=some F:=by
 unfold M.mJ;rw[aY h];rfl
theorem aiW(m:aB)(hM:ix m.Bytes m.Free):M.wW m=some (m.Bytes,m.Free):=by
 unfold M.wW;have h1:=hM.len;have h2:=hM.1;rw[We _ (by omega),aY (by omega)];simp
theorem aiX(B:List UInt8)(F:List af)(hM:ix B F):M.xc (M.hC.mk B F)=some (B,F):=by
 unfold M.xc;have h1:=hM.len;show(let q0:=M.mJ F;_)=_
 rw[We _ (by omega)];simp
end M
