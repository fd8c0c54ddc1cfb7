/-
  STREAMS: the reference's copies, its reads, writes and ends.
-/
import Derived.Test.YtbeijibjinbgcaaGreatDoorXHU
import Derived.Test.YtbeijibjinbgcaaGreatDoorXHpl5
import Derived.Test.YtbeijibjinbgcaaGreatDoorXHV
import Derived.Test.YtbeijibjinbgcaaGreatDoorXHK
set_option linter.unusedVariables false
set_option linter.unusedSimpArgs false
namespace M
open Go.V (inB cC an cJ)
theorem wX{α β Y:Type}{F:Nat->Int->List β->Option Y}{h:List β->Option Y}(g:α->β)(l:List α)(hn:l.length<=1048576)(wY:List β)
 (step:∀f k out,∀hk:k<l.length,out.length=wY.length+k->F (f+1) (k:Int) out=F f ((k+1:Nat):Int) (out++[g l[k]]))
 (stop:∀f out,F (f+1) (l.length:Int) out=h out):F an 0 wY=h (wY++l.map g):=by
 have key:∀f k out,k<=l.length->l.length-k<f->out.length=wY.length+k->F f (k:Int) out=h (out++(l.drop k).map g):=by
  intro f
  induction f with
  |zero=>intro k out h1 h2;omega
  |succ f ih=>
   intro k out h1 h2 ho;rcases fY k l.length with hk|hk
   ·rw[step f k out hk ho,ih (k+1) _ (by omega) (by omega) (by simp[ho];omega),jZ hk];simp only[gj,nX,List.singleton_append]
   ·have:k=l.length:=by omega
    subst this;rw[stop,jC];simp
 have:=key an 0 wY (dJ _) (by have:=cJ;omega) rfl;simpa using this
theorem zr{a b:Nat}(h:a+b<=1073741824):decide (a+b<=1073741824)=true:=by rw[bC];exact h
theorem Ku:∀(m:Nat)(t:aa),t.sz<m->t.sz<=1048576->M.nY m t=some t
 |0,t,h,_=>absurd h (lx _)
 |m+1,t,h,hN=>by
  have hl:=aa.iv hN;have hlb:=aa.Kv hN;have key:∀f k,k<=t.Kids.length->t.Kids.length-k<f->M.nZ (M.nY m) (0:Int) [] t.Kind t.Name [] [] ([]++t.bY) f (k:Int) t (t.Kids.take k)=some ((0:Int),[],t.Kind,t.Name,[],[],t.bY,t.Kids):=by
   intro f
   induction f with
   |zero=>intro k h1 h2;omega
   |succ f ih=>
    intro k h1 h2;rcases fY k t.Kids.length with hk|hk
    ·rw[M.nZ];have hx:=aa.iw (cn hk);have hd:decide (((t.Kids.take k).length+([t.Kids[k]]:List aa).length)<=1073741824)=true:=by
      simp only[bC,jY,cr,hU];omega
     have ht:t.Kids.take k++[t.Kids[k]]=t.Kids.take (k+1):=by
      rw[jG,bW hk];rfl
     simp only[aa.aG,getD_lt hk,Ku m t.Kids[k] (by omega) (by omega),bV,ct,dY,hk,cI,aE,bJ,aD,bN hk (by omega:t.Kids.length<2^62),aQ,bf,hd,ht];exact ih (k+1) (by omega) (by omega)
    ·have:k=t.Kids.length:=by omega
     subst this;rw[M.nZ];simp
  show M.wZ (M.nY m) t=_
  unfold M.wZ;have e:=key an 0 (dJ _) (by have:=cJ;omega);have e':M.nZ (M.nY m) (0:Int) [] t.Kind t.Name [] [] ([]++t.bY) an 0 t []=_:=e;have hd:decide (0+t.bY.length<=1073741824)=true:=by simp only[bC];omega
  simp only[aa.aG,e',hd,bn,aE];cases t;rfl
theorem Kw:∀(m:Nat)(v:af),v.sz<m->v.sz<=1048576->M.mE m v=some v
 |0,v,h,_=>absurd h (lx _)
 |m+1,v,h,hN=>by
  have hs:=af.cT v;have hkk:=di af.sz v.Kids
  show M.w8 (M.mE m) v=_
  unfold M.w8;have e:=wX (F:=fun f i o=>M.mF (M.mE m) 0 0 [] v.Kind v.Num v.Text [] f i v o) (h:=fun o=>some ((0:Int),(0:Int),([]:List UInt8),v.Kind,v.Num,v.Text,([]:List af),o)) id v.Kids (by omega) [] (fun f k out hk ho=>by
   have hmem:=dX af.sz v.Kids v.Kids[k] (cn hk);have hpos:=oa af.sz v.Kids v.Kids[k] (cn hk)
   show M.mF (M.mE m) 0 0 [] v.Kind v.Num v.Text [] (f+1) (k:Int) v out=_
   rw[M.mF];have e:=Kw m v.Kids[k] (by omega) (by omega);have hc:=zr (a:=out.length) (b:=1) (by simp at ho;omega);simp only[af.aG,dY,hk,cI,aE,bV,getD_lt hk,e,ct,bf,aQ,cr,hU,kW,hc,bJ,aD,bN hk (dP (show v.Kids.length<=1048576 by omega)),id]) (fun f out=>by
   show M.mF (M.mE m) 0 0 [] v.Kind v.Num v.Text [] (f+1) (v.Kids.length:Int) v out=_
   rw[M.mF];simp)
  simp only[List.map_id,kz]at e;rw[af.aG,e];exact fF some (af.eta v)
theorem Yc(v:af)(h:v.sz<=1048576):M.zt v=some v:=Kw _ v (by have:=cJ;omega) h
theorem w9(l:List af)(h:aR af.sz l<=1048576):M.j0 l=some l:=by
 have hl:=di af.sz l;unfold M.j0;rw[wX (F:=M.qn l) (h:=some) id l (by omega) [] (fun f k out hk ho=>by
  rw[M.qn];have e:=Yc l[k] (fh (dX af.sz l l[k] (cn hk)) h);have hc:=zr (a:=out.length) (b:=1) (by simp at ho;omega);simp only[af.aG,dY,hk,cI,aE,bV,getD_lt hk,e,ct,bf,aQ,cr,hU,kW,hc,bJ,aD,bN hk (dP (show l.length<=1048576 by omega)),id]) (fun f out=>by rw[M.qn];simp)]
 simp
theorem ae.eta(s:ae):ae.mk s.cq s.Room s.cR s.Buffer s.Put s.dz s.Shut s.Gone=s:=rfl
theorem Yd(s:ae)(h:s.sz<=1048576):M.sR s=some s:=by
 unfold M.sR;have e:=Ku an s.cq (by have:=ae.sS h;have:=cJ;omega) (ae.sS h);have e':M.zu s.cq=some s.cq:=e;simp only[aa.aG,w9 _ (ae.sU h),e',bf,aQ,bJ,aD,aE]
def Kx:ae:=ae.mk (aa.mk 0 [] [] []) 0 false [] 0 0 false false
theorem Ye{α:Type}(f:α->Nat)(a b:List α):aR f (a++b)=aR f a+aR f b:=by
 induction a with
 |nil=>simp[aR]
 |cons x r ih=>simp only[sZ,aR,ih];omega
theorem Ky{α:Type}(f:α->Nat)(n:Nat)(l:List α):aR f (l.take n)+aR f (l.drop n)=aR f l:=by
 rw[<-Ye,List.take_append_drop]
def j4(s:ae)(most:Int):Nat:=min most.toNat s.Buffer.length
theorem Yf(s:ae)(most:Int)(h:1<=most):M.jd most (s.Buffer.length:Int)=some (j4 s most:Int):=by
 unfold M.jd j4;by_cases c:most<(s.Buffer.length:Int)
 ·rw[cy c,aE];congr 1;omega
 ·rw[dj c,aZ];congr 1;omega
theorem Kz(s:ae)(most:Int):j4 s most<=s.Buffer.length:=by unfold j4;omega
theorem KA{a b n:Nat}(h1:a<=b)(h2:b<=n):cC (a:Int) (b:Int) n=true:=by
 unfold cC;simp only[bk,bC];omega
theorem KB{b n:Nat}(h2:b<=n):cC (0:Int) (b:Int) n=true:=KA (a:=0) (dJ _) h2
def mG(s:ae):Int:=if s.cR then 1 else 1000000
theorem Yg(s:ae):M.kC s=some (mG s):=by unfold M.kC mG;cases s.cR<;>rfl
theorem KC(s:ae):M.mH s=some (mG s):=by unfold M.mH mG;cases s.cR<;>rfl
theorem Yh{s:ae}(h:stB s=true):lC s.cq=true/\1<=s.Room/\s.Room<=6/\(s.Buffer.length:Int)<=s.Room/\qo s=true/\0<=s.dz/\s.dz<=s.Put/\s.Put<=1000000:=by
 unfold stB at h;simp only[bk,bC,eQ,fO]at h;have hp:s.Put<=1000000:=by
  have:=h.1.2.1.2.2;cases hf:s.cR<;>simp[hf]at this<;>omega
 exact⟨h.1.1.1.1,h.1.1.1.2.1.1,h.1.1.1.2.1.2,h.1.1.2.1,h.1.1.2.2,by have:=h.1.2.1.1;omega,h.1.2.1.2.1,hp⟩
def jy(s:ae)(l:List af):Nat:=min l.length (s.Room-(s.Buffer.length:Int)).toNat
def xa(s:ae)(l:List af):Int×Int×ae:=
 bif decide ((8:Int)<(l.length:Int))||decide (mG s<Go.IntKind.wrap .i64 (s.Put+(l.length:Int)))then(0,4,s)else bif s.Shut then(0,5,s)else bif s.Gone then(0,17,s)
 else((jy s l:Int),0,ae.mk s.cq s.Room s.cR (s.Buffer++l.take (jy s l)) (Go.IntKind.wrap .i64 (s.Put+(jy s l:Int))) s.dz s.Shut s.Gone)
theorem Yi{s:ae}{l:List af}(h:0<=s.Room)(h2:s.Room<=6)(hb:(s.Buffer.length:Int)<=s.Room):
 M.jd (l.length:Int) (Go.IntKind.wrap .i64 (s.Room-(s.Buffer.length:Int)))=some (jy s l:Int):=by
 have w:Go.IntKind.wrap .i64 (s.Room-(s.Buffer.length:Int))=s.Room-(s.Buffer.length:Int):=wrap_i64 (by omega) (by omega);unfold M.jd jy;rw[w];by_cases c:(l.length:Int)<s.Room-(s.Buffer.length:Int)
 ·rw[cy c,aE];congr 1;omega
 ·rw[dj c,aZ];congr 1;omega
theorem Yj(s:ae)(l:List af):jy s l<=l.length:=by unfold jy;omega
def DD(s:ae)(l:List af):ae×Int×Int:=bif(xa s l).2.1==0 then((xa s l).2.2,(xa s l).1,0)else(Kx,0,(xa s l).2.1)
theorem Yk(s:ae)(l:List af)(hs:s.sz<=1048576)(hl:aR af.sz l<=1048576)(h1:0<=s.Room)(h2:s.Room<=6)(hb:(s.Buffer.length:Int)<=s.Room):
 M.sV s l=some (DD s l):=by
 unfold M.sV DD xa;have hp:=Ky af.sz (jy s l) l;have hlen:=di af.sz l;have e0:=w9 s.Buffer (ae.sU hs);have e1:=w9 (l.take (jy s l)) (by omega);have e2:=KB (Yj s l);have e6:List.drop (Int.toNat 0) (List.take (jy s l) l)=List.take (jy s l) l:=rfl;have e3:=zr (a:=s.Buffer.length) (b:=(l.take (jy s l)).length) (by rw[jY];omega);simp only[aa.aG,ae.aG,KC,Yi h1 h2 hb,e0,e1,e2,e3,e6,aQ,bf,bV,cQ,bJ,aD,aE];generalize (decide ((8:Int)<(l.length:Int))||decide (mG s<Go.IntKind.wrap .i64 (s.Put+(l.length:Int))))=b;generalize jy s l=k;clear e0 e1 e2 e3 e6 hp;obtain⟨ty,room,fut,buf,put,got,shut,gone⟩:=s;cases b<;>cases shut<;>cases gone<;>rfl
theorem KD{α:Type}{f:α->Nat}:∀{l:List α},(∀x∈l,f x=0)->aR f l=l.length
 |[],_=>rfl
 |x::r,h=>by simp only[aR,cr,h x (by simp),KD (l:=r) fun y hy=>h y (by simp[hy])];omega
def qp(s:ae):Int×ae:=bif s.Shut then(5,s)else bif(s.cR&& !s.Gone)&&(s.Put==0)then(3,s)else(0,ae.mk s.cq s.Room s.cR s.Buffer s.Put s.dz true s.Gone)
def qq(s:ae):Int×ae:=bif s.Gone then(5,s)else(0,ae.mk s.cq s.Room s.cR [] s.Put s.dz s.Shut true)
def od(s:ae)(most:Int):Int×ae×List af:=bif s.Gone then(5,s,[])else bif((s.Buffer.length:Int)==0)&&s.Shut then(3,s,[])
 else(0,ae.mk s.cq s.Room s.cR (s.Buffer.drop (j4 s most)) s.Put (Go.IntKind.wrap .i64 (s.dz+(j4 s most:Int))) s.Shut s.Gone,s.Buffer.take (j4 s most))
def mI(c:Int)(s:ae):ae:=bif c==0 then s else Kx
theorem Yl(s:ae):M.sW s=some (mI (qp s).1 (qp s).2,(qp s).1):=by
 unfold M.sW qp;simp only[aa.aG];cases s.Shut<;>cases ((s.cR&& !s.Gone)&&(s.Put==0))<;>rfl
theorem Ym(s:ae):M.sX s=some (mI (qq s).1 (qq s).2,(qq s).1):=by
 unfold M.sX qq;simp only[aa.aG];cases s.Gone<;>rfl
theorem Yn(s:ae)(most:Int)(hm:1<=most)(hb:aR af.sz s.Buffer<=1048576):M.sY s most=some (mI (od s most).1 (od s most).2.1,(od s most).2.2,(od s most).1):=by
 unfold M.sY od;have hp:=Ky af.sz (j4 s most) s.Buffer;have e1:=Yf s most hm;have e2:=KA (Kz s most) (cH _);have e3:=KB (Kz s most);have e4:=w9 (s.Buffer.take (j4 s most)) (by omega);have e5:=w9 (s.Buffer.drop (j4 s most)) (by omega);have e6:List.drop (Int.toNat 0) (List.take (j4 s most) s.Buffer)=List.take (j4 s most) s.Buffer:=rfl;simp only[aa.aG,e1,e2,e3,e4,e5,e6,bf,aQ,bV,mn,dG,aZ,aE,bJ,aD,fA];cases h:s.Gone<;>cases (((s.Buffer.length:Int)==0)&&s.Shut)<;>simp only[aE,aZ,mI,h]<;>rfl
def zw(n:Int):af:=af.mk 9 n [] []
def jz(first:Int)(n:Nat):List af:=(List.range n).map fun(k:Nat)=>zw (Go.IntKind.wrap .i64 (first+(k:Int)))
theorem Yo(n:Int):(zw n).sz=0:=by rw[af.cT];rfl
theorem Yp(first:Int)(n:Nat):∀v∈jz first n,v.sz=0:=fun v hv=>by
 obtain⟨k,-,rfl⟩:=kV.1 hv;exact Yo _
theorem KE(first:Int)(n:Nat):(jz first n).length=n:=by simp[jz]
theorem Yq{F:Nat->Int->List af->Option (List af)}(first:Int)(n:Nat)(hn:n<=8)
 (step:∀f (k:Nat) out,k<n->out.length=k->F (f+1) (k:Int) out=F f ((k+1:Nat):Int) (out++[zw (Go.IntKind.wrap .i64 (first+(k:Int)))])) (stop:∀f out,F (f+1) (n:Int) out=some out):
 F an 0 []=some (jz first n):=by
 have key:∀f k,k<=n->n-k<f->F f (k:Int) (jz first k)=some (jz first n):=by
  intro f
  induction f with
  |zero=>intro k h1 h2;omega
  |succ f ih=>
   intro k h1 h2;rcases fY k n with hk|hk
   ·rw[step f k _ hk (KE _ _)];have:jz first k++[zw (Go.IntKind.wrap .i64 (first+(k:Int)))]=jz first (k+1):=by
     simp[jz,List.range_succ]
    rw[this];exact ih (k+1) (by omega) (by omega)
   ·have:k=n:=by omega
    subst this;exact stop f _
 exact key an 0 (dJ _) (by have:=cJ;omega)
theorem Yr(first:Int)(n:Nat)(hn:n<=8):M.s6 first (n:Int)=some (jz first n):=by
 unfold M.s6;rw[Yq (F:=M.qs first (n:Int)) first n hn (fun f k out hk ho=>by
  rw[M.qs];have hc:=zr (a:=out.length) (b:=1) (by omega);simp only[dY,hk,cI,aE,cr,hU,kW,hc,aD,bN hk (by omega:n<2^62)];rfl) (fun f out=>by rw[M.qs];simp)]
end M
namespace M
open Go.V (inB cC an cJ)
def cm(w:ai)(id:Int):ad:=w.aC.getD (id-1).toNat ad.zero
def opsOf(w:ai)(t:ad):List aw:=(w.aT.getD t.Prog.toNat ar.zero).Ops
def cU(w:ai)(t:ad):aw:=(opsOf w t).getD t.PC.toNat aw.zero
def atEnd(w:ai)(t:ad):Bool:=t.PC==((opsOf w t).length:Int)
def KF(t:ad):Bool:=(t.bU||(t.Status==4))||(t.Status==5)
def ix(t:ad):Bool:=KF t&& !t.Told
def iQ(w:ai)(l:List Int):Bool:=l.any fun id=>ix (cm w id)
def mJ(s:ae):Bool:= !s.Shut&&(s.Gone||(decide ((s.Buffer.length:Int)<s.Room)&&decide (s.Put<mG s)))
def oe(s:ae):Bool:= !s.Gone&&(decide ((0:Int)<(s.Buffer.length:Int))||s.Shut)
def jA(w:ai)(a:Int):ae:=w.aX.getD a.toNat ae.zero
def qt(w:ai)(t:ad)(o:aw):Bool:=
 if o.Kind=3 then decide ((0:Int)<(t.Set.length:Int))&& !iQ w t.Set
 else if o.Kind=5 then decide (o.A<(w.aX.length:Int))&&(!(jA w o.A).Shut&& !mJ (jA w o.A))
 else if o.Kind=6 then decide (o.A<(w.aX.length:Int))&&(!(jA w o.A).Gone&& !oe (jA w o.A))
 else false
def instOf(w:ai)(t:ad):Int:=(w.aT.getD t.Prog.toNat ar.zero).dQ
def s7(w:ai)(t:ad):Bool:=
 bif t.Status==1 then hasB w.Back (instOf w t)else !atEnd w t&&(qt w t (cU w t)&&(!t.Asked||t.bU))
def DG(w:ai)(t:ad):Bool:=(((cU w t).Kind==1)&&decide ((cU w t).A<(w.aT.length:Int)))&&((w.aC.length:Int)==8)
def s8(w:ai)(id:Int):Int:=
 bif decide (1<=id)&&decide (id<=(w.aC.length:Int))then
  bif decide (3<=(cm w id).Status)||s7 w (cm w id)then 5
  else bif decide (116<(w.Notes.length:Int))then 4
  else bif((cm w id).Status==2)&&(!atEnd w (cm w id)&&DG w (cm w id))then 4
  else 0
 else 3
structure WV (w:ai):Prop where
 j5:w.aT.length<=6
 ops:∀p∈w.aT,p.Ops.length<=12/\∀o∈p.Ops,fJ o=true
 streams:w.aX.length<=4
 str:∀s∈w.aX,str9 s=true
 tasks:w.aC.length<=8
 task:∀k,k<w.aC.length->jB w (w.aC.getD k ad.zero) (k:Int)=true
 back:w.Back.length<=6
 notes:w.Notes.length<=120
theorem KG{w:ai}(h:kD w=true):WV w:=by
 unfold kD at h;simp only[bk]at h;obtain⟨⟨⟨⟨⟨hp,hs⟩,ht⟩,hn,-⟩,hS⟩,hT,hb,hr⟩:=h;unfold oh at hp;simp only[bk,bC]at hp hs ht hn;refine⟨by omega,fun p hp'=>?_,by omega,fun s hs'=>dW.1 hS s hs',by omega,fun k hk=>?_,?_,by omega⟩
 ·have:=dW.1 hp.2 p hp';unfold kE at this;simp only[bk,bC]at this;exact⟨by omega,fun o ho=>dW.1 this.2 o ho⟩
 ·exact dW.1 hT k (mK.2 hk)
 ·have:=DI hr 6 (fun x hx=>by
   have:=dW.1 hb x hx;unfold inst at this;rw[bk,bC,bC]at this;exact this)
  omega
structure TV (w:ai) (t:ad):Prop where
 prog:0<=t.Prog/\t.Prog<(w.aT.length:Int)
 pc:0<=t.PC/\t.PC<=((opsOf w t).length:Int)
 status:1<=t.Status/\t.Status<=5
 result:0<=t.Result/\t.Result<=999
 subs:∀x∈t.bg,1<=x/\x<=(w.aC.length:Int)
 Ys:t.bg.length<=8
 set:∀x∈t.Set,1<=x/\x<=(w.aC.length:Int)
 mL:t.Set.length<=8
theorem KH{w:ai}(h:WV w){k:Nat}(hk:k<w.aC.length):TV w (w.aC.getD k ad.zero)/\(w.aC.getD k ad.zero).Id=(k:Int)+1:=by
 have ht:=h.task k hk;generalize w.aC.getD k ad.zero=t at ht⊢;have h8:=h.tasks;have h6:=h.j5;unfold jB at ht;simp only[bk,eQ,bC]at ht;obtain⟨⟨⟨⟨hh,hr⟩,-⟩,hpc,hs⟩,-⟩:=ht;unfold oi at hh;rw[KI (by omega),wrap_i64 (by omega) (by omega)]at hh;simp only[qu,Bool.not_eq_false',bk,bC,bne_eq_false_iff_eq]at hh;unfold s9 at hs;simp only[bk]at hs;have hL:=KJ (w:=w) (t:=t) h8 hs.1.1 hs.1.2;have hL2:=KL (t:=t) hs.2.1 hs.2.2;have hsub:∀x∈t.bg,1<=x/\x<=(w.aC.length:Int):=fun x hx=>by
  have:=dW.1 hs.1.1 x hx;unfold hJ at this;simp only[bk,bC]at this;exact this.1
 refine⟨⟨⟨hh.1.1.2.1,by omega⟩,hpc,hh.2,hr,hsub,hL,fun x hx=>?_,by omega⟩,hh.1.1.1⟩;have:=dW.1 hs.2.1 x hx;unfold hasB at this;rw[List.any_eq_true]at this;obtain⟨y,hy,e⟩:=this;rw[jc]at e;rw[e];exact hsub y hy
theorem qw{w:ai}(h:WV w){id:Int}(h1:1<=id)(h2:id<=(w.aC.length:Int)):TV w (cm w id)/\(cm w id).Id=id:=by
 have:=KH h (k:=(id-1).toNat) (by omega);refine⟨this.1,?_⟩;have e:=this.2;unfold cm;rw[e];omega
theorem xb{w:ai}(h:WV w){t:ad}(ht:TV w t)(he:atEnd w t=false):
 t.PC.toNat<(opsOf w t).length/\0<=(cU w t).A/\(cU w t).A<=999/\((cU w t).Kind=5\/(cU w t).Kind=6->1<=(cU w t).B/\(cU w t).B<=4)/\1<=(cU w t).Kind/\(cU w t).Kind<=12:=by
 have hp:t.Prog.toNat<w.aT.length:=by have:=ht.prog;omega
 have hm:w.aT.getD t.Prog.toNat ar.zero∈w.aT:=by rw[getD_lt hp];exact cn hp
 have hpc:t.PC.toNat<(opsOf w t).length:=by
  have:=ht.pc;unfold atEnd at he;rw[ed]at he;omega
 refine⟨hpc,?_⟩;have ho:=(h.ops _ hm).2 (cU w t) (by unfold cU;rw[getD_lt hpc];exact cn hpc);generalize cU w t=o at ho⊢;have e:=DJ o;rw[ho]at e;unfold M.kF at e;generalize aw.Kind o=k at e⊢;generalize aw.A o=a at e⊢;generalize aw.B o=b at e⊢;by_cases hk:1<=k/\k<=12
 ·have:k=1\/k=2\/k=3\/k=4\/k=5\/k=6\/k=7\/k=8\/k=9\/k=10\/k=11\/k=12:=by omega
  rcases this with rfl|rfl|rfl|rfl|rfl|rfl|rfl|rfl|rfl|rfl|rfl|rfl<;>simp at e
  all_goals
   rw[Bool.cond_eq_ite]at e;split at e
   ·simp at e
   ·rename_i hh;simp only[fU,eQ,Bool.and_eq_false_iff,fO,bC,Ee,Decidable.not_not]at hh;simp at e;refine⟨by omega,by omega,by omega,by omega,by omega⟩
 ·have h1:(decide (1<=k)&&decide (k<=12))=false:=by simp;omega
  simp[h1]at e
end M
namespace M
open Go.V (inB cC an cJ)
theorem DK{w:ai}(h:WV w){id:Int}(h1:1<=id)(h2:id<=(w.aC.length:Int)):M.lE id (bh.mk w)=some (cm w id,bh.mk w):=by
 have h8:=h.tasks;unfold M.lE cm;have hw:Go.IntKind.wrap .i64 (id-1)=id-1:=wrap_i64 (by omega) (by omega);have hb:inB (id-1) w.aC.length=true:=fS ⟨by omega,by omega⟩;simp only[hw,hb,bJ,aE]
theorem Yt{w:ai}(h:WV w){t:ad}(ht:TV w t):M.ta t (bh.mk w)=some (bif atEnd w t then(aw.mk 0 0 0,false,bh.mk w)else(cU w t,true,bh.mk w)):=by
 unfold M.ta;have hb:inB t.Prog w.aT.length=true:=fS ht.prog;rw[show(t.PC==((List.length (ar.Ops (List.getD (w.aT) (Int.toNat t.Prog) ar.zero))):Int))=atEnd w t from rfl];cases he:atEnd w t with
 |true=>simp only[hb,bJ,aE]
 |false=>
  have:=xb h ht he;have hb2:inB t.PC (opsOf w t).length=true:=by
   have:=ht.pc;exact fS ⟨by omega,by omega⟩
  have hb2':inB t.PC (List.length (ar.Ops (List.getD w.aT (Int.toNat t.Prog) ar.zero)))=true:=hb2;simp only[hb,hb2',bJ,aE,aZ];rfl
theorem KN(t:ad):(((t.bU||(t.Status==4))||(t.Status==5))&& !t.Told)=ix t:=rfl
def w5(w:ai):(List ar)×(List ae)×(List ad)×(List Int)×(List az):=(w.aT,w.aX,w.aC,w.Back,w.Notes)
def tc(w:ai)(l:List Int):ad:=(l.find? fun id=>ix (cm w id)).elim ad.zero (cm w)
theorem KO(w:ai)(x:Int)(r:List Int):tc w (x::r)=bif ix (cm w x)then cm w x else tc w r:=by
 unfold tc;rw[List.find?_cons];cases ix (cm w x)<;>rfl
theorem KP(w:ai)(x:Int)(r:List Int):iQ w (x::r)=(ix (cm w x)||iQ w r):=rfl
theorem Yu{w:ai}(h:WV w)(l:List Int)(hl:l.length<=8)(hs:∀x∈l,1<=x/\x<=(w.aC.length:Int)):∀f k,l.length-k<f->
 M.qx l (l.length:Int) f (k:Int) (bh.mk w)=some (bif iQ w (l.drop k)then .inl (tc w (l.drop k),w5 w)else .inr (w5 w)):=by
 intro f
 induction f with
 |zero=>intro k h;omega
 |succ f ih=>
  intro k hk;rw[M.qx];rcases fY k l.length with h1|h1
  ·have hx:=hs l[k] (cn h1);have e:=ih (k+1) (by omega);rw[jZ h1,KO,KP];simp only[bV,getD_lt h1,DK h hx.1 hx.2,aQ,bf,ct,dY,h1,cI,aE,bJ,aD,bN h1 (by omega:l.length<2^62),KN];cases hn:ix (cm w l[k])
   ·rw[aZ,jw,aZ];exact e
   ·rfl
  ·rw[dj (by omega),aZ,List.drop_eq_nil_of_le h1];rfl
theorem Yv{w:ai}(h:WV w)(l:List Int)(hl:l.length<=8)(hs:∀x∈l,1<=x/\x<=(w.aC.length:Int)):∀f k,l.length-k<f->
 M.qy l (l.length:Int) f (k:Int) (bh.mk w)=some (bif iQ w (l.drop k)then .inl (tc w (l.drop k),w5 w)else .inr (w5 w)):=by
 intro f
 induction f with
 |zero=>intro k h;omega
 |succ f ih=>
  intro k hk;rw[M.qy];rcases fY k l.length with h1|h1
  ·have hx:=hs l[k] (cn h1);have e:=ih (k+1) (by omega);rw[jZ h1,KO,KP];simp only[bV,getD_lt h1,DK h hx.1 hx.2,aQ,bf,ct,dY,h1,cI,aE,bJ,aD,bN h1 (by omega:l.length<2^62),KN];cases hn:ix (cm w l[k])
   ·rw[aZ,jw,aZ];exact e
   ·rfl
  ·rw[dj (by omega),aZ,List.drop_eq_nil_of_le h1];rfl
theorem Yw{w:ai}(h:WV w){t:ad}(ht:TV w t):∃x,M.qz t (bh.mk w)=(bif iQ w t.Set then some (x,bh.mk w)else none):=by
 have e:=Yu h t.Set ht.mL ht.set an 0 (by have:=cJ;have:=ht.mL;omega);refine⟨tc w t.Set,?_⟩;unfold M.qz;rw[show M.qx t.Set (t.Set.length:Int) an 0 (bh.mk w)=_ from e,iy];cases iQ w t.Set<;>rfl
theorem Yx{w:ai}(h:WV w){t:ad}(ht:TV w t):M.qA t (bh.mk w)=(bif iQ w t.Set then none else some (bh.mk w)):=by
 have e:=Yv h t.Set ht.mL ht.set an 0 (by have:=cJ;have:=ht.mL;omega);unfold M.qA;rw[show M.qy t.Set (t.Set.length:Int) an 0 (bh.mk w)=_ from e,iy];cases iQ w t.Set<;>rfl
theorem Yy{w:ai}(h:WV w)(a:Int)(ha:0<=a):M.kG a (bh.mk w)=(bif decide (a<(w.aX.length:Int))then none else some (bh.mk w)):=by
 have h4:=h.streams;unfold M.kG;have hw:Go.IntKind.wrap .i64 ((w.aX.length:Int)-1)=(w.aX.length:Int)-1:=wrap_i64 (by omega) (by omega);simp only[hw,cy ha,bJ];by_cases hl:a<(w.aX.length:Int)
 ·rw[cy (show a<=(w.aX.length:Int)-1 by omega),cy hl];cases inB a w.aX.length<;>rfl
 ·rw[dj (show ¬a<=(w.aX.length:Int)-1 by omega),dj hl];rfl
theorem Yz{w:ai}(h:WV w)(a:Int)(ha:0<=a):M.kH a (bh.mk w)=(bif decide (a<(w.aX.length:Int))then some (jA w a,bh.mk w)else none):=by
 have h4:=h.streams;unfold M.kH;have hw:Go.IntKind.wrap .i64 ((w.aX.length:Int)-1)=(w.aX.length:Int)-1:=wrap_i64 (by omega) (by omega);simp only[hw,cy ha,bJ];by_cases hl:a<(w.aX.length:Int)
 ·rw[cy (show a<=(w.aX.length:Int)-1 by omega),cy hl,fS ⟨ha,hl⟩];rfl
 ·rw[dj (show ¬a<=(w.aX.length:Int)-1 by omega),dj hl];rfl
theorem YA(s:ae):M.oj s=some (mJ s):=by
 unfold M.oj mJ;rw[show M.kC (ae.re s)=some (mG s)from Yg s];simp only[aQ,bf,cQ,bn,aE]
theorem YB(s:ae):M.om s=some (oe s):=by
 unfold M.om oe;rfl
theorem YC{w:ai}(h:WV w){t:ad}(ht:TV w t)(o:aw)(ha:0<=o.A):M.te t o (bh.mk w)=some (qt w t o,bh.mk w):=by
 obtain⟨x,e1⟩:=Yw h ht;have e2:=Yx h ht;have s1:=Yy h o.A ha;have s2:=Yz h o.A ha;unfold M.te qt;simp only[s1,s2];by_cases hk3:o.Kind=3
 ·rw[show(o.Kind==(3:Int))=true from jc.2 hk3,aF hk3];cases hl:decide (o.A<(w.aX.length:Int))<;>cases hs:decide ((0:Int)<(t.Set.length:Int))<;>cases hr:iQ w t.Set<;>simp only[hl,hs,hr,e1,e2,aE,aZ,aQ,Option.getD_none,bf,Option.isSome_none,Bool.and_false,lu,aD,bJ,bn,xh]<;>rfl
 ·rw[show(o.Kind==(3:Int))=false from ed.2 hk3,bF hk3];by_cases hk5:o.Kind=5
  ·rw[show(o.Kind==(5:Int))=true from jc.2 hk5,aF hk5];cases hl:decide (o.A<(w.aX.length:Int))
   ·rfl
   ·simp only[aE,aQ,bf,ae.aG,YA,cQ,bn];rfl
  ·rw[show(o.Kind==(5:Int))=false from ed.2 hk5,bF hk5];by_cases hk6:o.Kind=6
   ·rw[show(o.Kind==(6:Int))=true from jc.2 hk6,aF hk6];cases hl:decide (o.A<(w.aX.length:Int))
    ·rfl
    ·simp only[aE,aQ,bf,ae.aG,YB,cQ,bn];rfl
   ·rw[show(o.Kind==(6:Int))=false from ed.2 hk6,bF hk6];cases hl:decide (o.A<(w.aX.length:Int))<;>rfl
theorem YD{w:ai}(h:WV w)(id:Int):M.tf id (bh.mk w)=some (s8 w id,bh.mk w):=by
 have h8:=h.tasks;have h6:=h.j5;unfold M.tf s8;by_cases hid:1<=id/\id<=(w.aC.length:Int)
 ·obtain⟨ht,-⟩:=qw h hid.1 hid.2;have e0:=DK h hid.1 hid.2;have e3:=Yt h ht;have e7:=KQ w.Back (instOf w (cm w id)) (by have:=h.back;omega);have hp:inB (cm w id).Prog w.aT.length=true:=fS ht.prog;have eb:=fun he:atEnd w (cm w id)=false=>YC h ht (cU w (cm w id)) (xb h ht he).2.1
  have YE:=fun he:atEnd w (cm w id)=false=>(xb h ht he).2.1
  have hw:Go.IntKind.wrap .i64 ((w.aT.length:Int)-1)=(w.aT.length:Int)-1:=wrap_i64 (by omega) (by omega);have hle:∀a:Int,decide (a<=(w.aT.length:Int)-1)=decide (a<(w.aT.length:Int)):=fun a=>by simp only[cP];omega
  have hst:=ht.status;unfold instOf at e7;rw[cy hid.1,cy hid.2];simp only[e0,e3,bn,dG,aZ,aE,aQ,bf];unfold s7 instOf DG;generalize cm w id=t at*;have hS:t.Status=1\/t.Status=2\/t.Status=3\/t.Status=4\/t.Status=5:=by omega
  cases he:atEnd w t with
  |true=>
   rw[he]at e3;simp only[aE,e7,hp,aQ,bf,Bool.and_false,lu,aZ,cQ,aD,bJ,bn];generalize hasB w.Back (w.aT.getD t.Prog.toNat ar.zero).dQ=b1;generalize decide ((116:Int)<(w.Notes.length:Int))=b2 at*;rcases hS with e|e|e|e|e<;>rw[e]<;>cases b1<;>cases b2<;>rfl
  |false=>
   have hb:=eb he;have ha:=YE he;simp only[aE,aZ,e7,hp,hb,hw,hle,cy ha,aQ,bf,Bool.and_false,lu,cQ,aD,bJ,bn];generalize hasB w.Back (w.aT.getD t.Prog.toNat ar.zero).dQ=b1;generalize qt w t (cU w t)=b3;generalize decide ((cU w t).A<(w.aT.length:Int))=b4;generalize ((cU w t).Kind==(1:Int))=b5;generalize ((w.aC.length:Int)==8)=b6;generalize decide ((116:Int)<(w.Notes.length:Int))=b2 at*;generalize t.Asked=b7;generalize t.bU=b8;rcases hS with e|e|e|e|e<;>rw[e]
   ·cases b1<;>cases b2<;>rfl
   ·cases b3
    ·cases b2<;>cases b4<;>cases b5<;>cases b6<;>rfl
    ·cases b7<;>cases b8<;>cases b2<;>cases b4<;>cases b5<;>cases b6<;>rfl
   ·rfl
   ·rfl
   ·rfl
 ·have hd:(decide (1<=id)&&decide (id<=(w.aC.length:Int)))=false:=by rw[tg,ne_eq,bk,bC,bC];exact hid
  rw[hd];rfl
end M
namespace M
open Go.V (inB cC an cJ)
theorem jD{id:Int}{n:Nat}(h:1<=id/\id<=(n:Int))(hn:n<=1000):Go.IntKind.wrap .i64 (id-1)=id-1/\inB (id-1) n=true:=
 ⟨wrap_i64 (by omega) (by omega),fS ⟨by omega,by omega⟩⟩
theorem YH{α:Type}{l:List α}{x:α}(h:l.length<=1000):decide (l.length+[x].length<=1073741824)=true:=by
 rw[bC,List.length_singleton];omega
theorem lF(id k a b:Int)(w:List ar)(o1:List ae)(o2:List ad)(o3:List Int){o4:List az}(h:o4.length<=1000):
 M.ft id k a b w o1 o2 o3 o4=some (w,o1,o2,o3,o4++[az.mk id k a b]):=by
 unfold M.ft;simp only[YH h,aD,aE]
theorem xd{id:Int}(w:List ar)(o1:List ae){o2:List ad}(o3:List Int){o4:List az}(hi:1<=id/\id<=(o2.length:Int))(hn:o2.length<=1000)(h:o4.length<=1000):
 ∃x,M.gG id w o1 o2 o3 o4=some (0,x):=by
 obtain⟨e1,e2⟩:=jD hi hn;unfold M.gG;simp only[lF _ _ _ _ _ _ _ _ h,e1,e2,bf,aQ,bn,aE];exact⟨_,rfl⟩
theorem gI{id:Int}(w:List ar)(o1:List ae){o2:List ad}(o3:List Int)(o4:List az)(hi:1<=id/\id<=(o2.length:Int))(hn:o2.length<=1000):
 ∃x,M.eF id w o1 o2 o3 o4=some (0,x):=by
 obtain⟨e1,e2⟩:=jD hi hn;unfold M.eF;simp only[e1,e2,bn,aE];exact⟨_,rfl⟩
theorem DL{id:Int}(w:List ar)(o1:List ae){o2:List ad}(o3:List Int){o4:List az}(hi:1<=id/\id<=(o2.length:Int))(hn:o2.length<=1000)(h:o4.length<=1000):
 ∃t' n',M.lG id w o1 o2 o3 o4=some (0,w,o1,t',o3,n')/\t'.length=o2.length/\n'.length=o4.length+1:=by
 obtain⟨e1,e2⟩:=jD hi hn;unfold M.lG;simp only[lF _ _ _ _ _ _ _ _ h,e1,e2,bf,aQ,bn,aE];exact⟨_,_,rfl,by rw[f0],by rw[dA];rfl⟩
def tj(t:ad):Int:=bif t.Asked&& !t.bU then 0 else 5
def cV(o2:List ad)(id:Int):ad:=o2.getD (id-1).toNat ad.zero
theorem DN{id:Int}(w:List ar)(o1:List ae){o2:List ad}(o3:List Int){o4:List az}(hi:1<=id/\id<=(o2.length:Int))(hn:o2.length<=1000)(h:o4.length<=1000):
 ∃x,M.lH id w o1 o2 o3 o4=some (tj (cV o2 id),x):=by
 obtain⟨e1,e2⟩:=jD hi hn;obtain⟨t',n',e,-,-⟩:=DL w o1 o3 hi hn h;unfold M.lH tj cV;simp only[e,e1,e2,bf,aQ,bn,aE];cases (List.getD o2 (Int.toNat (id-1)) ad.zero).Asked&& !(List.getD o2 (Int.toNat (id-1)) ad.zero).bU
 ·exact⟨_,rfl⟩
 ·exact⟨_,rfl⟩
theorem KR(s:ae):M.oo s=some (mJ s):=by
 unfold M.oo mJ;rw[show M.mH (ae.re s)=some (mG s)from KC s];cases s.Shut
 ·simp only[aQ,bf,cQ,bn,aE,aZ,fA,bJ]
 ·rfl
theorem KT(s:ae):M.qB s=some (oe s):=rfl
structure SH (s:ae):Prop where
 sz:s.sz<=1048576
 room:0<=s.Room/\s.Room<=6
 buf:(s.Buffer.length:Int)<=s.Room
 put:0<=s.Put/\s.Put<=1000000
theorem YI{s:ae}(h:str9 s=true)(hz:s.sz<=1048576):SH s:=by
 unfold str9 at h;simp only[bk]at h;obtain⟨-,h1,h2,h3,-,h4,h5,h6⟩:=Yh h.1.1;exact⟨hz,⟨by omega,h2⟩,h3,by omega,h6⟩
def zx(s:ae)(t:ad):Int:=bif s.Shut then 0 else bif mJ s then 0 else tj t
theorem YJ{b p:Int}(hb:1<=b/\b<=4)(hp:0<=p/\p<=1000000):∃n:Nat,n<=8/\M.jd b (Go.IntKind.wrap .i64 (1000000-p))=some (n:Int):=by
 have w:Go.IntKind.wrap .i64 (1000000-p)=1000000-p:=wrap_i64 (by omega) (by omega);unfold M.jd;rw[w];by_cases c:b<1000000-p
 ·exact⟨b.toNat,by omega,by rw[cy c,aE];congr 1;omega⟩
 ·exact⟨(1000000-p).toNat,by omega,by rw[dj c,aZ];congr 1;omega⟩
theorem YK{id:Int}{o:aw}(w:List ar){o1:List ae}{o2:List ad}(o3:List Int){o4:List az}(hi:1<=id/\id<=(o2.length:Int))(hn:o2.length<=1000)(h:o4.length<=500)
 (ha:0<=o.A/\o.A<(o1.length:Int)) (hb:1<=o.B/\o.B<=4) (hs:SH (o1.getD o.A.toNat ae.zero)):
 ∃x,M.tn id o w o1 o2 o3 o4=some (zx (o1.getD o.A.toNat ae.zero) (cV o2 id),x):=by
 have iA:inB o.A o1.length=true:=fS ha;obtain⟨xf,ef⟩:=xd w o1 o3 hi hn (show o4.length<=1000 by omega);obtain⟨xw,ew⟩:=DN w o1 o3 hi hn (show o4.length<=1000 by omega);unfold M.tn zx;simp only[ef,ew,iA,ae.aG,KR,bf,aQ,bn,aE];generalize o1.getD o.A.toNat ae.zero=s at*;cases s.Shut
 ·cases mJ s
  ·exact⟨_,rfl⟩
  ·obtain⟨n,YL,em⟩:=YJ hb hs.put;have hnl:=KE (Go.IntKind.wrap .i64 (s.Put+1)) n;have en:=Yr (Go.IntKind.wrap .i64 (s.Put+1)) n YL;have hz:aR af.sz (jz (Go.IntKind.wrap .i64 (s.Put+1)) n)<=1048576:=by
    rw[KD (Yp _ _)];omega
   have YM:=Yk s (jz (Go.IntKind.wrap .i64 (s.Put+1)) n) hs.sz hz hs.room.1 hs.room.2 hs.buf;simp only[em,en,YM,bf,aQ,bn,aE,aZ,dG];generalize DD s (jz (Go.IntKind.wrap .i64 (s.Put+1)) n)=r;cases (r.2.2==(17:Int))
   ·rw[aZ];rw[lF _ _ _ _ _ _ _ _ (show o4.length<=1000 by omega)];obtain⟨x,e⟩:=gI w (o1.set o.A.toNat r.1) o3 (o4++[az.mk id 5 o.A r.2.1]) hi hn;simp only[e,bf,aQ,bn,aE];exact⟨_,rfl⟩
   ·rw[aE];rw[lF _ _ _ _ _ _ _ _ (show o4.length<=1000 by omega)];obtain⟨x,e⟩:=gI w o1 o3 (o4++[az.mk id 5 o.A (-1)]) hi hn;simp only[e,bf,aQ,bn,aE];exact⟨_,rfl⟩
 ·exact⟨_,rfl⟩
def zy(s:ae)(t:ad):Int:=bif s.Gone then 0 else bif oe s then 0 else tj t
theorem YN{id:Int}{o:aw}(w:List ar)(o1:List ae)(o2:List ad)(o3:List Int)(l:List af)(hl:l.length<=8):∀f k (o4:List az),l.length-k<f->o4.length+(l.length-k)<=900->
 ∃n',M.qC id l o f (k:Int) w o1 o2 o3 o4=some (id,w,o1,o2,o3,n'):=by
 intro f
 induction f with
 |zero=>intro k o4 h;omega
 |succ f ih=>
  intro k o4 hk hb;rw[M.qC];rcases fY k l.length with h1|h1
  ·obtain⟨n',e⟩:=ih (k+1) (o4++[az.mk id 6 o.A l[k].Num]) (by omega) (by rw[dA,List.length_singleton];omega);refine⟨n',?_⟩;simp only[bV,getD_lt h1,lF _ _ _ _ _ _ _ _ (show o4.length<=1000 by omega),aQ,bf,ct,dY,h1,cI,aE,bn,bN h1 (by omega:l.length<2^62)];exact e
  ·rw[dj (by omega),aZ];exact⟨_,rfl⟩
theorem YO(s:ae)(m:Int):(od s m).2.2.length<=s.Buffer.length:=by
 unfold od;cases s.Gone
 ·cases (((s.Buffer.length:Int)==0)&&s.Shut)
  ·simp only[aZ,jY];omega
  ·exact dJ _
 ·exact dJ _
theorem YP{id:Int}{o:aw}(w:List ar){o1:List ae}{o2:List ad}(o3:List Int){o4:List az}(hi:1<=id/\id<=(o2.length:Int))(hn:o2.length<=1000)(h:o4.length<=500)
 (ha:0<=o.A/\o.A<(o1.length:Int)) (hb:1<=o.B/\o.B<=4) (hs:SH (o1.getD o.A.toNat ae.zero)):
 ∃x,M.tp id o w o1 o2 o3 o4=some (zy (o1.getD o.A.toNat ae.zero) (cV o2 id),x):=by
 have iA:inB o.A o1.length=true:=fS ha;obtain⟨xf,ef⟩:=xd w o1 o3 hi hn (show o4.length<=1000 by omega);obtain⟨xw,ew⟩:=DN w o1 o3 hi hn (show o4.length<=1000 by omega);unfold M.tp zy;have er:=Yn (o1.getD o.A.toNat ae.zero) o.B hb.1 (ae.sU hs.sz);simp only[ef,ew,iA,ae.aG,KT,er,bf,aQ,bn,aE];have hlen:=YO (o1.getD o.A.toNat ae.zero) o.B;generalize o1.getD o.A.toNat ae.zero=s at*;generalize od s o.B=r at*;cases s.Gone
 ·cases oe s
  ·exact⟨_,rfl⟩
  ·simp only[aZ,dG,aE];cases (r.1==(3:Int))
   ·obtain⟨n',e⟩:=YN (id:=id) (o:=o) w (o1.set o.A.toNat (mI r.1 r.2.1)) o2 o3 r.2.2 (by have:=hs.buf;have:=hs.room;omega) an 0 o4 (by have:=cJ;have:=hs.buf;have:=hs.room;omega) (by have:=hs.buf;have:=hs.room;omega);rw[aZ,show M.qC id r.2.2 o an 0 w (o1.set o.A.toNat (mI r.1 r.2.1)) o2 o3 o4=_ from e];obtain⟨x,e⟩:=gI w (o1.set o.A.toNat (mI r.1 r.2.1)) o3 n' hi hn;simp only[e,bf,aQ,bn,aE];exact⟨_,rfl⟩
   ·rw[aE,lF _ _ _ _ _ _ _ _ (show o4.length<=1000 by omega)];obtain⟨x,e⟩:=gI w o1 o3 (o4++[az.mk id 7 o.A 0]) hi hn;simp only[e,bf,aQ,bn,aE];exact⟨_,rfl⟩
 ·exact⟨_,rfl⟩
def oq(o1:List ae)(o:aw)(t:ad):Int:=
 bif decide ((o1.length:Int)<=o.A)then 0 else bif o.Kind==5 then zx (o1.getD o.A.toNat ae.zero) t else bif o.Kind==6 then zy (o1.getD o.A.toNat ae.zero) t else 0
theorem YQ{id:Int}{o:aw}(w:List ar){o1:List ae}{o2:List ad}(o3:List Int){o4:List az}(hi:1<=id/\id<=(o2.length:Int))(hn:o2.length<=1000)(h:o4.length<=500)
 (ha:0<=o.A) (hb:o.Kind=5\/o.Kind=6->1<=o.B/\o.B<=4) (hs:∀s∈o1,SH s):
 ∃x,M.tq id o w o1 o2 o3 o4=some (oq o1 o (cV o2 id),x):=by
 obtain⟨xf,ef⟩:=xd w o1 o3 hi hn (show o4.length<=1000 by omega);unfold M.tq oq;by_cases hl:(o1.length:Int)<=o.A
 ·rw[cy hl,aE,ef];exact⟨_,rfl⟩
 ·rw[dj hl,aZ,aZ];have iA:inB o.A o1.length=true:=fS ⟨ha,by omega⟩;have hs':SH (o1.getD o.A.toNat ae.zero):=hs _ (by rw[getD_lt (show o.A.toNat<o1.length by omega)];exact cn _);by_cases h5:o.Kind=5
  ·obtain⟨x,e⟩:=YK (o:=o) w (o1:=o1) o3 hi hn h ⟨ha,by omega⟩ (hb (.inl h5)) hs';rw[show(o.Kind==(5:Int))=true from jc.2 h5,aE,aE,e];exact⟨_,rfl⟩
  ·rw[show(o.Kind==(5:Int))=false from ed.2 h5,aZ,aZ];by_cases h6:o.Kind=6
   ·obtain⟨x,e⟩:=YP (o:=o) w (o1:=o1) o3 hi hn h ⟨ha,by omega⟩ (hb (.inr h6)) hs';rw[show(o.Kind==(6:Int))=true from jc.2 h6,aE,aE,e];exact⟨_,rfl⟩
   ·rw[show(o.Kind==(6:Int))=false from ed.2 h6,aZ,aZ];simp only[ae.aG,Yl,Ym,ef,iA,bf,aQ,bn,aE];generalize o1.getD o.A.toNat ae.zero=s at*;cases (o.Kind==(7:Int))
    ·rw[aZ];obtain⟨x,e⟩:=gI w (o1.set o.A.toNat (mI (qq s).1 (qq s).2)) o3 o4 hi hn;cases ((qq s).1 !=(0:Int))
     ·simp only[e,aZ,bf,aQ,bn,aE];exact⟨_,rfl⟩
     ·exact⟨_,rfl⟩
    ·rw[aE];obtain⟨x,e⟩:=gI w (o1.set o.A.toNat (mI (qp s).1 (qp s).2)) o3 o4 hi hn;cases ((qp s).1 !=(0:Int))
     ·simp only[e,aZ,bf,aQ,bn,aE];exact⟨_,rfl⟩
     ·exact⟨_,rfl⟩
end M
namespace M
open Go.V (inB cC an cJ)
theorem xe{α:Type}{l:List α}{x:α}{n:Nat}(h:l.length<=n)(hn:n<=100000):decide (l.length+[x].length<=1073741824)=true:=by
 rw[bC,List.length_singleton];omega
theorem YR(l:List Int)(n:Int)(hl:l.length<=1000):∀f k (done:Bool) (out:List Int),l.length-k<f->k<=l.length->out.length<=2*k->
 ∃d r,M.mM l n f done (k:Int) out=some (n,d,r)/\r.length<=2*l.length:=by
 intro f
 induction f with
 |zero=>intro k d out h;omega
 |succ f ih=>
  intro k done out hk hk2 ho;rw[M.mM];rcases fY k l.length with h1|h1
  ·have c1:∀x:Int,decide (out.length+[x].length<=1073741824)=true:=fun x=>xe (n:=2000) (by omega) (by omega)
   have c2:∀x y:Int,decide ((out++[x]).length+[y].length<=1073741824)=true:=fun x y=>xe (n:=2001) (by rw[dA,List.length_singleton];omega) (by omega)
   obtain⟨d1,r1,e1,b1⟩:=ih (k+1) true ((out++[n])++[l[k]]) (by omega) (by omega) (by simp only[dA,List.length_singleton];omega);obtain⟨d2,r2,e2,b2⟩:=ih (k+1) true (out++[l[k]]) (by omega) (by omega) (by simp only[dA,List.length_singleton];omega);obtain⟨d3,r3,e3,b3⟩:=ih (k+1) done (out++[l[k]]) (by omega) (by omega) (by simp only[dA,List.length_singleton];omega);simp only[bV,getD_lt h1,c1,c2,ct,dY,h1,cI,cQ,bn,aE,bN h1 (by omega:l.length<2^62)];cases (!done&&decide (n<=l[k]))
   ·exact⟨d3,r3,e3,b3⟩
   ·cases decide (n<l[k])
    ·exact⟨d2,r2,e2,b2⟩
    ·exact⟨d1,r1,e1,b1⟩
  ·rw[dj (by omega),aZ];exact⟨_,_,rfl,by omega⟩
theorem DO(l:List Int)(n:Int)(hl:l.length<=1000):∃r,M.ako l n=some r:=by
 obtain⟨d,r,e,hr⟩:=YR l n hl an 0 false [] (by have:=cJ;omega) (dJ _) (dJ _);unfold M.ako;rw[show M.mM l n an false 0 []=_ from e];have c:∀x:Int,decide (r.length+[x].length<=1073741824)=true:=fun x=>xe (n:=2000) (by omega) (by omega)
 simp only[c,aD,aE];cases d
 ·exact⟨_,rfl⟩
 ·exact⟨_,rfl⟩
theorem YS(l:List Int)(n:Int)(hl:l.length<=1000):∀f k (out:List Int),l.length-k<f->k<=l.length->out.length<=k->
 ∃r,M.ot l n f (k:Int) out=some r/\r.length<=l.length:=by
 intro f
 induction f with
 |zero=>intro k out h;omega
 |succ f ih=>
  intro k out hk hk2 ho;rw[M.ot];rcases fY k l.length with h1|h1
  ·have c1:∀x:Int,decide (out.length+[x].length<=1073741824)=true:=fun x=>xe (n:=2000) (by omega) (by omega)
   obtain⟨r2,e2,b2⟩:=ih (k+1) (out++[l[k]]) (by omega) (by omega) (by simp only[dA,List.length_singleton];omega);obtain⟨r3,e3,b3⟩:=ih (k+1) out (by omega) (by omega) (by omega);simp only[bV,getD_lt h1,c1,ct,dY,h1,cI,bn,aE,bN h1 (by omega:l.length<2^62)];cases (l[k] !=n)
   ·exact⟨r3,e3,b3⟩
   ·exact⟨r2,e2,b2⟩
  ·rw[dj (by omega),aZ];exact⟨_,rfl,by omega⟩
theorem KU(l:List Int)(n:Int)(hl:l.length<=1000):∃r,M.mO l n=some r/\r.length<=l.length:=by
 obtain⟨r,e,hr⟩:=YS l n hl an 0 [] (by have:=cJ;omega) (dJ _) (dJ _);unfold M.mO;rw[show M.ot l n an 0 []=_ from e];exact⟨r,rfl,hr⟩
def kJ(o2:List ad)(l:List Int):Bool:=l.any fun id=>ix (cV o2 id)
theorem YT(w:ai)(l:List Int):iQ w l=kJ w.aC l:=rfl
theorem YU(t:ad):(!(((t.bU||(t.Status==4))||(t.Status==5)))||t.Told)= !ix t:=by
 unfold ix KF;cases ((t.bU||(t.Status==4))||(t.Status==5))<;>cases t.Told<;>rfl
abbrev T5 :=(List ar)×(List ae)×(List ad)×(List Int)×(List az)
theorem YV{id:Int}{t:Nat}(w:List ar)(o2:List ad)(o1:List ae)(o3:List Int)(o4:List az)(hn:o2.length<=1000)(h4:o4.length<=500)(ht:t<o2.length)
 (hl:(o2.getD t ad.zero).Set.length<=8) (hs:∀x∈(o2.getD t ad.zero).Set,1<=x/\x<=(o2.length:Int)) (hL:∀u∈o2,u.Set.length<=8):∀f k,(o2.getD t ad.zero).Set.length-k<f->
 (kJ o2 ((o2.getD t ad.zero).Set.drop k)=true->∃t' n',M.mP id t w o2 o1 o3 o4 f (k:Int)=some (.inl (true,w,o1,t',o3,n'))/\t'.length=o2.length/\n'.length=o4.length+1)/\
 (kJ o2 ((o2.getD t ad.zero).Set.drop k)=false->M.mP id t w o2 o1 o3 o4 f (k:Int)=some (.inr (w,o1,o2,o3,o4))):=by
 intro f
 induction f with
 |zero=>intro k h;omega
 |succ f ih=>
  intro k hk;rw[M.mP];generalize hset:(o2.getD t ad.zero).Set=set at*
  rcases fY k set.length with h1|h1
  ·have hx:=hs set[k] (cn h1)
   obtain⟨w1,w2⟩:=jD hx hn;have ih':=ih (k+1) (by omega);rw[jZ h1];simp only[bV,getD_lt h1,w1,w2,YU,ct,dY,h1,cI,bJ,cQ,bn,aE,bN h1 (by omega:set.length<2^62)];have er:kJ o2 (set[k]::set.drop (k+1))=(ix (cV o2 set[k])||kJ o2 (set.drop (k+1))):=rfl;rw[er];have eT:o2.getD (set[k]-1).toNat ad.zero=cV o2 set[k]:=rfl;rw[eT]
   cases hb:ix (cV o2 set[k])
   ·simp only[fA,aE,jw];exact ih'
   ·simp only[dG,aZ,cQ];refine⟨fun _=>?_,(fun q=>by cases q)⟩;have hy:cV o2 set[k]∈o2:=by
     unfold cV;rw[getD_lt (show(set[k]-1).toNat<o2.length by omega)];exact cn _
    generalize cV o2 set[k]=y at*
    generalize hq:o2.set (set[k]-1).toNat (ad.mk y.Id y.Prog y.PC y.dy y.Status y.Result y.bU y.Asked true y.bg y.Set)=q4;have hq5:(q4.getD t ad.zero).Set.length<=1000:=by
     have hm:q4.getD t ad.zero∈q4:=by
      rw[getD_lt (by rw[<-hq,f0];exact ht)];exact cn _
     subst hq;rcases List.mem_or_eq_of_mem_set hm with q|q
     ·have:=hL _ q;omega
     ·rw[q];have:=hL _ hy;simp only;omega
    obtain⟨r,ec,-⟩:=KU (q4.getD t ad.zero).Set (q4.getD (set[k]-1).toNat ad.zero).Id hq5;simp only[ec,lF _ _ _ _ _ _ _ _ (show o4.length<=1000 by omega),bf,aQ,bn,aE];refine⟨_,_,rfl,?_,?_⟩
    ·rw[f0,<-hq,f0]
    ·rw[dA];rfl
  ·rw[List.drop_eq_nil_of_le h1];simp only[dj (show ¬(k:Int)<(set.length:Int) by omega),aZ];exact⟨(fun q=>by cases q),fun _=>trivial⟩
theorem YW{id:Int}{w:List ar}{o1:List ae}{o2:List ad}{o3:List Int}{o4:List az}(h:WV (ai.mk w o1 o2 o3 o4))(hi:1<=id/\id<=(o2.length:Int)):
 (kJ o2 (cV o2 id).Set=true->∃t' n',M.ou id w o1 o2 o3 o4=some (true,w,o1,t',o3,n')/\t'.length=o2.length/\n'.length=o4.length+1)/\
 (kJ o2 (cV o2 id).Set=false->M.ou id w o1 o2 o3 o4=some (false,w,o1,o2,o3,o4)):=by
 have h8:o2.length<=8:=h.tasks;have h4:o4.length<=120:=h.notes;obtain⟨w1,w2⟩:=jD hi (show o2.length<=1000 by omega);have hT:=(qw h hi.1 hi.2).1;have hL:∀u∈o2,u.Set.length<=8:=fun u hu=>by
  obtain⟨k,hk,e⟩:=jx hu;have:=(KH h (k:=k) hk).1.mL;rw[show(ai.mk w o1 o2 o3 o4).aC=o2 from rfl,getD_lt hk,e]at this;exact this
 have key:=YV (id:=id) (t:=(id-1).toNat) w o2 o1 o3 o4 (by omega) (by omega) (by omega) hT.mL hT.set hL an 0 (by have:=cJ;have:(o2.getD (id-1).toNat ad.zero).Set.length<=8:=hT.mL;omega);rw[iy]at key;unfold M.ou;simp only[w1,w2,bn,aE];refine⟨fun q=>?_,fun q=>?_⟩
 ·obtain⟨t',n',e,r⟩:=key.1 q;rw[show M.mP id (id-1).toNat w o2 o1 o3 o4 an 0=_ from e];exact⟨t',n',rfl,r⟩
 ·rw[show M.mP id (id-1).toNat w o2 o1 o3 o4 an 0=_ from key.2 q]
theorem YX{id:Int}{o:aw}{w:List ar}{o1:List ae}{o2:List ad}{o3:List Int}{o4:List az}(h:WV (ai.mk w o1 o2 o3 o4))(hi:1<=id/\id<=(o2.length:Int))(ha:0<=o.A):
 ∃x,M.tr id o w o1 o2 o3 o4=some (0,x):=by
 have h8:o2.length<=8:=h.tasks;have h4:o4.length<=120:=h.notes;obtain⟨w1,w2⟩:=jD hi (show o2.length<=1000 by omega);have hT:TV (ai.mk w o1 o2 o3 o4) (cV o2 id):=(qw h hi.1 hi.2).1;obtain⟨xf,ef⟩:=xd w o1 o3 hi (show o2.length<=1000 by omega) (show o4.length<=1000 by omega);have eT:o2.getD (id-1).toNat ad.zero=cV o2 id:=rfl;unfold M.tr;simp only[w1,w2,eT,ef,bf,aQ,bn,aE];by_cases hl:((cV o2 id).bg.length:Int)<=o.A
 ·rw[cy hl];exact⟨_,rfl⟩
 ·rw[dj hl,aZ];have hx:(cV o2 id).bg.getD o.A.toNat 0∈(cV o2 id).bg:=by
   rw[getD_lt (show o.A.toNat<(cV o2 id).bg.length by omega)];exact cn _
  have hx2:=hT.subs _ hx;have iA:inB o.A (cV o2 id).bg.length=true:=fS ⟨ha,by omega⟩;generalize (cV o2 id).bg.getD o.A.toNat 0=x at*;have hx3:1<=x/\x<=(o2.length:Int):=hx2;obtain⟨v1,v2⟩:=jD hx3 (show o2.length<=1000 by omega);have hX:=(qw h hx3.1 hx3.2).2;have hX2:(cV o2 x).Id=x:=hX;have eX:o2.getD (x-1).toNat ad.zero=cV o2 x:=rfl;simp only[v1,v2,iA,eX,hX2,bf,aQ,bn,aE];cases (o.Kind==(2:Int))
  ·simp only[aZ];cases ((cV o2 x).Status==(1:Int))
   ·simp only[aZ];cases (decide ((3:Int)<=(cV o2 x).Status))
    ·simp only[fA,aE];generalize hq:o2.set (x-1).toNat _=q;have xg:q.length=o2.length:=by rw[<-hq,f0]
     obtain⟨y,e⟩:=gI (id:=id) w o1 (o2:=q) o3 o4 (by rw[xg];exact hi) (by omega);simp only[e,bf,aQ,aE];exact⟨_,rfl⟩
    ·obtain⟨y,e⟩:=gI w o1 o3 o4 hi (show o2.length<=1000 by omega);simp only[e,dG,aZ,bf,aQ,aE,bn];exact⟨_,rfl⟩
   ·obtain⟨t',n',e,e1,e2⟩:=DL w o1 o3 hx3 (show o2.length<=1000 by omega) (show o4.length<=1000 by omega);obtain⟨y,e'⟩:=gI (id:=id) w o1 (o2:=t') o3 n' (by rw[e1];exact hi) (by omega);simp only[e,e',aE,bf,aQ,bn];exact⟨_,rfl⟩
  ·simp only[aE];obtain⟨r,ep⟩:=DO (cV o2 id).Set x (by have:=hT.mL;omega);simp only[ep,bf,aQ];generalize hq:o2.set (id-1).toNat _=q;have xg:q.length=o2.length:=by rw[<-hq,f0]
   obtain⟨y,e⟩:=gI (id:=id) w o1 (o2:=q) o3 o4 (by rw[xg];exact hi) (by omega);simp only[e,bf,aQ,aE,bn];exact⟨_,rfl⟩
end M
namespace M
open Go.V (inB cC an cJ)
theorem KV{id:Int}(r:Int)(w:List ar)(o1:List ae){o2:List ad}(o3:List Int){o4:List az}(hi:1<=id/\id<=(o2.length:Int))(hn:o2.length<=1000)(h:o4.length<=1000):
 ∃t' n',M.ov id r w o1 o2 o3 o4=some (w,o1,t',o3,n')/\t'.length=o2.length/\n'.length=o4.length+1:=by
 obtain⟨e1,e2⟩:=jD hi hn;unfold M.ov;simp only[lF _ _ _ _ _ _ _ _ h,e1,e2,bf,aQ,bn,aE];exact⟨_,_,rfl,by rw[f0,f0],by rw[dA];rfl⟩
def opC(w:ai)(t:ad)(o:aw):Int:=
 bif o.Kind==1 then bif decide ((w.aT.length:Int)<=o.A)then 0 else bif decide ((8:Int)<=(w.aC.length:Int))then 4 else 0
 else bif o.Kind==3 then bif(t.Set.length:Int)==0 then 0 else bif kJ w.aC t.Set then 0 else tj t
 else bif(o.Kind==5)||(o.Kind==6)then oq w.aX o t else 0
theorem YY{id:Int}{o:aw}{w:List ar}{o1:List ae}{o2:List ad}{o3:List Int}{o4:List az}(h:WV (ai.mk w o1 o2 o3 o4))(hi:1<=id/\id<=(o2.length:Int))(ha:0<=o.A)
 (hb:o.Kind=5\/o.Kind=6->1<=o.B/\o.B<=4) (hk:1<=o.Kind/\o.Kind<=12) (hs:∀s∈o1,SH s):
 ∃x,M.tu id o w o1 o2 o3 o4=some (opC (ai.mk w o1 o2 o3 o4) (cV o2 id) o,x):=by
 have h8:o2.length<=8:=h.tasks;have h4:o4.length<=120:=h.notes;have hB:o3.length<=6:=h.back;obtain⟨w1,w2⟩:=jD hi (show o2.length<=1000 by omega);have hT:TV (ai.mk w o1 o2 o3 o4) (cV o2 id):=(qw h hi.1 hi.2).1;obtain⟨xf,ef⟩:=xd w o1 o3 hi (show o2.length<=1000 by omega) (show o4.length<=1000 by omega);obtain⟨xn,en⟩:=gI w o1 o3 o4 hi (show o2.length<=1000 by omega);have eT:o2.getD (id-1).toNat ad.zero=cV o2 id:=rfl;have hP:inB (cV o2 id).Prog w.length=true:=fS hT.prog;have ev:=YW h hi;have hK:o.Kind=1\/o.Kind=2\/o.Kind=3\/o.Kind=4\/o.Kind=5\/o.Kind=6\/o.Kind=7\/o.Kind=8\/o.Kind=9\/o.Kind=10\/o.Kind=11\/o.Kind=12:=by omega
 obtain⟨xst,est⟩:=YQ (o:=o) w o3 hi (show o2.length<=1000 by omega) (show o4.length<=500 by omega) ha hb hs;obtain⟨xsu,KW⟩:=YX (o:=o) h hi ha;unfold M.tu opC;rcases hK with k|k|k|k|k|k|k|k|k|k|k|k
 ·
  simp only[k,Int.reduceBEq,aE,aZ,w1,w2,bn,ef,bf,aQ];cases decide ((w.length:Int)<=o.A)
  ·simp only[aZ];by_cases c:(8:Int)<=(o2.length:Int)
   ·rw[cy c];exact⟨_,rfl⟩
   ·rw[dj c];simp only[aZ];have es:M.tw o.A id w o1 o2 o3 o4=some (Go.IntKind.wrap .i64 ((o2.length:Int)+1),w,o1,o2++[ad.mk (Go.IntKind.wrap .i64 ((o2.length:Int)+1)) o.A 0 id 1 0 false false false [] []],o3,o4):=by
     unfold M.tw;have:∀x:ad,decide (o2.length+[x].length<=1073741824)=true:=fun x=>xe (n:=8) h8 (by omega)
     simp only[this,aD,aE]
    rw[es];simp only[bf,aQ];generalize ad.mk (Go.IntKind.wrap .i64 ((o2.length:Int)+1)) o.A 0 id 1 0 false false false [] []=y;have hq:(o2++[y]).getD (id-1).toNat ad.zero=cV o2 id:=by
     unfold cV;rw[getD_lt (show(id-1).toNat<(o2++[y]).length by rw[dA,List.length_singleton];omega),getD_lt (show(id-1).toNat<o2.length by omega),List.getElem_append_left]
    rw[hq];obtain⟨r,ep⟩:=DO (cV o2 id).bg (Go.IntKind.wrap .i64 ((o2.length:Int)+1)) (by have:=hT.Ys;omega);have hi2:inB (id-1) (o2++[y]).length=true:=fS ⟨by omega,by rw[dA,List.length_singleton];omega⟩;rw[ep,hi2];simp only[bf,aQ];generalize hz:(o2++[y]).set (id-1).toNat _=q;have xg:q.length=o2.length+1:=by rw[<-hz,f0,dA,List.length_singleton]
    obtain⟨z,e⟩:=gI (id:=id) w o1 (o2:=q) o3 o4 (by rw[xg];omega) (by omega);simp only[e,bf,aQ,aE,bn];exact⟨_,rfl⟩
  ·exact⟨_,rfl⟩
 ·simp only[k,Int.reduceBEq,aE,aZ,w1,w2,bn,KW,bf,aQ,ej,jw,jf,cQ];exact⟨_,rfl⟩
 ·
  simp only[k,Int.reduceBEq,aE,aZ,w1,w2,eT,ef,bn,bf,aQ,ej,jw,jf,cQ];cases ((cV o2 id).Set.length:Int)==0
  ·simp only[aZ];cases hr:kJ o2 (cV o2 id).Set
   ·obtain⟨xw,ew⟩:=DN w o1 o3 hi (show o2.length<=1000 by omega) (show o4.length<=1000 by omega);simp only[ev.2 hr,ew,bf,aQ,fA,aE,aZ,bn];exact⟨_,rfl⟩
   ·obtain⟨t',n',e,e1,e2⟩:=ev.1 hr;obtain⟨y,e'⟩:=gI (id:=id) w o1 (o2:=t') o3 n' (by rw[e1];exact hi) (by omega);simp only[e,e',bf,aQ,dG,aE,aZ,bn];exact⟨_,rfl⟩
  ·exact⟨_,rfl⟩
 ·
  simp only[k,Int.reduceBEq,aE,aZ,w1,w2,bn,bf,aQ,ej,jw,jf,cQ];cases hr:kJ o2 (cV o2 id).Set
  ·obtain⟨y,e'⟩:=gI (id:=id) w o1 (o2:=o2) o3 (o4++[az.mk id 4 0 0]) hi (by omega);simp only[ev.2 hr,lF _ _ _ _ _ _ _ _ (show o4.length<=1000 by omega),e',bf,aQ,fA,aE,aZ,bn];exact⟨_,rfl⟩
  ·obtain⟨t',n',e,e1,e2⟩:=ev.1 hr;obtain⟨y,e'⟩:=gI (id:=id) w o1 (o2:=t') o3 n' (by rw[e1];exact hi) (by omega);simp only[e,e',bf,aQ,dG,aE,aZ,bn];exact⟨_,rfl⟩
 ·simp only[k,Int.reduceBEq,aE,aZ,w1,w2,bn,est,bf,aQ,ej,jw,jf,cQ];exact⟨_,rfl⟩
 ·simp only[k,Int.reduceBEq,aE,aZ,w1,w2,bn,est,bf,aQ,ej,jw,jf,cQ];exact⟨_,rfl⟩
 ·have hz:oq o1 o (cV o2 id)=0:=by unfold oq;rw[k];simp only[Int.reduceBEq,aZ];cases decide ((o1.length:Int)<=o.A)<;>rfl
  simp only[k,Int.reduceBEq,aE,aZ,w1,w2,bn,est,hz,bf,aQ,ej,jw,jf,cQ];exact⟨_,rfl⟩
 ·have hz:oq o1 o (cV o2 id)=0:=by unfold oq;rw[k];simp only[Int.reduceBEq,aZ];cases decide ((o1.length:Int)<=o.A)<;>rfl
  simp only[k,Int.reduceBEq,aE,aZ,w1,w2,bn,est,hz,bf,aQ,ej,jw,jf,cQ];exact⟨_,rfl⟩
 ·
  obtain⟨t',n',e,e1,e2⟩:=KV o.A w o1 o3 hi (show o2.length<=1000 by omega) (show o4.length<=1000 by omega);obtain⟨y,e'⟩:=gI (id:=id) w o1 (o2:=t') o3 n' (by rw[e1];exact hi) (by omega);simp only[k,Int.reduceBEq,aE,aZ,w1,w2,eT,ef,e,e',bn,bf,aQ,ej,jw,jf,cQ];cases (cV o2 id).bU
  ·exact⟨_,rfl⟩
  ·exact⟨_,rfl⟩
 ·simp only[k,Int.reduceBEq,aE,aZ,w1,w2,bn,KW,bf,aQ,ej,jw,jf,cQ];exact⟨_,rfl⟩
 ·
  simp only[k,Int.reduceBEq,aE,aZ,w1,w2,eT,hP,bn,bf,aQ,ej,jw,jf,cQ];generalize (List.getD w (Int.toNat (cV o2 id).Prog) ar.zero).dQ=n;obtain⟨r,ec,hr⟩:=KU o3 n (by omega);obtain⟨r2,ep⟩:=DO r n (by omega);obtain⟨y,e⟩:=gI w o1 r o4 hi (show o2.length<=1000 by omega);obtain⟨y2,e2⟩:=gI w o1 r2 o4 hi (show o2.length<=1000 by omega);simp only[ec,ep,e,e2,bf,aQ,bn,aE];cases (o.A==(1:Int))
  ·exact⟨_,rfl⟩
  ·exact⟨_,rfl⟩
 ·
  obtain⟨t',n',e,e1,e2⟩:=DL w o1 o3 hi (show o2.length<=1000 by omega) (show o4.length<=1000 by omega);simp only[k,Int.reduceBEq,aE,aZ,w1,w2,eT,e,en,bn,bf,aQ,ej,jw,jf,cQ];cases ((cV o2 id).Asked&& !(cV o2 id).bU)
  ·exact⟨_,rfl⟩
  ·exact⟨_,rfl⟩
theorem YZ{w:ai}(h:WV w)(l:List Int)(hl:l.length<=8)(hs:∀x∈l,1<=x/\x<=(w.aC.length:Int)):M.tz w l=some (iQ w l):=by
 have h8:=h.tasks;have e:=jE (p:=fun id=>ix (cm w id)) (F:=M.qD w l) (e:=()) (fun _=>true) l (by omega) (fun f k hk=>by
  rw[M.qD];obtain⟨v1,v2⟩:=jD (hs _ (cn hk)) (show w.aC.length<=1000 by omega);have eX:w.aC.getD (l[k]-1).toNat ad.zero=cm w l[k]:=rfl;have eN:∀t:ad,(((t.bU||(t.Status==4))||(t.Status==5))&& !t.Told)=ix t:=fun t=>rfl
  simp only[getD_lt hk,bV,ct,dY,hk,cI,aE,v1,v2,eX,eN,bn,bN hk (by omega:l.length<2^62)]) (fun f=>by
  rw[M.qD];simp)
 unfold M.tz iQ;rw[e,jF];cases l.findIdx? (fun id=>ix (cm w id))<;>rfl
theorem Y0{w:ai}(h:WV w){id:Int}(hi:1<=id/\id<=(w.aC.length:Int)):M.tA w id=some (s7 w (cm w id)):=by
 have h8:=h.tasks;obtain⟨v1,v2⟩:=jD hi (show w.aC.length<=1000 by omega);have hT:=(qw h hi.1 hi.2).1;have eX:w.aC.getD (id-1).toNat ad.zero=cm w id:=rfl;have hP:inB (cm w id).Prog w.aT.length=true:=fS hT.prog;have eh:=KX w.Back (instOf w (cm w id)) (by have:=h.back;omega);have eR:=YZ h (cm w id).Set hT.mL hT.set;have hop:=fun he:atEnd w (cm w id)=false=>xb h hT he
 have hpc:atEnd w (cm w id)=false->inB (cm w id).PC (opsOf w (cm w id)).length=true:=fun he=>fS ⟨hT.pc.1,by have:=(hop he).1;omega⟩
 unfold M.tA s7;simp only[v1,v2,eX,bn];generalize cm w id=t at*;have eI:(w.aT.getD t.Prog.toNat ar.zero).dQ=instOf w t:=rfl;have eO:(w.aT.getD t.Prog.toNat ar.zero).Ops=opsOf w t:=rfl;have eE:(t.PC==((opsOf w t).length:Int))=atEnd w t:=rfl;have eN:(opsOf w t).getD t.PC.toNat aw.zero=cU w t:=rfl;simp only[eI,eO,eE,eN,eh,hP,bn,aD,bf,aQ,aE];cases (t.Status==(1:Int))
 ·simp only[aZ];cases he:atEnd w t
  ·obtain⟨-,hA,-⟩:=hop he;simp only[jw,fA,bJ,hpc he,bn,aD,aE];have hb:qt w t (cU w t)=(bif(cU w t).Kind==3 then decide ((0:Int)<(t.Set.length:Int))&& !iQ w t.Set else bif(cU w t).Kind==5 then decide ((cU w t).A<(w.aX.length:Int))&&(!(jA w (cU w t).A).Shut&& !mJ (jA w (cU w t).A))
    else bif(cU w t).Kind==6 then decide ((cU w t).A<(w.aX.length:Int))&&(!(jA w (cU w t).A).Gone&& !oe (jA w (cU w t).A))else false):=by
    unfold qt;simp only[cond_eq_ite,jc]
   rw[hb];have eS:w.aX.getD (cU w t).A.toNat ae.zero=jA w (cU w t).A:=rfl;simp only[eS,eR,KR,KT,ae.aG,bf,aQ,cQ,bJ,aE];have hin:(inB (cU w t).A w.aX.length|| !(decide ((cU w t).A<(w.aX.length:Int))==true))=true:=by
    by_cases c:(cU w t).A<(w.aX.length:Int)
    ·rw[fS ⟨hA,c⟩];rfl
    ·rw[dj c];cases inB (cU w t).A w.aX.length<;>rfl
   have hin2:∀b:Bool,(inB (cU w t).A w.aX.length|| !((decide ((cU w t).A<(w.aX.length:Int))&&b)==true))=true:=fun b=>by
    by_cases c:(cU w t).A<(w.aX.length:Int)
    ·rw[fS ⟨hA,c⟩];rfl
    ·rw[dj c];cases inB (cU w t).A w.aX.length<;>rfl
   simp only[hin,hin2,bn,aE,Bool.and_assoc];generalize cU w t=o;generalize jA w o.A=s;generalize decide (o.A<(w.aX.length:Int))=b1;generalize iQ w t.Set=b2;generalize decide ((0:Int)<(t.Set.length:Int))=b3;cases t.Asked<;>cases t.bU<;>cases (o.Kind==(3:Int))<;>cases (o.Kind==(5:Int))<;>cases (o.Kind==(6:Int))<;>simp
  ·rfl
 ·rfl
end M
namespace M
open Go.V (inB cC an cJ)
theorem DR(l:List Int)(h:l.length<=1048576):M.ow l=some l:=by
 unfold M.ow;rw[cy (show 0+l.length<=1073741824 by omega)];rfl
theorem Y1(l:List ar)(hl:l.length<=1048576)(h:∀p∈l,p.Ops.length<=1048576):M.tB l=some l:=by
 unfold M.tB;rw[wX (F:=M.qE l) (h:=some) id l hl [] (fun f k out hk ho=>by
  rw[M.qE];have e:=h l[k] (cn hk);have hc:∀x:ar,decide (out.length+[x].length<=1073741824)=true:=fun x=>by rw[bC,List.length_singleton];simp at ho;omega
  have hd:decide (0+l[k].Ops.length<=1073741824)=true:=by rw[bC];omega
  simp only[dY,hk,cI,aE,bV,getD_lt hk,ct,hc,hd,bn,bN hk (dP hl),kz,id]) (fun f out=>by rw[M.qE];simp)]
 simp
theorem Y2{w:ai}(hz:w.sz<=1048576):M.tC w=some (w.aT,w,w.aX,w.aC,w.Back,w.Notes):=by
 obtain⟨hw,hp,hs,hs2,hb,hn⟩:=zz hz;unfold M.tC;have l0:∀a b c d e f g i j,M.ox w a b c d e f g i j an 0 []=some (w,a,b,c,d,e,f,w.aX,g,i,j):=fun a b c d e f g i j=>by
  have:=wX (F:=M.ox w a b c d e f g i j) (h:=fun o=>some (w,a,b,c,d,e,f,o,g,i,j)) id w.aX hs [] (fun fu k out hk ho=>by
   rw[M.ox];have e:=Yd w.aX[k] (hs2 _ (cn hk));have hc:∀x:ae,decide (out.length+[x].length<=1073741824)=true:=fun x=>by rw[bC,List.length_singleton];simp at ho;omega
   simp only[ae.aG,dY,hk,cI,aE,bV,getD_lt hk,e,ct,hc,bf,aQ,bn,bN hk (dP hs),id]) (fun fu out=>by rw[M.ox];simp)
  simpa using this
 have l1:∀a b c d e f g i j,M.oy w a b c d e f g i j an 0 []=some (w.aT,w.aX,w.aC,w.Back,w.Notes,a,b,c,d,e,f,g,w.aC,i,j):=fun a b c d e f g i j=>by
  have:=wX (F:=M.oy w a b c d e f g i j) (h:=fun o=>some (w.aT,w.aX,w.aC,w.Back,w.Notes,a,b,c,d,e,f,g,o,i,j)) id w.aC hw.tasks [] (fun fu k out hk ho=>by
   rw[M.oy];have hh:=hw.subs w.aC[k] (cn hk);have e1:=DR w.aC[k].bg hh.1;have e2:=DR w.aC[k].Set hh.2;have hc:∀x:ad,decide (out.length+[x].length<=1073741824)=true:=fun x=>by rw[bC,List.length_singleton];have:=hw.tasks;simp at ho;omega
   simp only[dY,hk,cI,aE,bV,getD_lt hk,e1,e2,ct,hc,bf,aQ,bn,bN hk (dP hw.tasks),id]) (fun fu out=>by rw[M.oy];simp)
  simpa using this
 have hd:decide (0+w.Notes.length<=1073741824)=true:=by rw[bC];omega
 simp only[Y1 _ hw.j5 hp,DR w.Back hb,l0,l1,hd,bf,aQ,bn,aE,kz]
theorem Y3{w:ai}(h:WV w)(hz:w.sz<=1048576)(id:Int):∃c x,M.tD id w.aT w.aX w.aC w.Back w.Notes=some (c,x)/\c=s8 w id:=by
 have h8:=h.tasks;have h4:=h.notes;have hs:∀s∈w.aX,SH s:=fun s hs'=>YI (h.str s hs') ((zz hz).2.2.2.1 s hs')
 unfold M.tD s8;by_cases hid:1<=id/\id<=(w.aC.length:Int)
 ·have hT:=(qw h hid.1 hid.2).1;obtain⟨w1,w2⟩:=jD hid (show w.aC.length<=1000 by omega);have eT:w.aC.getD (id-1).toNat ad.zero=cm w id:=rfl;have eH:=Y0 h hid;have hP:inB (cm w id).Prog w.aT.length=true:=fS hT.prog;have hop:=fun he:atEnd w (cm w id)=false=>xb h hT he
  have hpc:atEnd w (cm w id)=false->inB (cm w id).PC (opsOf w (cm w id)).length=true:=fun he=>fS ⟨hT.pc.1,by have:=(hop he).1;omega⟩
  have eO:(w.aT.getD (cm w id).Prog.toNat ar.zero).Ops=opsOf w (cm w id):=rfl;have eE:((cm w id).PC==((opsOf w (cm w id)).length:Int))=atEnd w (cm w id):=rfl;have eN:(opsOf w (cm w id)).getD (cm w id).PC.toNat aw.zero=cU w (cm w id):=rfl;have eW:ai.mk w.aT w.aX w.aC w.Back w.Notes=w:=rfl;rw[cy hid.1,cy hid.2];simp only[bn,dG,aZ,aE,w1,w2,eT,eW,eH,hP,eO,eE,eN,bf,aQ,cQ];cases ho:(decide (3<=(cm w id).Status)||s7 w (cm w id))
  ·simp only[aZ];by_cases hn:(116:Int)<(w.Notes.length:Int)
   ·rw[cy hn];exact⟨_,_,rfl,rfl⟩
   ·rw[dj hn];simp only[aZ];have hst:=hT.status;rw[qu,fO]at ho;by_cases h1:(cm w id).Status=1
    ·rw[show((cm w id).Status==(1:Int))=true from jc.2 h1,show((cm w id).Status==(2:Int))=false from ed.2 (by omega)];simp only[lF _ _ _ _ _ _ _ _ (show w.Notes.length<=1000 by omega),bf,aQ,bn,aE];exact⟨_,_,rfl,rfl⟩
    ·have h2:(cm w id).Status=2:=by omega
     rw[show((cm w id).Status==(1:Int))=false from ed.2 h1,show((cm w id).Status==(2:Int))=true from jc.2 h2];simp only[aZ,bJ];cases he:atEnd w (cm w id)
     ·obtain⟨alU,hA,-,hB,hK1,hK2⟩:=hop he;obtain⟨x,e⟩:=YY (o:=cU w (cm w id)) (w:=w.aT) (o1:=w.aX) (o2:=w.aC) (o3:=w.Back) (o4:=w.Notes) h hid hA hB ⟨hK1,hK2⟩ hs;simp only[aZ,e,hpc he,bf,aQ,bn,aE,fA,bJ];refine⟨_,_,rfl,?_⟩;have hh:=ho.2;unfold s7 at hh;rw[show((cm w id).Status==(1:Int))=false from ed.2 h1,he]at hh;simp only[aZ,fA,bJ]at hh;rw[show cV w.aC id=cm w id from rfl,eW];unfold opC DG oq zx zy tj;unfold qt at hh;rw[YT]at hh;generalize cm w id=t at*;generalize cU w t=o at*;have eS:w.aX.getD o.A.toNat ae.zero=jA w o.A:=rfl;rw[eS];generalize jA w o.A=s at*;generalize kJ w.aC t.Set=b1 at*;by_cases k1:o.Kind=1
      ·have l8:decide ((8:Int)<=(w.aC.length:Int))=((w.aC.length:Int)==8):=by
        by_cases c:(8:Int)<=(w.aC.length:Int)
        ·rw[cy c,eq_comm,jc];omega
        ·rw[dj c,eq_comm,ed];omega
       have lA:decide ((w.aT.length:Int)<=o.A)= !decide (o.A<(w.aT.length:Int)):=by rw[<-hQ];simp only[cP];omega
       rw[k1,l8,lA];simp only[Int.reduceBEq,aE,bJ];cases decide (o.A<(w.aT.length:Int))<;>cases ((w.aC.length:Int)==8)<;>rfl
      ·rw[show(o.Kind==(1:Int))=false from ed.2 k1];simp only[aZ,lu];by_cases k3:o.Kind=3
       ·rw[aF k3]at hh;rw[show(o.Kind==(3:Int))=true from jc.2 k3];simp only[aE];have lz:decide ((0:Int)<(t.Set.length:Int))= !((t.Set.length:Int)==0):=by
         by_cases c:(0:Int)<(t.Set.length:Int)
         ·rw[cy c,eq_comm,eQ,ed];omega
         ·rw[dj c,eq_comm,Bool.not_eq_false',jc];omega
        rw[lz]at hh;cases hb:((t.Set.length:Int)==0)<;>cases b1<;>cases hA:t.Asked<;>cases hR:t.bU<;>simp[hb,hA,hR]at hh⊢
       ·rw[bF k3]at hh;rw[show(o.Kind==(3:Int))=false from ed.2 k3];simp only[aZ];have lS:decide ((w.aX.length:Int)<=o.A)= !decide (o.A<(w.aX.length:Int)):=by rw[<-hQ];simp only[cP];omega
        rw[lS];by_cases k5:o.Kind=5
        ·rw[aF k5]at hh;rw[show(o.Kind==(5:Int))=true from jc.2 k5];cases hl:decide (o.A<(w.aX.length:Int))<;>cases hS:s.Shut<;>cases hW:mJ s<;>cases hA:t.Asked<;>cases hR:t.bU<;>simp[hl,hS,hW,hA,hR]at hh⊢
        ·rw[bF k5]at hh;rw[show(o.Kind==(5:Int))=false from ed.2 k5];by_cases k6:o.Kind=6
         ·rw[aF k6]at hh;rw[show(o.Kind==(6:Int))=true from jc.2 k6];cases hl:decide (o.A<(w.aX.length:Int))<;>cases hS:s.Gone<;>cases hW:oe s<;>cases hA:t.Asked<;>cases hR:t.bU<;>simp[hl,hS,hW,hA,hR]at hh⊢
         ·rw[show(o.Kind==(6:Int))=false from ed.2 k6];rfl
     ·simp only[aE,dG,lu,aZ];obtain⟨t',n',e,e1,e2⟩:=KV 0 w.aT w.aX w.Back hid (show w.aC.length<=1000 by omega) (show w.Notes.length<=1000 by omega);have hin:inB (id-1) t'.length=true:=by rw[e1];exact w2
      cases (cm w id).bU
      ·simp only[fA,aE,e,hin,bf,aQ,bn];exact⟨_,_,rfl,rfl⟩
      ·exact⟨_,_,rfl,rfl⟩
  ·exact⟨_,_,rfl,rfl⟩
 ·have hd:(decide (1<=id)&&decide (id<=(w.aC.length:Int)))=false:=by rw[tg,ne_eq,bk,bC,bC];exact hid
  rw[hd];exact⟨_,_,rfl,rfl⟩
theorem ai.eta(w:ai):ai.mk w.aT w.aX w.aC w.Back w.Notes=w:=rfl
end M
namespace M
open Go.V (inB cC an cJ)
def amm(w:ai):List ad->List Int->List Int
 |[],a=>a
 |t::r,a=>bif s8 w t.Id==0 then[]else amm w r (bif !decide (3<=t.Status)then a++[t.Id]else a)
theorem ano(w:ai):∀(l:List ad)(a:List Int),(amm w l a).length<=a.length+l.length
 |[],a=>cH _
 |t::r,a=>by
  unfold amm;cases (s8 w t.Id==0)
  ·rw[aZ];refine fh (ano w r _) ?_;cases !decide (3<=t.Status)
   ·simp only[aZ,cr];omega
   ·simp only[aE,dA,cr,hU];omega
  ·exact dJ _
def akz(w:ai):List ad->List Int->List Int⊕List Int
 |[],a=>.inr a
 |t::r,a=>bif s8 w t.Id==0 then .inl []else akz w r (bif !decide (3<=t.Status)then a++[t.Id]else a)
theorem am5(w:ai):∀(l:List ad)(a:List Int),akz w l a=.inl (amm w l a)\/akz w l a=.inr (amm w l a)
 |[],a=>.inr rfl
 |t::r,a=>by
  unfold akz amm;cases (s8 w t.Id==0)
  ·exact am5 w r _
  ·exact .inl rfl
theorem aoq{w:ai}(h:WV w):∀f k (a:List Int),w.aC.length-k<f->a.length<=k->
 M.ak4 w.aC (w.aC.length:Int) f (k:Int) w.aT w.aX w.aC w.Back w.Notes a=some (akz w (w.aC.drop k) a):=by
 intro f
 induction f with
 |zero=>intro k a h;omega
 |succ f ih=>
  intro k a hk ha;have h8:=h.tasks;rw[M.ak4];rcases fY k w.aC.length with h1|h1
  ·have hT:=(KH h h1).1;rw[getD_lt h1]at hT;have hst:=hT.status;have hle:(decide ((3:Int)<=w.aC[k].Status)&&decide (w.aC[k].Status<=5))=decide ((3:Int)<=w.aC[k].Status):=by rw[cy hst.2,aD]
   have hc:∀x:Int,decide (a.length+[x].length<=1073741824)=true:=fun x=>xe (n:=8) (by omega) (by omega)
   rw[jZ h1];unfold akz;simp only[bV,getD_lt h1,ai.eta,YD h,hle,hc,aQ,bf,ct,dY,h1,cI,aE,bn,bN h1 (by omega:w.aC.length<2^62)];cases (s8 w w.aC[k].Id==0)
   ·simp only[aZ];cases (!decide ((3:Int)<=w.aC[k].Status))
    ·exact ih (k+1) a (by omega) (by omega)
    ·exact ih (k+1) _ (by omega) (by rw[dA,List.length_singleton];omega)
   ·rfl
  ·rw[dj (by omega),aZ,List.drop_eq_nil_of_le h1];rfl
theorem aor{w:ai}(h:WV w)(hz:w.sz<=1048576):∀f k (a:List Int),w.aC.length-k<f->a.length<=k->
 M.alO f (k:Int) w a=some (akz w (w.aC.drop k) a):=by
 intro f
 induction f with
 |zero=>intro k a h;omega
 |succ f ih=>
  intro k a hk ha;have h8:=h.tasks;rw[M.alO];rcases fY k w.aC.length with h1|h1
  ·have hc:∀x:Int,decide (a.length+[x].length<=1073741824)=true:=fun x=>xe (n:=8) (by omega) (by omega)
   obtain⟨c,x,e,hcx⟩:=Y3 h hz w.aC[k].Id;rw[jZ h1];unfold akz;simp only[bV,getD_lt h1,Y2 hz,e,hcx,hc,aQ,bf,ct,dY,h1,cI,aE,bn,bN h1 (by omega:w.aC.length<2^62)];cases (s8 w w.aC[k].Id==0)
   ·simp only[aZ];cases (!decide ((3:Int)<=w.aC[k].Status))
    ·exact ih (k+1) a (by omega) (by omega)
    ·exact ih (k+1) _ (by omega) (by rw[dA,List.length_singleton];omega)
   ·rfl
  ·rw[dj (by omega),aZ,List.drop_eq_nil_of_le h1];rfl
noncomputable def amA(w:ai):List Int:=bif kD w then amm w w.aC []else[]
theorem aos{w:ai}(hz:w.sz<=1048576):M.amn w=some (amA w):=by
 unfold M.amn amA;rw[YG w hz];cases ha:kD w with
 |false=>rfl
 |true=>
  have h:=KG ha;have e:M.ak4 w.aC (w.aC.length:Int) an 0 w.aT w.aX w.aC w.Back w.Notes []=_:=aoq h an 0 [] (by have:=cJ;have:=h.tasks;omega) (dJ _);rw[iy]at e;simp only[e,aQ,bf,dG,aZ,bn,aE];rcases am5 w w.aC []with q|q<;>rw[q]
theorem aot{w:ai}(hz:w.sz<=1048576):M.amo w=some (amA w):=by
 unfold M.amo amA;rw[Y5 w hz];cases ha:kD w with
 |false=>rfl
 |true=>
  have h:=KG ha;have e:M.alO an 0 w []=_:=aor h hz an 0 [] (by have:=cJ;have:=h.tasks;omega) (dJ _);rw[iy]at e;simp only[e,aQ,bf,dG,aZ,bn,aE];rcases am5 w w.aC []with q|q<;>rw[q]
theorem aou{w:ai}(hz:w.sz<=1048576):(amA w).length<=1048576:=by
 unfold amA;have:=ano w w.aC [];have h:=(zz hz).1.tasks;cases kD w
 ·exact dJ _
 ·rw[aE];simp only[hU]at this;omega
theorem aov(x:ai)(hx:x.Ok):M.amB x=some true:=by
 unfold M.amB;rw[Y7 x 1048576 hx (by omega) (by omega)];by_cases h1:(x.sz:Int)<=1048576
 ·have h:x.sz<=1048576:=by omega
  have n1:¬(1048576-(x.sz:Int)<0):=by omega
  obtain⟨r,hr,er,es⟩:∃r:List Int,r.length<=1048576/\M.amn x=some r/\M.amo x=some r:=⟨_,aou h,aos h,aot h⟩;have e3:=HN r (by rw[KD (fun _ _=>rfl)];exact hr);obtain⟨k,q,em,hk⟩:=aok x h;have n2:¬(k<0):=by omega
  have hm:=aon r 1;have n3:¬((f6 mNu 1 r).1<0):=by omega
  rw[aF h1];simp only[Y8 x h,ai.eta,er,es,e3,Y9 x h,em,aoo r hr 1 (by omega) (by omega),aop r hr 1 (by omega) (by omega),aQ,bf,n1,n2,n3,HO,aZ,aD,bn,bJ,aE,xh,bne_self_eq_false,dG,ej,kB,cQ]
 ·rw[bF h1];simp
end M
