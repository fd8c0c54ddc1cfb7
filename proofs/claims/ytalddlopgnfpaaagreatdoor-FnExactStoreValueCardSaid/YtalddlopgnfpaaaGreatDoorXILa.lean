/-
  HOW TYPES LIE IN MEMORY: sizes, alignments, places, in plain Lean.
-/
import Derived.Test.YtalddlopgnfpaaaGreatDoorXITP
set_option linter.unusedVariables false
namespace M
def cL(a b:Nat):Nat:=(a+b-1)/b*b
def cU(a:Nat):Prop:=a=1\/a=2\/a=4\/a=8
theorem va{a b:Nat}(hb:cU b):a<=cL a b:=by unfold cL;rcases hb with rfl|rfl|rfl|rfl<;>omega
theorem ov{a b:Nat}(hb:cU b):cL a b<a+b:=by unfold cL;rcases hb with rfl|rfl|rfl|rfl<;>omega
theorem cU.le{a:Nat}(h:cU a):1<=a/\a<=8:=by rcases h with rfl|rfl|rfl|rfl<;>omega
theorem FI{a b:Nat}(ha:cU a)(hb:cU b):cU (max a b):=by rcases Nat.le_total a b with h|h<;>simp[Nat.max_eq_left,Nat.max_eq_right,h,ha,hb]
def gi(k:Int):Nat:=
 bif(k==2||(k==3||k==4))then 1 else bif(k==5||k==6)then 2
 else bif(k==7||(k==8||(k==10||(k==20||(k==21||(k==22||k==23))))))then 4 else bif k==9 then 8 else 0
def cb:Nat->Nat->List (Nat×Nat)->List Int×Nat×Nat
 |at_,al,[]=>([],at_,al)
 |at_,al,(s,a)::r=>(((cL at_ a:Nat):Int)::(cb (cL at_ a+s) (max al a) r).1,(cb (cL at_ a+s) (max al a) r).2)
def db:Nat->Nat->List (Nat×Nat)->Nat×Nat
 |sz,al,[]=>(sz,al)
 |sz,al,(s,a)::r=>db (max sz s) (max al a) r
def fQ(k:Int)(l:List (Nat×Nat)):List (Nat×Nat):=if k=13 then[(0,1),l.getD 0 (0,1)]else l
def xB(k:Int)(n:Nat)(l:List (Nat×Nat)):Nat×Nat:=
 if 0<gi k then(gi k,gi k)
 else if k=11\/k=12 then(8,4)
 else if k=18 then(1,1)
 else if k=19 then(if 8<n then(2,2)else(1,1))
 else if k=15\/k=16 then(cL (cb 0 1 l).2.1 (cb 0 1 l).2.2,(cb 0 1 l).2.2)
 else if k=13\/k=14\/k=17 then(cL (cL 1 (db 0 1 (fQ k l)).2+(db 0 1 (fQ k l)).1) (db 0 1 (fQ k l)).2,(db 0 1 (fQ k l)).2)
 else(0,1)
mutual
def lay:aa->Nat×Nat
 |.mk k _ ls ks=>xB k ls.length (lays ks)
def lays:List aa->List (Nat×Nat)
 |[]=>[]
 |t::r=>lay t::lays r
end
theorem lays_map:∀l,lays l=l.map lay
 |[]=>rfl
 |t::r=>by rw[lays,lays_map r];rfl
theorem ow(t:aa):lay t=xB t.Kind t.bm.length (t.Kids.map lay):=by cases t;rw[lay,lays_map];rfl
theorem ac4(k:Int)(h:0<gi k):cU (gi k):=by
 unfold gi at*
 revert h
 cases (k==2||(k==3||k==4))<;>cases (k==5||k==6)<;>cases (k==7||(k==8||(k==10||(k==20||(k==21||(k==22||k==23))))))<;>cases k==9<;>simp[cU]
theorem FK(k:Int):gi k<=8:=by
 unfold gi;cases (k==2||(k==3||k==4))<;>cases (k==5||k==6)<;>cases (k==7||(k==8||(k==10||(k==20||(k==21||(k==22||k==23))))))<;>cases k==9<;>simp
theorem xC:∀(l:List (Nat×Nat))(a g:Nat),(∀x∈l,cU x.2)->cU g->cU (cb a g l).2.2
 |[],a,g,h,hg=>hg
 |(s,b)::r,a,g,h,hg=>xC r _ _ (fun x hx=>h x (jF _ hx)) (FI hg (h (s,b) (jo ..)))
theorem AO:∀(l:List (Nat×Nat))(a g:Nat),(∀x∈l,cU x.2)->cU g->cU (db a g l).2
 |[],a,g,h,hg=>hg
 |(s,b)::r,a,g,h,hg=>AO r _ _ (fun x hx=>h x (jF _ hx)) (FI hg (h (s,b) (jo ..)))
theorem AP:∀(l:List (Nat×Nat))(a g:Nat),(cb a g l).1.length=l.length
 |[],a,g=>rfl
 |(s,b)::r,a,g=>by simp only[cb,bY,AP r]
theorem Qs:∀(l:List (Nat×Nat))(a g:Nat),(∀x∈l,cU x.2)->a<=(cb a g l).2.1
 |[],a,g,h=>bn _
 |(s,b)::r,a,g,h=>by
  have h1:=Qs r (cL a b+s) (max g b) (fun x hx=>h x (jF _ hx));have h2:=va (a:=a) (b:=b) (h (s,b) (jo ..));simp only[cb];omega
theorem Qu:∀(l:List (Nat×Nat))(a g k:Nat)(hk:k<l.length),(∀x∈l,cU x.2)->∃p:Nat,(cb a g l).1.getD k 0=(p:Int)/\a<=p/\p+(l[k]).1<=(cb a g l).2.1
 |(s,b)::r,a,g,0,hk,h=>by
  have h1:=Qs r (cL a b+s) (max g b) (fun x hx=>h x (jF _ hx));exact⟨cL a b,rfl,va (h (s,b) (jo ..)),h1⟩
 |(s,b)::r,a,g,k+1,hk,h=>by
  obtain⟨p,h1,h2,h3⟩:=Qu r (cL a b+s) (max g b) k (by simpa using hk) (fun x hx=>h x (jF _ hx));have h4:=va (a:=a) (b:=b) (h (s,b) (jo ..));exact⟨p,by simpa [cb]using h1,by omega,by simpa [cb]using h3⟩
theorem Qv:∀(l:List (Nat×Nat))(a g:Nat),a<=(db a g l).1
 |[],a,g=>bn _
 |(s,b)::r,a,g=>by have:=Qv r (max a s) (max g b);simp only[db];omega
theorem Qw:∀(l:List (Nat×Nat))(a g:Nat)(x:Nat×Nat),x∈l->x.1<=(db a g l).1
 |(s,b)::r,a,g,x,h=>by
  rcases dP.1 h with rfl|h
  ·have:=Qv r (max a s) (max g b);simp only[db];omega
  ·exact Qw r _ _ x h
theorem AQ:∀(l:List (Nat×Nat))(a g B:Nat),a<=B->(∀x∈l,x.1<=B)->(db a g l).1<=B
 |[],a,g,B,h,_=>h
 |(s,b)::r,a,g,B,h,hl=>AQ r _ _ B (by have:=hl (s,b) (jo ..);simp only at this;omega) fun x hx=>hl x (jF _ hx)
def jk:List (Nat×Nat)->Nat
 |[]=>0
 |(s,_)::r=>s+7+jk r
theorem AS:∀(l:List (Nat×Nat))(a g:Nat),(∀x∈l,cU x.2)->(cb a g l).2.1<=a+jk l
 |[],a,g,h=>bn _
 |(s,b)::r,a,g,h=>by
  have hb:cU b:=h (s,b) (jo ..);have h1:=AS r (cL a b+s) (max g b) (fun x hx=>h x (jF _ hx));have h2:=ov (a:=a) hb;have:=hb.le;simp only[cb,jk];omega
theorem FM:∀(n:Nat)(t:aa),t.sz<n->cU (lay t).2/\(lay t).1+8<=16*(t.sz+1)
 |0,t,h=>absurd h (jD _)
 |n+1,t,h=>by
  have ih:∀x∈t.Kids,cU (lay x).2/\(lay x).1+8<=16*(x.sz+1):=fun x hx=>FM n x (by have:=aa.dw (a:=t) hx;omega)
  have hal:∀x∈t.Kids.map lay,cU x.2:=fun x hx=>by
   obtain⟨y,hy,rfl⟩:=lB.1 hx;exact(ih y hy).1
  have ac5:∀l:List aa,(∀x∈l,(lay x).1+8<=16*(x.sz+1))->jk (l.map lay)+l.length<=16*bc aa.sz l:=by
   intro l
   induction l with
   |nil=>intro _;simp[jk]
   |cons x r ihr=>
    intro hx;have h1:=hx x (jo ..);have h2:=ihr fun y hy=>hx y (jF _ hy)
    simp only[eB,jk,bY,bc];omega
  have hsz:=aa.dL t;rw[ow];unfold xB;split
  ·rename_i h1;exact⟨ac4 _ h1,by have:=FK t.Kind;simp only;omega⟩
  ·split
   ·exact⟨.inr (.inr (.inl rfl)),by simp only;omega⟩
   ·split
    ·exact⟨.inl rfl,by simp only;omega⟩
    ·split
     ·split
      ·exact⟨.inr (.inl rfl),by simp only;omega⟩
      ·exact⟨.inl rfl,by simp only;omega⟩
     ·split
      ·have hg:=xC (t.Kids.map lay) 0 1 hal (.inl rfl);refine⟨hg,?_⟩;have h1:=AS (t.Kids.map lay) 0 1 hal;have h2:=ov (a:=(cb 0 1 (t.Kids.map lay)).2.1) hg;have h3:=ac5 t.Kids fun x hx=>(ih x hx).2
       have:=hg.le;simp only;omega
      ·split
       ·rcases iy t.sz with h0|h0
        ·have hk:t.Kids=[]:=by
          cases e:t.Kids with
          |nil=>rfl
          |cons x r=>have:=aa.dw (a:=t) (x:=x) (by rw[e];exact jo ..);omega
         have e:db 0 1 (fQ t.Kind (t.Kids.map lay))=(0,1):=by
          rw[hk];unfold fQ;split<;>rfl
         rw[e];exact⟨.inl rfl,by rw[h0];decide⟩
        have hc:∀x∈fQ t.Kind (t.Kids.map lay),cU x.2/\x.1+8<=16*t.sz:=by
         intro x hx;have hm:∀x∈t.Kids.map lay,cU x.2/\x.1+8<=16*t.sz:=fun x hx=>by
          obtain⟨y,hy,rfl⟩:=lB.1 hx;have:=aa.dw (a:=t) hy;exact⟨(ih y hy).1,by have:=(ih y hy).2;omega⟩
         unfold fQ at hx;split at hx
         ·simp only[dP,FB,jC]at hx;rcases hx with rfl|rfl
          ·exact⟨.inl rfl,by simp only;omega⟩
          ·rcases du 0 (t.Kids.map lay).length with hl|hl
           ·rw[getD_lt hl];exact hm _ (an hl)
           ·rw[fR,fy hl];exact⟨.inl rfl,by simp only[Option.getD_none];omega⟩
         ·exact hm x hx
        have hg:=AO (fQ t.Kind (t.Kids.map lay)) 0 1 (fun x hx=>(hc x hx).1) (.inl rfl);refine⟨hg,?_⟩;have h1:=AQ (fQ t.Kind (t.Kids.map lay)) 0 1 (16*t.sz-8) (dM _) (fun x hx=>by have:=(hc x hx).2;omega);have h2:cL 1 (db 0 1 (fQ t.Kind (t.Kids.map lay))).2=(db 0 1 (fQ t.Kind (t.Kids.map lay))).2:=by
         generalize (db 0 1 (fQ t.Kind (t.Kids.map lay))).2=a at hg;rcases hg with rfl|rfl|rfl|rfl<;>rfl
        have h3:=ov (a:=cL 1 (db 0 1 (fQ t.Kind (t.Kids.map lay))).2+(db 0 1 (fQ t.Kind (t.Kids.map lay))).1) hg;have:=hg.le;rw[h2]at h3⊢;simp only;omega
       ·exact⟨.inl rfl,by simp only;omega⟩
theorem mY(t:aa):cU (lay t).2:=(FM _ t (FN _)).1
theorem sg(t:aa):(lay t).1+8<=16*(t.sz+1):=(FM _ t (FN _)).2
end M
set_option linter.unusedSimpArgs false
namespace M
open Go.V (inB bF ai cJ)
theorem Qx(k:Int):M.uv k=some (gi k:Int):=by
 unfold M.uv gi;simp only[vb];cases (k==2||(k==3||k==4))<;>cases (k==5||k==6)<;>cases (k==7||(k==8||(k==10||(k==20||(k==21||(k==22||k==23))))))<;>cases k==9<;>rfl
theorem vc(a b:Nat)(hb:cU b)(ha:a<=1099511627776):M.jf (a:Int) (b:Int)=some ((cL a b:Nat):Int):=by
 have hl:=hb.le;have h2:=ov (a:=a) hb;have d:((b:Int) !=0)=true:=by rw[sE];omega
 unfold M.jf;rw[d];simp only[aQ,cE];rw[wrap_i64 (n:=(a:Int)+b) (by omega) (by omega),wrap_i64 (n:=(a:Int)+b-1) (by omega) (by omega)];have e:Int.tdiv ((a:Int)+b-1) (b:Int)=(((a+b-1)/b:Nat):Int):=by
  rw[show((a:Int)+b-1)=((a+b-1:Nat):Int) by omega];exact(Int.ofNat_tdiv _ _).symm
 have h3:(a+b-1)/b<=a+b-1:=Nat.div_le_self _ _;unfold cL at*;generalize (a+b-1)/b=q at*;rw[e,wrap_i64 (n:=(q:Int)) (by omega) (by omega),<-Int.natCast_mul,wrap_i64 (by omega) (by omega)]
theorem Qy(a b:Nat):M.jc (a:Int) (b:Int)=some ((max a b:Nat):Int):=by
 unfold M.jc;by_cases h:(b:Int)<(a:Int)
 ·rw[bD h,cE,Nat.max_eq_left (by omega)]
 ·rw[av h,aW,Nat.max_eq_right (by omega)]
theorem jl{α A Y:Type}{F:Nat->Int->A->Option Y}(l:List α)(hn:l.length<2^62)(R:List α->A->Option Y)(I:Nat->A->Prop)
 (step:∀f k a (hk:k<l.length),I k a->(∀a',I (k+1) a'->F f ((k+1:Nat):Int) a'=R (l.drop (k+1)) a')->F (f+1) (k:Int) a=R (l[k]::l.drop (k+1)) a)
 (stop:∀f a,I l.length a->F (f+1) (l.length:Int) a=R [] a) (a:A) (h0:I 0 a):F ai 0 a=R l a:=by
 have key:∀f k a,k<=l.length->l.length-k<f->I k a->F f (k:Int) a=R (l.drop k) a:=by
  intro f
  induction f with
  |zero=>intro k a h1 h2;omega
  |succ f ih=>
   intro k a h1 h2 hI;rcases du k l.length with hk|hk
   ·rw[step f k a hk hI fun a' ha'=>ih (k+1) a' (by omega) (by omega) ha',fe hk]
   ·have:k=l.length:=by omega
    subst this;rw[stop f a hI,j9]
 have:=key ai 0 a (dM _) (by have:=cJ;omega) h0;simpa using this
section
variable {rec :aa->Option (Int×Int)}{l:List aa}
def aim(l:List aa):Prop:=l.length<=1048576/\bc aa.sz l<=1048576
theorem AT(l:List aa):jk (l.map lay)<=16*bc aa.sz l:=by
 induction l with
 |nil=>simp[jk]
 |cons x r ih=>
  have h1:=sg x;simp only[eB,jk,bc];omega
theorem qi(l:List aa):∀x∈l.map lay,cU x.2:=fun x hx=>by
 obtain⟨y,hy,rfl⟩:=lB.1 hx;exact mY y
theorem Qz(hr:∀x∈l,rec x=some (((lay x).1:Int),((lay x).2:Int)))(hl:l.length<=1048576)(hs:bc aa.sz l<=1048576):
 M.nS rec l=some ((cb 0 1 (l.map lay)).1,((cL (cb 0 1 (l.map lay)).2.1 (cb 0 1 (l.map lay)).2.2:Nat):Int),((cb 0 1 (l.map lay)).2.2:Int)):=by
 have e:=jl (F:=fun f i (a:Int×Int×List Int)=>M.mo rec l f a.1 a.2.1 i a.2.2) l (by omega)
  (fun r a=>some ((((cb a.1.toNat a.2.1.toNat (r.map lay)).2.1:Nat):Int),(((cb a.1.toNat a.2.1.toNat (r.map lay)).2.2:Nat):Int),a.2.2++(cb a.1.toNat a.2.1.toNat (r.map lay)).1))
  (fun k a=>∃p g:Nat,a.1=(p:Int)/\a.2.1=(g:Int)/\cU g/\p+jk ((l.drop k).map lay)<=16*bc aa.sz l/\a.2.2.length<=k) ?_ ?_ (0,1,[]) ⟨0,1,rfl,rfl,.inl rfl,by have:=AT l;simpa using this,bn _⟩
 ·have e':M.mo rec l ai 0 1 0 []=_:=e;unfold M.nS;rw[e'];have hal:=xC (l.map lay) 0 1 (qi l) (.inl rfl);have hle:=AS (l.map lay) 0 1 (qi l);have hsp:=AT l;simp only[Int.toNat_zero,Int.toNat_one,jB];rw[vc _ _ hal (by omega)];rfl
 ·rintro f k ⟨a1,a2,a3⟩ hk ⟨p,g,h1,h2,hg,hp,h3⟩ ih
  simp only at h1 h2 h3;subst h1;subst h2;have hal:=mY l[k];have hdrop:jk ((l.drop k).map lay)=(lay l[k]).1+7+jk ((l.drop (k+1)).map lay):=by rw[fe hk];rfl
  have hup:=ov (a:=p) hal;have ac6:=hal.le
  show M.mo rec l (f+1) _ _ (k:Int) _=_
  rw[M.mo];simp only[eF,hk,gQ,cE,bP,getD_lt hk,aa.aG,hr _ (an hk),aC,aR,cD,aQ,c9,Qy,vc p _ hal (by omega),bY,iD];have d:decide (a3.length+(0+1)<=1073741824)=true:=bD (by omega);rw[d,cE,wrap_i64 (n:=((cL p (lay l[k]).2:Nat):Int)+_) (by omega) (by omega),cq hk (by omega:l.length<2^62)];have:=ih (((cL p (lay l[k]).2:Nat):Int)+((lay l[k]).1:Int),((max g (lay l[k]).2:Nat):Int),a3++[((cL p (lay l[k]).2:Nat):Int)])
   ⟨cL p (lay l[k]).2+(lay l[k]).1,max g (lay l[k]).2,by simp,rfl,FI hg hal,by omega,by rw[dj];simp;omega⟩
  refine Eq.trans this ?_;have e1:(((cL p (lay l[k]).2:Nat):Int)+((lay l[k]).1:Int)).toNat=cL p (lay l[k]).2+(lay l[k]).1:=by omega
  simp only[e1,bP,eB,cb,fS,List.singleton_append]
 ·rintro f ⟨a1,a2,a3⟩ ⟨p,g,h1,h2,hg,hp,h3⟩
  simp only at h1 h2;subst h1;subst h2
  show M.mo rec l (f+1) _ _ (l.length:Int) _=_
  rw[M.mo];simp[cb]
theorem QA(hr:∀x∈l,rec x=some (((lay x).1:Int),((lay x).2:Int)))(hl:l.length<=1048576):
 M.pS rec l=some (((db 0 1 (l.map lay)).1:Int),((db 0 1 (l.map lay)).2:Int)):=by
 have e:=jl (F:=fun f i (a:Int×Int)=>M.mr rec l f a.1 a.2 i) l (by omega)
  (fun r a=>some ((((db a.1.toNat a.2.toNat (r.map lay)).1:Nat):Int),(((db a.1.toNat a.2.toNat (r.map lay)).2:Nat):Int)))
  (fun k a=>∃p g:Nat,a.1=(p:Int)/\a.2=(g:Int)) ?_ ?_ (0,1) ⟨0,1,rfl,rfl⟩
 ·have e':M.mr rec l ai 0 1 0=_:=e;unfold M.pS;rw[e'];rfl
 ·rintro f k ⟨a1,a2⟩ hk ⟨p,g,h1,h2⟩ ih
  simp only at h1 h2;subst h1;subst h2
  show M.mr rec l (f+1) _ _ (k:Int)=_
  rw[M.mr];simp only[eF,hk,gQ,cE,bP,getD_lt hk,aa.aG,hr _ (an hk),aC,aR,cD,aQ,c9,Qy];rw[cq hk (by omega:l.length<2^62)];exact ih (((max p (lay l[k]).1:Nat):Int),((max g (lay l[k]).2:Nat):Int)) ⟨_,_,rfl,rfl⟩
 ·rintro f ⟨a1,a2⟩ ⟨p,g,h1,h2⟩
  simp only at h1 h2;subst h1;subst h2
  show M.mr rec l (f+1) _ _ (l.length:Int)=_
  rw[M.mr];simp[db]
end
theorem QB(t:aa)(h:bK t=true)(hk:t.Kind=13\/t.Kind=14\/t.Kind=17):(cH t).map lay=fQ t.Kind (t.Kids.map lay):=by
 unfold cH fQ;by_cases h13:t.Kind=13
 ·have hp:=xE h h13;rw[bG h13,bG h13,getD_lt hp,getD_lt (by simpa using hp)];simp only[eB,List.map_nil,List.getElem_map];rfl
 ·rw[bH h13,bH h13]
theorem xF(t:aa)(h:t.Kids.length<=1048576):(cH t).length<=1048576:=by
 unfold cH;split
 ·simp
 ·exact h
theorem de{a b:Int}(h:a≠b):(a==b)=false:=by rw[jj];exact h
theorem QC:∀(m:Nat)(t:aa),t.sz<m->t.sz<=1048576->bK t=true->M.nU m t=some (((lay t).1:Int),((lay t).2:Int))
 |0,t,h,_,_=>absurd h (jD _)
 |m+1,t,h,hN,hs=>by
  have ih:∀x:aa,x.sz<t.sz->bK x=true->M.nU m x=some (((lay x).1:Int),((lay x).2:Int)):=fun x hx hsx=>QC m x (by omega) (by omega) hsx
  have ihk:∀x∈t.Kids,M.nU m x=some (((lay x).1:Int),((lay x).2:Int)):=fun x hx=>ih x (aa.dw hx) (hZ hs x hx)
  have hkl:=aa.fg hN;have hks:=aa.mZ hN
  show M.w9 (M.nU m) t=_
  unfold M.w9;rw[ow];unfold xB;rw[Qx];simp only[aC,aR,aQ,dy,c9,cE,vb,mR];by_cases h0:0<gi t.Kind
  ·rw[bG h0,bD (by omega:(0:Int)<(gi t.Kind:Int)),cE]
  ·rw[bH h0,av (by omega:¬(0:Int)<(gi t.Kind:Int)),aW];by_cases h1:t.Kind=11\/t.Kind=12
   ·rw[bG h1];rcases h1 with h1|h1<;>rw[h1]<;>rfl
   ·rw[bH h1,de (fun e=>h1 (.inl e)),de (fun e=>h1 (.inr e)),gj,aW];by_cases h2:t.Kind=18
    ·rw[bG h2,h2];rfl
    ·rw[bH h2,de h2,aW];by_cases h3:t.Kind=19
     ·rw[bG h3,h3];by_cases h4:8<t.bm.length
      ·rw[bG h4,bD (by omega:(8:Int)<(t.bm.length:Int))];rfl
      ·rw[bH h4,av (by omega:¬(8:Int)<(t.bm.length:Int))];rfl
     ·rw[bH h3,de h3,aW];by_cases h4:t.Kind=15\/t.Kind=16
      ·rw[bG h4,Qz ihk hkl hks];rcases h4 with h4|h4<;>rw[h4]<;>rfl
      ·rw[bH h4,de (fun e=>h4 (.inl e)),de (fun e=>h4 (.inr e)),gj,aW];by_cases h5:t.Kind=13\/t.Kind=14\/t.Kind=17
       ·rw[bG h5];have hc:=QB t hs h5;have hm:=QA (l:=cH t) (rec:=M.nU m) (fun x hx=>ih x (ox hs h5 x hx) (qj hs h5 x hx)) (xF t hkl);rw[hc]at hm;have hal:=AO (fQ t.Kind (t.Kids.map lay)) 0 1 (fun x hx=>by rw[<-hc]at hx;exact qi _ x hx) (.inl rfl);have hle:(db 0 1 (fQ t.Kind (t.Kids.map lay))).1<=16*1048577:=AQ _ _ _ _ (dM _) fun x hx=>by
         rw[<-hc]at hx;obtain⟨y,hy,rfl⟩:=lB.1 hx;have h6:=ox hs h5 y hy;have:=sg y;omega
        have hu:=ov (a:=1) hal;have:=hal.le;rw[aa.aG,AU t hs h5,aC,hm];simp only[aC,aR,aQ,c9];rw[show(1:Int)=((1:Nat):Int)from rfl,vc 1 _ hal (by omega)];simp only[aC];rw[wrap_i64 (n:=((cL 1 (db 0 1 (fQ t.Kind (t.Kids.map lay))).2:Nat):Int)+_) (by omega) (by omega),<-Int.natCast_add,vc _ _ hal (by omega)];generalize db 0 1 (fQ t.Kind (t.Kids.map lay))=mm at*;rcases h5 with h5|h5|h5<;>rw[h5]<;>rfl
       ·rw[bH h5,de (fun e=>h5 (.inl e)),de (fun e=>h5 (.inr (.inl e))),de (fun e=>h5 (.inr (.inr e))),gj,gj,aW];rfl
theorem xG(t:aa)(hN:t.sz<=1048576)(hs:bK t=true):M.iv t=some (((lay t).1:Int),((lay t).2:Int)):=QC ai t (ia hN) hN hs
end M
namespace M
open Go.V (inB bF ai cJ)
def qk(g:Nat):List (Nat×Nat)->Nat
 |[]=>g
 |(_,a)::r=>qk (max g a) r
theorem FO:∀(l:List (Nat×Nat))(a g:Nat),(cb a g l).2.2=qk g l
 |[],a,g=>rfl
 |(s,b)::r,a,g=>by simp only[cb,qk];exact FO r _ _
theorem FP:∀(l:List (Nat×Nat))(a g:Nat),(db a g l).2=qk g l
 |[],a,g=>rfl
 |(s,b)::r,a,g=>by simp only[db,qk];exact FP r _ _
def vd(g:Nat):List (Nat×Nat)->Nat
 |[]=>g
 |(s,_)::r=>vd (max g s) r
theorem QD:∀(l:List (Nat×Nat))(a g:Nat),(db a g l).1=vd a l
 |[],a,g=>rfl
 |(s,b)::r,a,g=>by simp only[db,vd];exact QD r _ _
theorem AW{t:aa}(h:bK t=true):t.Kind=1\/0<gi t.Kind\/t.Kind=11\/t.Kind=12\/t.Kind=13\/t.Kind=14\/t.Kind=15\/t.Kind=16\/t.Kind=17\/t.Kind=18\/t.Kind=19:=by
 have h1:iV t=true:=by rw[m3,aU]at h;exact h.1
 have h2:ql t=true:=by unfold iV at h1;rw[aU]at h1;exact h1.2
 have key:t.Kind=12\/t.Kind=13\/t.Kind=14\/t.Kind=15\/t.Kind=16\/t.Kind=17\/t.Kind=22\/t.Kind=23\/(1<=t.Kind/\t.Kind<=23):=by
  by_cases a1:t.Kind=12\/t.Kind=13
  ·omega
  by_cases a2:t.Kind=14
  ·omega
  by_cases a3:t.Kind=15
  ·omega
  by_cases a4:t.Kind=16
  ·omega
  by_cases a5:t.Kind=17
  ·omega
  by_cases a6:t.Kind=22\/t.Kind=23
  ·omega
  unfold ql at h2;rw[bH a1,bH a2,bH a3,bH a4,bH a5,bH a6]at h2;simp only[aU,aZ]at h2;omega
 have num:∀k:Int,(k=2\/k=3\/k=4\/k=5\/k=6\/k=7\/k=8\/k=9\/k=10\/k=20\/k=21\/k=22\/k=23)->0<gi k:=by
  rintro k (h|h|h|h|h|h|h|h|h|h|h|h|h)<;>subst h<;>decide
 have:t.Kind=1\/(t.Kind=2\/t.Kind=3\/t.Kind=4\/t.Kind=5\/t.Kind=6\/t.Kind=7\/t.Kind=8\/t.Kind=9\/t.Kind=10\/t.Kind=20\/t.Kind=21\/t.Kind=22\/t.Kind=23)\/t.Kind=11\/t.Kind=12\/t.Kind=13\/t.Kind=14\/t.Kind=15\/t.Kind=16\/t.Kind=17\/t.Kind=18\/t.Kind=19:=by omega
 rcases this with h|h|h
 ·exact .inl h
 ·exact .inr (.inl (num _ h))
 ·exact .inr (.inr h)
theorem ac7{t:aa}(h:bK t=true)(hk:t.Kind=19):1<=t.bm.length/\t.bm.length<=16:=by
 have h1:iV t=true:=by rw[m3,aU]at h;exact h.1
 unfold iV at h1;have hb:xH t=true:=by unfold xH;rw[hk];decide
 rw[bG hb]at h1;unfold m4 at h1;simp only[aU,aZ]at h1;exact h1.1.1.1
theorem QE{k:Int}(h:k=1\/k=11\/k=12\/k=13\/k=14\/k=15\/k=16\/k=17\/k=18\/k=19):gi k=0:=by
 rcases h with h|h|h|h|h|h|h|h|h|h<;>subst h<;>rfl
theorem QF(k:Int):M.rM k=some (gi k:Int):=Qx k
theorem xI(a b:Nat)(hb:cU b)(ha:a<=1099511627776):M.iO (a:Int) (b:Int)=some ((cL a b:Nat):Int):=vc a b hb ha
theorem QG{t:aa}(h:bK t=true)(hk:t.Kind=19):M.pW t=some (((if 8<t.bm.length then 2 else 1:Nat)):Int):=by
 obtain⟨h1,h2⟩:=ac7 h hk;unfold M.pW;rw[wrap_i64 (n:=(t.bm.length:Int)+7) (by omega) (by omega),show((t.bm.length:Int)+7)=((t.bm.length+7:Nat):Int) by omega,show(8:Int)=((8:Nat):Int)from rfl,<-Int.ofNat_tdiv];have h3:(t.bm.length+7)/8=if 8<t.bm.length then 2 else 1:=by split<;>omega
 rw[h3];split<;>rfl
section
variable {rec :aa->Option Int}{l:List aa}
theorem QH(a b:Nat):(bif decide (a<b)then(b:Int)else(a:Int))=((max a b:Nat):Int):=by
 by_cases h:a<b
 ·rw[bD h,cE,Nat.max_eq_right (by omega)]
 ·rw[av h,aW,Nat.max_eq_left (by omega)]
theorem AX(hr:∀x∈l,rec x=some ((lay x).2:Int))(hl:l.length<=1048576):M.jX rec l=some ((qk 1 (l.map lay):Nat):Int):=by
 have e:=jl (F:=fun f i (a:Int)=>M.mE rec l (l.length:Int) f a i) l (by omega)
  (fun r a=>some ((qk a.toNat (r.map lay):Nat):Int)) (fun k a=>∃g:Nat,a=(g:Int)) ?_ ?_ 1 ⟨1,rfl⟩
 ·have e':M.mE rec l (l.length:Int) ai 1 0=_:=e;unfold M.jX;rw[e'];rfl
 ·rintro f k a hk ⟨g,rfl⟩ ih
  show M.mE rec l (l.length:Int) (f+1) _ (k:Int)=_
  rw[M.mE];simp only[eF,hk,gQ,cE,bP,getD_lt hk,aa.aG,hr _ (an hk),aC,aR,cD,aQ,c9];rw[cq hk (by omega:l.length<2^62),QH];exact ih _ ⟨_,rfl⟩
 ·rintro f a ⟨g,rfl⟩
  show M.mE rec l (l.length:Int) (f+1) _ (l.length:Int)=_
  rw[M.mE];simp[qk]
theorem ac8(hr:∀x∈l,rec x=some ((lay x).1:Int))(hl:l.length<=1048576):M.pY rec l=some ((vd 0 (l.map lay):Nat):Int):=by
 have e:=jl (F:=fun f i (a:Int)=>M.mI rec l (l.length:Int) f a i) l (by omega)
  (fun r a=>some ((vd a.toNat (r.map lay):Nat):Int)) (fun k a=>∃g:Nat,a=(g:Int)) ?_ ?_ 0 ⟨0,rfl⟩
 ·have e':M.mI rec l (l.length:Int) ai 0 0=_:=e;unfold M.pY;rw[e'];rfl
 ·rintro f k a hk ⟨g,rfl⟩ ih
  show M.mI rec l (l.length:Int) (f+1) _ (k:Int)=_
  rw[M.mI];simp only[eF,hk,gQ,cE,bP,getD_lt hk,aa.aG,hr _ (an hk),aC,aR,cD,aQ,c9];rw[cq hk (by omega:l.length<2^62),QH];exact ih _ ⟨_,rfl⟩
 ·rintro f a ⟨g,rfl⟩
  show M.mI rec l (l.length:Int) (f+1) _ (l.length:Int)=_
  rw[M.mI];simp[vd]
end
theorem AY{t:aa}(h:0<gi t.Kind):lay t=(gi t.Kind,gi t.Kind):=by rw[ow];unfold xB;rw[bG h]
theorem xJ{t:aa}(h:t.Kind=1):lay t=(0,1):=by rw[ow,h];rfl
theorem xK{t:aa}(h:t.Kind=11\/t.Kind=12):lay t=(8,4):=by rw[ow];rcases h with h|h<;>rw[h]<;>rfl
theorem AZ{t:aa}(h:t.Kind=18):lay t=(1,1):=by rw[ow,h];rfl
theorem A0{t:aa}(h:t.Kind=19):lay t=(if 8<t.bm.length then(2,2)else(1,1)):=by rw[ow,h];rfl
theorem xM{t:aa}(h:t.Kind=15\/t.Kind=16):lay t=(cL (cb 0 1 (t.Kids.map lay)).2.1 (cb 0 1 (t.Kids.map lay)).2.2,(cb 0 1 (t.Kids.map lay)).2.2):=by rw[ow];rcases h with h|h<;>rw[h]<;>rfl
theorem FQ{t:aa}(hs:bK t=true)(h:t.Kind=13\/t.Kind=14\/t.Kind=17):lay t=(cL (cL 1 (db 0 1 ((cH t).map lay)).2+(db 0 1 ((cH t).map lay)).1) (db 0 1 ((cH t).map lay)).2,(db 0 1 ((cH t).map lay)).2):=by
 rw[QB t hs h,ow];rcases h with h|h|h<;>rw[h]<;>rfl
theorem QI:∀(m:Nat)(t:aa),t.sz<m->t.sz<=1048576->bK t=true->M.nV m t=some ((lay t).2:Int)
 |0,t,h,_,_=>absurd h (jD _)
 |m+1,t,h,hN,hs=>by
  have ih:∀x:aa,x.sz<t.sz->bK x=true->M.nV m x=some ((lay x).2:Int):=fun x hx hsx=>QI m x (by omega) (by omega) hsx
  have hkl:=aa.fg hN
  show M.xk (M.nV m) t=_
  unfold M.xk;simp only[vb];have cs:∀hk:t.Kind=13\/t.Kind=14\/t.Kind=17,M.jX (M.nV m) (cH t)=some ((lay t).2:Int):=fun hk=>by
   rw[AX (l:=cH t) (fun x hx=>ih x (ox hs hk x hx) (qj hs hk x hx)) (xF t hkl),FQ hs hk,FP]
  have ks:∀hk:t.Kind=15\/t.Kind=16,M.jX (M.nV m) t.Kids=some ((lay t).2:Int):=fun hk=>by
   rw[AX (l:=t.Kids) (fun x hx=>ih x (aa.dw hx) (hZ hs x hx)) hkl,xM hk,FO]
  rcases AW hs with k|k|k|k|k|k|k|k|k|k|k
  ·rw[xJ k,k];rfl
  ·have hn:=QE (k:=t.Kind);have n:∀c:Int,c=1\/c=11\/c=12\/c=13\/c=14\/c=15\/c=16\/c=17\/c=18\/c=19->(t.Kind==c)=false:=fun c hc=>de fun e=>by rw[<-e]at hc;have:=hn hc;omega
   rw[n 1 (by omega),n 18 (by omega),n 11 (by omega),n 12 (by omega),n 19 (by omega),n 15 (by omega),n 16 (by omega),n 13 (by omega),n 14 (by omega),n 17 (by omega),QF,AY k];rfl
  ·rw[xK (.inl k),k];rfl
  ·rw[xK (.inr k),k];rfl
  ·have:=cs (.inl k);rw[aa.aG,xN t hs (.inl k),aC,this,k];rfl
  ·have:=cs (.inr (.inl k));rw[aa.aG,xN t hs (.inr (.inl k)),aC,this,k];rfl
  ·rw[ks (.inl k),k];rfl
  ·rw[ks (.inr k),k];rfl
  ·have:=cs (.inr (.inr k));rw[aa.aG,xN t hs (.inr (.inr k)),aC,this,k];rfl
  ·rw[AZ k,k];rfl
  ·rw[aa.aG,QG hs k,A0 k,k];split<;>rfl
theorem ve(t:aa)(hN:t.sz<=1048576)(hs:bK t=true):M.gC t=some ((lay t).2:Int):=QI ai t (ia hN) hN hs
def iC(t:aa):Nat:=cL 1 (db 0 1 ((cH t).map lay)).2
theorem A4(l:List aa):cU (db 0 1 (l.map lay)).2:=AO _ 0 1 (qi l) (.inl rfl)
theorem QJ(t:aa)(hN:t.sz<=1048576)(hs:bK t=true)(hk:t.Kind=13\/t.Kind=14\/t.Kind=17):M.nW t=some ((iC t:Nat):Int):=by
 unfold M.nW iC;have hkl:=aa.fg hN;rw[aa.aG,xN t hs hk];simp only[aC,aR,aQ];rw[AX (l:=cH t) (fun x hx=>ve x (by have:=ox hs hk x hx;omega) (qj hs hk x hx)) (xF t hkl),<-FP _ 0 1];simp only[aC,aR,aQ];rw[show(1:Int)=((1:Nat):Int)from rfl,xI 1 _ (A4 _) (by omega)];rfl
section
variable {rec :aa->Option Int}{l:List aa}
theorem QK(hr:∀x∈l,rec x=some ((lay x).1:Int))(ha:∀x∈l,M.gC x=some ((lay x).2:Int))(hl:l.length<=1048576)(hs:bc aa.sz l<=1048576):
 M.pX rec l=some ((cb 0 1 (l.map lay)).1,((cb 0 1 (l.map lay)).2.1:Int)):=by
 have e:=jl (F:=fun f i (a:Int×List Int)=>M.mH rec l (l.length:Int) f a.1 i a.2) l (by omega)
  (fun r a=>some ((((cb a.1.toNat 1 (r.map lay)).2.1:Nat):Int),a.2++(cb a.1.toNat 1 (r.map lay)).1))
  (fun k a=>∃p:Nat,a.1=(p:Int)/\p+jk ((l.drop k).map lay)<=16*bc aa.sz l/\a.2.length<=k) ?_ ?_ (0,[]) ⟨0,rfl,by have:=AT l;simpa using this,bn _⟩
 ·have e':M.mH rec l (l.length:Int) ai 0 0 []=_:=e;unfold M.pX;rw[e'];rfl
 ·rintro f k ⟨a1,a2⟩ hk ⟨p,h1,hp,h3⟩ ih
  simp only at h1 h3;subst h1;have hal:=mY l[k];have hdrop:jk ((l.drop k).map lay)=(lay l[k]).1+7+jk ((l.drop (k+1)).map lay):=by rw[fe hk];rfl
  have hup:=ov (a:=p) hal;have ac6:=hal.le
  show M.mH rec l (l.length:Int) (f+1) _ (k:Int) _=_
  rw[M.mH];simp only[eF,hk,gQ,cE,bP,getD_lt hk,aa.aG,hr _ (an hk),ha _ (an hk),aC,aR,cD,aQ,c9,xI p _ hal (by omega),bY,iD];have d:decide (a2.length+(0+1)<=1073741824)=true:=bD (by omega);rw[d,cE,wrap_i64 (n:=((cL p (lay l[k]).2:Nat):Int)+_) (by omega) (by omega),cq hk (by omega:l.length<2^62)];have:=ih (((cL p (lay l[k]).2:Nat):Int)+((lay l[k]).1:Int),a2++[((cL p (lay l[k]).2:Nat):Int)])
   ⟨cL p (lay l[k]).2+(lay l[k]).1,by simp,by omega,by rw[dj];simp;omega⟩
  refine Eq.trans this ?_;have e1:(((cL p (lay l[k]).2:Nat):Int)+((lay l[k]).1:Int)).toNat=cL p (lay l[k]).2+(lay l[k]).1:=by omega
  have e2:∀(r:List (Nat×Nat))(a g g':Nat),(cb a g r).1=(cb a g' r).1/\(cb a g r).2.1=(cb a g' r).2.1:=by
   intro r
   induction r with
   |nil=>intro a g g';exact⟨rfl,rfl⟩
   |cons x r ih=>intro a g g';simp only[cb];exact⟨by rw[(ih _ (max g x.2) (max g' x.2)).1],(ih _ _ _).2⟩
  simp only[e1,bP,eB,cb,fS,List.singleton_append];rw[(e2 _ _ (max 1 (lay l[k]).2) 1).1,(e2 _ _ (max 1 (lay l[k]).2) 1).2]
 ·rintro f ⟨a1,a2⟩ ⟨p,h1,hp,h3⟩
  simp only at h1;subst h1
  show M.mH rec l (l.length:Int) (f+1) _ (l.length:Int) _=_
  rw[M.mH];simp[cb]
theorem ac9(hr:∀x∈l,rec x=some ((lay x).1:Int))(ha:∀x∈l,M.gC x=some ((lay x).2:Int))(hl:l.length<=1048576)(hs:bc aa.sz l<=1048576):
 M.rO rec l=some ((cL (cb 0 1 (l.map lay)).2.1 (cb 0 1 (l.map lay)).2.2:Nat):Int):=by
 unfold M.rO;rw[QK hr ha hl hs,AX ha hl,<-FO _ 0 1];have hal:=xC (l.map lay) 0 1 (qi l) (.inl rfl);have hle:=AS (l.map lay) 0 1 (qi l);have hsp:=AT l;simp only[aC,aR,aQ];rw[xI _ _ hal (by omega)];rfl
end
theorem QL:∀(m:Nat)(t:aa),t.sz<m->t.sz<=1048576->bK t=true->M.mJ m t=some ((lay t).1:Int)
 |0,t,h,_,_=>absurd h (jD _)
 |m+1,t,h,hN,hs=>by
  have ih:∀x:aa,x.sz<t.sz->bK x=true->M.mJ m x=some ((lay x).1:Int):=fun x hx hsx=>QL m x (by omega) (by omega) hsx
  have hkl:=aa.fg hN;have hks:=aa.mZ hN
  show M.xm (M.mJ m) t=_
  unfold M.xm;simp only[vb];have ks:∀hk:t.Kind=15\/t.Kind=16,M.rO (M.mJ m) t.Kids=some ((lay t).1:Int):=fun hk=>by
   rw[ac9 (l:=t.Kids) (fun x hx=>ih x (aa.dw hx) (hZ hs x hx)) (fun x hx=>ve x (by have:=aa.dw hx;omega) (hZ hs x hx)) hkl hks,xM hk]
  have cs:∀hk:t.Kind=13\/t.Kind=14\/t.Kind=17,M.pY (M.mJ m) (cH t)=some ((db 0 1 ((cH t).map lay)).1:Int)/\M.iO (Go.IntKind.wrap .i64 ((iC t:Int)+((db 0 1 ((cH t).map lay)).1:Int))) ((lay t).2:Int)=some ((lay t).1:Int):=fun hk=>by
   have hal:=A4 (cH t);have hle:(db 0 1 ((cH t).map lay)).1<=16*1048577:=AQ _ _ _ _ (dM _) fun x hx=>by
    obtain⟨y,hy,rfl⟩:=lB.1 hx;have h6:=ox hs hk y hy;have:=sg y;omega
   have hu:=ov (a:=1) hal;have:=hal.le;refine⟨by rw[ac8 (l:=cH t) (fun x hx=>ih x (ox hs hk x hx) (qj hs hk x hx)) (xF t hkl),QD],?_⟩;unfold iC;rw[FQ hs hk,wrap_i64 (by omega) (by omega),<-Int.natCast_add,xI _ _ hal (by omega)]
  have fin:∀hk:t.Kind=13\/t.Kind=14\/t.Kind=17,(let q0:=(M.nW (M.aa.re t))
           let q1:=(M.mG (M.aa.re t))
           let q2:=(M.pY (M.mJ m) (Option.getD q1 Inhabited.default))
           let q3:=(M.gC (M.aa.re t))
           let q4:=(M.iO (Go.IntKind.wrap Go.IntKind.i64 ((Option.getD q0 Inhabited.default)+(Option.getD q2 Inhabited.default))) (Option.getD q3 Inhabited.default))
           bif((Option.isSome q4)&&((Option.isSome q3)&&((Option.isSome q2)&&((Option.isSome q1)&&((Option.isSome q0)&&true)))))then
            some (Option.getD q4 Inhabited.default)
           else
            none)=some ((lay t).1:Int):=fun hk=>by
   obtain⟨c1,c2⟩:=cs hk;rw[aa.aG,QJ t hN hs hk,xN t hs hk,ve t hN hs];simp only[aC,aR,aQ];rw[c1];simp only[aC,aR,aQ];rw[c2];rfl
  rcases AW hs with k|k|k|k|k|k|k|k|k|k|k
  ·rw[xJ k,k];rfl
  ·have hn:=QE (k:=t.Kind);have n:∀c:Int,c=1\/c=11\/c=12\/c=13\/c=14\/c=15\/c=16\/c=17\/c=18\/c=19->(t.Kind==c)=false:=fun c hc=>de fun e=>by rw[<-e]at hc;have:=hn hc;omega
   rw[n 1 (by omega),n 18 (by omega),n 11 (by omega),n 12 (by omega),n 19 (by omega),n 15 (by omega),n 16 (by omega),n 13 (by omega),n 14 (by omega),n 17 (by omega),QF,AY k];rfl
  ·rw[xK (.inl k),k];rfl
  ·rw[xK (.inr k),k];rfl
  ·have:=fin (.inl k);rw[k];exact this
  ·have:=fin (.inr (.inl k));rw[k];exact this
  ·rw[ks (.inl k),k];rfl
  ·rw[ks (.inr k),k];rfl
  ·have:=fin (.inr (.inr k));rw[k];exact this
  ·rw[AZ k,k];rfl
  ·rw[aa.aG,QG hs k,A0 k,k];split<;>rfl
theorem vf(t:aa)(hN:t.sz<=1048576)(hs:bK t=true):M.jY t=some ((lay t).1:Int):=QL ai t (ia hN) hN hs
end M
namespace M
open Go.V (inB bF ai cJ)
def chainB(e:Int):Int->List af->Bool
 |_,[]=>true
 |last,b::r=>(((decide (1<=b.Size)&&decide (last<b.At))&&decide (b.At<=e))&&decide (b.Size<=e-b.At))&&chainB e (b.At+b.Size) r
def Chain(e:Int)(last:Int)(l:List af):Prop:=chainB e last l=true
theorem lH{e last:Int}{b:af}{r:List af}:Chain e last (b::r)↔(1<=b.Size/\last<b.At/\b.At+b.Size<=e)/\Chain e (b.At+b.Size) r:=by
 unfold Chain;simp only[chainB,aU,aZ];constructor
 ·rintro ⟨⟨⟨⟨h1,h2⟩,h3⟩,h4⟩,h5⟩;exact⟨⟨h1,h2,by omega⟩,h5⟩
 ·rintro ⟨⟨h1,h2,h3⟩,h5⟩;exact⟨⟨⟨⟨h1,h2⟩,by omega⟩,by omega⟩,h5⟩
theorem Chain.nil{e last:Int}:Chain e last []:=rfl
theorem Chain.low{e last last':Int}{l:List af}(h:Chain e last l)(hl:last'<=last):Chain e last' l:=by
 cases l with
 |nil=>rfl
 |cons b r=>rw[lH]at*;exact⟨⟨h.1.1,by omega,h.1.2.2⟩,h.2⟩
theorem Chain.len:∀{l:List af}{e last:Int},Chain e last l->last<=e->(l.length:Int)<=e-last
 |[],e,last,_,h=>by simp;omega
 |b::r,e,last,h,hl=>by
  rw[lH]at h;have:=Chain.len h.2 h.1.2.2;simp only[bY];omega
theorem Chain.mem:∀{l:List af}{e last:Int},Chain e last l->∀b∈l,last<b.At/\1<=b.Size/\b.At+b.Size<=e
 |b::r,e,last,h,x,hx=>by
  rw[lH]at h;rcases dP.1 hx with rfl|hx
  ·exact⟨h.1.2.1,h.1.1,h.1.2.2⟩
  ·have:=Chain.mem h.2 x hx;exact⟨by omega,this.2⟩
def xO(b:af)(a many:Int):List af:=
 (if b.At<a then[af.mk b.At (a-b.At)]else[])++(if a+many<b.At+b.Size then[af.mk (a+many) (b.At+b.Size-(a+many))]else[])
def dr(b:af)(al:Nat):Int:=((cL b.At.toNat al:Nat):Int)
def jH(many al:Nat):List af->Option (Int×List af)
 |[]=>none
 |b::r=>if dr b al+many<=b.At+b.Size then some (dr b al,xO b (dr b al) many++r)
  else(jH many al r).map fun p=>(p.1,b::p.2)
theorem FR{b:af}{al:Nat}(ha:cU al)(h0:0<=b.At):b.At<=dr b al/\dr b al<b.At+al:=by
 unfold dr;have h1:=va (a:=b.At.toNat) ha;have h2:=ov (a:=b.At.toNat) ha;omega
theorem ada{e last:Int}{b:af}{r:List af}{a:Int}{many:Nat}(h:Chain e last (b::r))(h1:b.At<=a)(h2:a+many<=b.At+b.Size)(h0:0<many):Chain e last (xO b a many++r):=by
 rw[lH]at h;obtain⟨⟨g1,g2,g3⟩,g4⟩:=h;unfold xO;by_cases c1:b.At<a
 ·rw[bG c1];by_cases c2:a+many<b.At+b.Size
  ·rw[bG c2,fS,List.singleton_append,List.singleton_append,lH,lH];simp only;exact⟨⟨by omega,g2,by omega⟩,⟨by omega,by omega,by omega⟩,g4.low (by omega)⟩
  ·rw[bH c2,mV,List.singleton_append,lH];simp only;exact⟨⟨by omega,g2,by omega⟩,g4.low (by omega)⟩
 ·rw[bH c1,jB];by_cases c2:a+many<b.At+b.Size
  ·rw[bG c2,List.singleton_append,lH];simp only;exact⟨⟨by omega,by omega,by omega⟩,g4.low (by omega)⟩
  ·rw[bH c2,jB];exact g4.low (by omega)
theorem QM{many al:Nat}(h0:0<many)(ha:cU al):∀{l:List af}{e last:Int}{a:Int}{l':List af},Chain e last l->0<=last->jH many al l=some (a,l')->Chain e last l'/\last<a/\a+many<=e
 |b::r,e,last,a,l',h,hl,hr=>by
  have hc:=lH.1 h;have hp:=FR (b:=b) ha (by omega);unfold jH at hr;split at hr
  ·rename_i hle;simp only[ak,aS]at hr;obtain⟨rfl,rfl⟩:=hr;exact⟨ada h hp.1 hle h0,by omega,by omega⟩
  ·rw[dB]at hr;obtain⟨p,h1,h2⟩:=hr;simp only[aS]at h2;obtain⟨rfl,rfl⟩:=h2;obtain⟨g1,g2,g3⟩:=QM (l:=r) h0 ha hc.2 (by omega) h1;exact⟨lH.2 ⟨hc.1,g1⟩,by omega,g3⟩
def eN(many al:Nat)(l:List af):Option (Int×List af):=if many=0 then some (0,l)else jH many al l
theorem adb{many al:Nat}(ha:cU al){l:List af}{e:Int}{a:Int}{l':List af}(h:Chain e 7 l)(he:0<=e)(hr:eN many al l=some (a,l')):Chain e 7 l'/\0<=a/\a+many<=e:=by
 unfold eN at hr;split at hr
 ·rename_i h0;simp only[ak,aS]at hr;obtain⟨rfl,rfl⟩:=hr;exact⟨h,Int.le_refl _,by omega⟩
 ·obtain⟨g1,g2,g3⟩:=QM (by omega) ha h (by omega) hr;exact⟨g1,by omega,g3⟩
def ee(a:Int)(bs B:List UInt8):List UInt8:=if 0<=a/\a+bs.length<=B.length then B.take a.toNat++bs++B.drop (a.toNat+bs.length)else B
theorem QN(a:Int)(bs B:List UInt8):(ee a bs B).length=B.length:=by
 unfold ee;split
 ·simp;omega
 ·rfl
theorem QO(a:Int)(B:List UInt8):ee a [] B=B:=by
 unfold ee;split<;>simp
theorem ade(a:Int)(x y B:List UInt8)(h0:0<=a)(h:a+(x.length+y.length)<=B.length):ee (a+x.length) y (ee a x B)=ee a (x++y) B:=by
 obtain⟨n,rfl⟩:=mU h0;have hx:ee (n:Int) x B=B.take n++x++B.drop (n+x.length):=by
  unfold ee;rw[bG ⟨h0,by omega⟩,bP]
 rw[hx];have hlx:(B.take n++x++B.drop (n+x.length)).length=B.length:=by simp;omega
 unfold ee;rw[bG ⟨by omega,by rw[hlx];omega⟩,bG ⟨h0,by rw[dj];omega⟩];have e1:((n:Int)+x.length).toNat=n+x.length:=by omega
 rw[e1,bP];have hl:(B.take n++x).length=n+x.length:=by simp;omega
 rw[xP (by rw[hl];exact bn _),si (by rw[hl];exact bn _)];rw[show n+x.length+y.length=(B.take n++x).length+y.length by rw[hl],<-se,List.drop_left,se];simp[jG]
def fixF(n:Int):Nat->List UInt8
 |0=>[]
 |k+1=>Go.V.dO (Go.IntKind.wrap .u8 n)::fixF (Go.V.ft .i64 n 8) k
theorem gm(n:Int):∀k,(fixF n k).length=k:=by
 intro k
 induction k generalizing n with
 |zero=>rfl
 |succ k ih=>simp[fixF,ih]
end M
