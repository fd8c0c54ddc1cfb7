/-
  FROM A CONTRACT TO A LAW's STATEMENT: what is handed in reads as data; what is left reads as it did.
-/
import Derived.Test.YtfeedngnaochdaaGreatDoorXXdata
import Derived.ProofKit
import Derived.OpenShut
import Derived.Below
import Derived.Carry
import Derived.ChangeSame
import Derived.ChangeCalls
set_option linter.unusedVariables false
namespace Go.V
open Go Go.ChangeShapes Go.WideShapes Go.RowKit
variable {ρ :List Value}{S:Nat->Prop}{w:World}
def lY(P:Program)(ty:TypeId->Option U):Nat->TypeId->Option (List (Sh K))
 |0,_=>none
 |n+1,t=>match P.underlying t with
  |some .bool=>some [.bool]
  |some (.int k)=>some [.int k]
  |some .string=>some [.str]
  |some (.slice e)=>match ty e with
   |some c=>some [.ax c]
   |none=>none
  |some (.struct fs)=>fs.toList.foldr (fun f acc=>match lY P ty n f.type,acc with
   |some a,some b=>some (a++b)
   |_,_=>none) (some [])
  |_=>none
def mO:List (Sh K)->List (Sh K)->Bool
 |[],[]=>true
 |a::r,b::s=>(match a,b with
  |.int k,.int k'=>decide (k=k')
  |.bool,.bool=>true
  |.str,.str=>true
  |.ax c,.ax c'=>decide (c=c')
  |_,_=>false)&&mO r s
 |_,_=>false
theorem BC:∀(a b:List (Sh K)),mO a b=true->a=b
 |[],[],_=>rfl
 |[],_::_,h=>by simp[mO]at h
 |_::_,[],h=>by simp[mO]at h
 |a::r,b::s,h=>by
  simp only[mO,bz]at h;rw[BC r s h.2];have h1:=h.1;split at h1
  ·rw[jQ h1]
  ·rfl
  ·rfl
  ·rw[jQ h1]
  ·cases h1
def wa(P:Program)(ty:TypeId->Option U)(l:List Nat):Bool:=l.all fun e=>match ty e with
 |some c=>(match lY P ty 8 e with
  |some s=>mO s (ji c)
  |none=>false)&&decide (P.cellsOf e=Hr c)
 |none=>true
def Ht(next:(c:U)->El c->Prop):(s:Sh K)->s.T->Prop
 |.int k,(n:Int)=>k.min<=n/\n<=k.max
 |.str,(s:List UInt8)=>s.length<=maxLen
 |.ax c,(l:List (El c))=>l.length<=maxLen/\∀y∈l,next c y
 |_,_=>True
def wb(next:(c:U)->El c->Prop):(l:List (Sh K))->Sh.Ts l->Prop
 |[],_=>True
 |s::r,x=>Ht next s x.1/\wb next r x.2
def Val:Nat->(l:List (Sh K))->Sh.Ts l->Prop
 |0=>wb fun _ _=>True
 |m+1=>wb fun c y=>Val m (ji c) (qw c y)
def kT(m:Nat)(c:U)(x:El c):Prop:=Val m (ji c) (qw c x)
def y6:(a b:List (Sh K))->Sh.Ts a->Sh.Ts b->Sh.Ts (a++b)
 |[],_,_,y=>y
 |_::r,b,x,y=>(x.1,y6 r b x.2 y)
theorem Nv{D:bg K}:∀(a b:List (Sh K))(x:Sh.Ts a)(y:Sh.Ts b),Sh.encs D (a++b) (y6 a b x y)=Sh.encs D a x++Sh.encs D b y
 |[],_,_,_=>rfl
 |s::r,b,x,y=>by
  show Sh.enc D s x.1::Sh.encs D (r++b) (y6 r b x.2 y)=Sh.enc D s x.1::(Sh.encs D r x.2++Sh.encs D b y)
  rw[Nv]
theorem Hu{p:(c:U)->El c->Prop}:∀(a b:List (Sh K))(x:Sh.Ts a)(y:Sh.Ts b),wb p a x->wb p b y->wb p (a++b) (y6 a b x y)
 |[],_,_,_,_,h=>h
 |s::r,b,x,y,h1,h2=>⟨h1.1,Hu r b x.2 y h1.2 h2⟩
def Old(w:World)(b:Nat):Prop:=b<w.heap.size
def tN(w:World)(l:List (Sh K))(cs:List Value):Prop:=∃x:Sh.Ts l,aW D [] (Old w) w (Sh.encs (D0 K) l x) cs/\∀m,Val m l x
theorem tN.app{a b:List (Sh K)}{cs ds:List Value}(h:tN w a cs)(k:tN w b ds):tN w (a++b) (cs++ds):=by
 obtain⟨x,h1,h2⟩:=h;obtain⟨y,k1,k2⟩:=k;refine⟨y6 a b x y,by rw[Nv];exact h1.append k1,fun m=>?_⟩;cases m with
 |zero=>exact Hu a b x y (h2 0) (k2 0)
 |succ m=>exact Hu a b x y (h2 (m+1)) (k2 (m+1))
theorem Nw{α:Type}(p:Nat->α->Prop):∀n,(∀i,i<n->∃y,p i y)->∃l:List α,l.length=n/\∀i y,l[i]?=some y->p i y
 |0,_=>⟨[],rfl,fun i y h=>by simp at h⟩
 |n+1,h=>by
  obtain⟨l,h1,h2⟩:=Nw p n fun i hi=>h i (by omega)
  obtain⟨y,hy⟩:=h n (by omega);refine⟨l++[y],by simp[h1],fun i z hz=>?_⟩;rcases cV i l.length with hlt|hge
  ·rw[cU hlt]at hz;exact h2 i z hz
  ·rw[dA hge]at hz;have:i-l.length=0:=by
    rcases jP (i-l.length)with h0|h0
    ·exact h0
    ·rw[ki (by simp;omega)]at hz;cases hz
   rw[this]at hz;simp at hz;subst hz;have:i=n:=by omega
   subst this;exact hy
theorem Nx:∀(c:U)(y:Sh.Ts (ji c)),(∀k n,Sh.encs (D0 K) (ji c) y=[.int k n]->k.min<=n/\n<=k.max)->(kg c y).2=true:=by
 intro c y h;cases c<;>first|rfl|skip
 have:=h .u8 y.1 rfl;have e1:IntKind.u8.min=0:=rfl;have e2:IntKind.u8.max=255:=rfl;rw[e1,e2]at this;simp only[kg,mz,bz,bN];exact⟨this.1,by have:=this.2;omega⟩
theorem Ny(c:U)(y:Sh.Ts (ji c))(h:(kg c y).2=true):qw c (kg c y).1=y:=by
 have:kg c y=((kg c y).1,true):=by rw[<-h]
 cases c<;>first|exact LL this|rfl
theorem cell_spot{w:World}{a:Addr}{v:Value}(h:w.cell? a=some v):a.spot=none/\a.block<w.heap.size:=by
 unfold World.cell? at h;split at h
 ·rename_i c t fr hb;split at h
  ·cases h
  ·rename_i hs;refine⟨by cases hx:a.spot<;>simp[hx]at hs⊢,?_⟩;exact(js.1 hb).1
 ·cases h
theorem Nz{w:World}{base:Nat}{a:Addr}{n:Nat}{cs:List Value}(h:w.cells? base a n=some cs):cs.length=n/\∀i v,cs[i]?=some v->w.cell? (a.add i)=some v:=by
 unfold World.cells? at h;split at h
 ·have hl:cs.length=n:=by simpa using mapM_some_length h
  refine⟨hl,fun i v hv=>?_⟩;have hi:i<n:=by rw[<-hl];exact(bM.1 hv).1
  have:=mapM_some_get h i i (by simp[hi]);rw[this,hv]
 ·cases h
section
variable {P :Program}{ty:TypeId->Option U}{H:Type}{enc:TypeId×Value->H}{held:Bool}{sp:Nat->Bool}
theorem Hw(hl:laidOutB P=true){tab:List Nat}(htab:wa P ty tab=true)(hin:∀e c,ty e=some c->e∈tab):∀(fuel:Nat)(t:TypeId)(n:Nat)(l:List (Sh K))(cs:List Value)(x:DataW H×List MemPlace),
 t<P.types.size->lY P ty n t=some l->DataW.trod enc P w 0 sp held fuel t cs=some x->tN w l cs
 |0,t,n,l,cs,x,ht,hs,h=>by simp[DataW.trod]at h
 |fuel+1,t,0,l,cs,x,ht,hs,h=>by simp[lY]at hs
 |fuel+1,t,n+1,l,cs,x,ht,hs,h=>by
  simp only[lY]at hs;split at hs
  ·rename_i hu;simp only[aj]at hs;subst hs;obtain⟨b,rfl,-⟩:=DataW.trod_bool hu h;exact⟨(b,()),.cons (.bool b) .nil,fun m=>by cases m<;>exact⟨trivial,trivial⟩⟩
  ·rename_i k hu;simp only[aj]at hs;subst hs;obtain⟨i,rfl,-,hw⟩:=DataW.trod_int hu h;simp only[Lit.wf,bz,bN]at hw;exact⟨(i,()),.cons (.int k i) .nil,fun m=>by cases m<;>exact⟨hw,trivial⟩⟩
  ·rename_i hu;simp only[aj]at hs;subst hs;obtain⟨s,rfl,-,hw⟩:=DataW.trod_string hu h;have e:s=⟨s.data.toList.toArray⟩:=by cases s;rfl
   refine⟨(s.data.toList,()),.cons (by rw[e];exact .str _) .nil,fun m=>by cases m<;>exact⟨by show s.data.toList.length<=maxLen;simpa using hw,trivial⟩⟩
  ·rename_i e hu;split at hs
   ·rename_i c hc;simp only[aj]at hs;subst hs;have he:e<P.types.size:=kid_slice hl ht hu;have htc:=ig.1 htab e (hin e c hc);rw[hc]at htc;simp only[bz,bN]at htc;obtain⟨Hy,hsz⟩:=htc;split at Hy
    ·rename_i sl hsl;have abH:=BC _ _ Hy;subst abH;rcases DataW.trod_slice hu h with⟨rfl,-⟩|⟨a,len,cap,elems,rest,n',hf,rfl,-,hb,hlc,hcm,hel,hall,-⟩
     ·exact⟨(([]:List (El c)),()),.cons (.eP _ _) .nil,fun m=>by cases m<;>exact⟨⟨eY _,fun y hy=>by simp at hy⟩,trivial⟩⟩
     ·have hf:=Nat.succ.inj hf;subst hf;have key:∀i,i<len->∃y:El c,∃cs',w.cells? 0 (a.add (i*P.cellsOf e)) (P.cellsOf e)=some cs'/\aW D [] (Old w) w (D.cells c y) cs'/\∀m,kT m c y:=fun i hi=>by
       have h1:=hall i hi;have hi':i<elems.length:=by omega
       rw[bY hi',Option.bind_eq_some_iff]at h1;obtain⟨cs',h2,h3⟩:=h1;obtain⟨z,hz1,hz2⟩:=Hw hl htab hin fuel e 8 (ji c) cs' _ he hsl h3;have hmk:(kg c z).2=true:=Nx c z fun k q hq=>by
        have:=hz2 0;have hk:∀(l:List (Sh K))(z:Sh.Ts l) k q,jD l=true->Sh.encs (D0 K) l z=[.int k q]->Val 0 l z->k.min<=q/\q<=k.max:=fun l z k q hfl hq hv=>by
         cases l with
         |nil=>simp[Sh.encs]at hq
         |cons s r=>
          have hq:=List.cons.inj hq;simp only[jD,bz]at hfl;cases s<;>simp only[Sh.flat]at hfl<;>simp only[Sh.enc]at hq<;>first|(exact absurd hfl.1 rl)|(cases hq.1;done)|skip
          have hq1:=hq.1;have hq1:=AV.int.inj hq1;obtain⟨rfl,hq2⟩:=hq1;have:=hv.1;simp only[Ht]at this;rw[hq2]at this;exact this
        exact hk _ z k q (by cases c<;>rfl) hq this
       have hun:=Ny c z hmk;refine⟨(kg c z).1,cs',h2,?_,fun m=>?_⟩
       ·show aW D [] (Old w) w (Sh.encs (D0 K) (ji c) (qw c (kg c z).1)) cs'
        rw[hun];exact hz1
       ·unfold kT;rw[hun];exact hz2 m
      obtain⟨ys,hy1,hy2⟩:=Nw _ len key;have hv:∀m,Val m [Sh.ax (K:=K) c] (ys,()):=fun m=>by
       have hlen:ys.length<=maxLen:=by omega
       have hmem:∀y∈ys,∀m,kT m c y:=fun y hy m=>by
        obtain⟨i,hi⟩:=List.getElem?_of_mem hy;obtain⟨cs',-,-,q⟩:=hy2 i y hi;exact q m
       cases m with
       |zero=>exact⟨⟨hlen,fun _ _=>trivial⟩,trivial⟩
       |succ m=>exact⟨⟨hlen,fun y hy=>hmem y hy m⟩,trivial⟩
      refine⟨(ys,()),.cons ?_ .nil,hv⟩
      show Rep D [] (Old w) w (.ax c ys) (.slice (some a) len cap)
      cases hys:ys with
      |nil=>
       rw[hys]at hy1;have:len=0:=by simpa using hy1.symm
       rw[this];exact .eP _ _
      |cons y0 yr=>
       rw[<-hys];have h0:ys[0]?=some y0:=by rw[hys];rfl
       obtain⟨c0,q1,q2,-⟩:=hy2 0 y0 h0;have ahJ:0<P.cellsOf e:=by
        rw[hsz];cases c<;>(show 0<_;decide)
       obtain⟨g1,g2⟩:=Nz q1;have hc0:0<c0.length:=by omega
       have hcell:=g2 0 _ (bY hc0);have ha:(a.add (0*P.cellsOf e)).add 0=a:=by simp[Addr.add]
       rw[ha]at hcell;obtain⟨hspot,hblk⟩:=cell_spot hcell;obtain⟨ab,ao,asp⟩:=a;simp only at hspot;subst hspot;rw[<-hy1]
       let val:Nat->List Value:=fun i=>(w.cells? 0 ((⟨ab,ao,none⟩:Addr).add (i*P.cellsOf e)) (P.cellsOf e)).getD []
       have hval:∀i y,ys[i]?=some y->aW D [] (Old w) w (D.cells c y) (val i):=fun i y hi=>by
        obtain⟨cs',r1,r2,-⟩:=hy2 i y hi
        show aW D [] (Old w) w (D.cells c y) ((w.cells? 0 _ _).getD [])
        rw[r1];exact r2
       refine .ax val hblk (by omega) (fun i y hi=>(hval i y hi).1.symm) (fun i hi=>?_) (fun i y hi j v u hv hu=>(hval i y hi).2 j v u hv hu);obtain⟨cs',r1,-,-⟩:=hy2 i _ (bY hi);intro j v hj;have hval':val i=cs':=by show(w.cells? 0 _ _).getD []=cs';rw[r1];rfl
       rw[hval']at hj;have:=(Nz r1).2 j v hj;have ea:((⟨ab,ao,none⟩:Addr).add (i*P.cellsOf e)).add j=⟨ab,ao+i*P.cellsOf e+j,none⟩:=by
        simp only[Addr.add];split<;>split<;>simp_all
       rw[ea]at this
       show w.cell? ⟨ab,ao+i*K.sz c+j,none⟩=some v
       show w.cell? ⟨ab,ao+i*Hr c+j,none⟩=some v
       rw[<-hsz];exact this
    ·cases Hy
   ·cases hs
  ·rename_i fs hu;obtain⟨hkt,hcs,hoff⟩:=kid_struct hl ht hu;obtain⟨xs,n',hf,-,hcl,hxl,hall⟩:=DataW.trod_struct hu h;have hf:=Nat.succ.inj hf;subst hf;have key:∀(gs:List Field)(j:Nat)(l:List (Sh K)),fs.toList.drop j=gs->gs.foldr (fun f acc=>match lY P ty n f.type,acc with
    |some a,some b=>some (a++b)
    |_,_=>none) (some [])=some l->tN w l (cs.drop ((fs.toList.take j).map fun f=>P.cellsOf f.type).sum):=by
    intro gs
    induction gs with
    |nil=>
     intro j l hj hl1;simp only[List.foldr_nil,aj]at hl1;subst hl1;have:fs.toList.length<=j:=by have:=fN List.length hj;simp at this;simp;omega
     rw[uA this,<-hcs,<-hcl,wJ];exact⟨(),.nil,fun m=>by cases m<;>trivial⟩
    |cons g gr ih=>
     intro j l hj hl1;simp only[List.foldr_cons]at hl1;split at hl1
     ·rename_i a b ha hb;simp only[aj]at hl1;subst hl1;have hjl:j<fs.toList.length:=by
       rcases cV j fs.toList.length with hlt|hge
       ·exact hlt
       ·rw[List.drop_of_length_le hge]at hj;cases hj
      have hg:fs.toList[j]?=some g:=by
       have:=fN (·[0]?) hj;simpa using this
      have hgr:fs.toList.drop (j+1)=gr:=by
       have:=fN List.tail hj;simpa using this
      have ho:=hoff j g hg;have hx:=hall j g (by simpa using hg);have hj':j<xs.length:=by rw[hxl];simpa using hjl
      rw[bY hj']at hx;have r1:=Hw hl htab hin fuel g.type n a _ _ (hkt g (gz hg)) ha hx;have r2:=ih (j+1) b hgr hb;have hsum:((fs.toList.take (j+1)).map fun f=>P.cellsOf f.type).sum=((fs.toList.take j).map fun f=>P.cellsOf f.type).sum+P.cellsOf g.type:=by
       rw[List.take_add_one,hg];simp
      rw[hsum]at r2;rw[ho]at r1;have:=r1.app r2;rw[<-wL,List.take_append_drop]at this;exact this
     ·cases hl1
   have:=key fs.toList 0 l rfl hs;simpa using this
  ·cases hs
end
theorem NA{H:Type}{enc:TypeId×Value->H}{P:Program}{w:World}{base:Nat}{spare:Nat->Bool}{held:Bool}:∀{ts:List TypeId}{vs:List Value}{ds:List (DataW H)}{ps:List MemPlace},DataW.TrodAll enc P w base spare held ts vs ds ps->vs.length=ts.length/\ds.length=ts.length
 |[],vs,ds,ps,h=>by obtain⟨rfl,rfl,-⟩:=trodAll_nil h;exact⟨rfl,rfl⟩
 |t::ts,vs,ds,ps,h=>by
  obtain⟨v,vs',d,ds',p,q,rfl,rfl,-,-,h2⟩:=trodAll_cons h;have:=NA h2;simp[this.1,this.2]
theorem abI{H:Type}{enc:TypeId×Value->H}{P:Program}{f:Func}{s:ChangeSpec}{W W':World}{args:Array Value}{ds gs:List (DataW H)}{before:List MemPlace}{tb:TypeId}
 (hl:laidOutB P=true) (hts:f.params.toList.all (fun t=>P.readableRec t&&decide (t<P.types.size))=true) (hvars:s.vars=[]) (hs:∀ds:List (DataW H),ds.length=f.params.toList.length->s.fn H ds={results:=[.lit (.bool true)],args:=ds})
 (hr:f.resultTypes= #[tb]) (hb:P.underlying tb=some .bool) (hW:DataW.Whole enc P f.params.toList s.vars false W args.toList ds gs before) (hold:Below W.heap.size W W'):
 s.post enc P f false true false false W args (.bool true) W':=by
 have hW':=hW;obtain⟨p,q,hA,hV,hpq,hfz,hnd⟩:=hW;rw[hvars]at hV;obtain⟨rfl,rfl⟩:=trodVars_none hV;have abJ:before=p:=by rw[hpq];simp
 subst abJ;have hfn:s.fn H (ds++[])={results:=[.lit (.bool true)],args:=ds}:=by
  rw[rq];exact hs ds (NA hA).2
 have hlt:∀x∈before,x.block<W.heap.size:=fun x hx=>hW'.lt x hx
 have hall:∀(ts:List TypeId)(vs:List Value)(ds:List (DataW H))(ps:List MemPlace),ts.all (fun t=>P.readableRec t&&decide (t<P.types.size))=true->DataW.TrodAll enc P W 0 (fun _=>true) true ts vs ds ps->(∀x∈ps,x.block<W.heap.size)->∀sp:Nat->Bool,(∀x∈ps,sp x.block=true)->
  DataW.TrodAll enc P W' 0 sp true ts vs ds ps:=by
  intro ts
  induction ts with
  |nil=>
   intro vs ds ps _ h _ sp _;obtain⟨rfl,rfl,rfl⟩:=trodAll_nil h;exact rfl
  |cons t ts ih=>
   intro vs ds ps ht h hlt sp hsp;obtain⟨v,vs',d,ds',p,q,rfl,rfl,rfl,h1,h2⟩:=trodAll_cons h;simp only[List.all_cons,bz,bN]at ht;have hsame:∀x∈p,W.sameAt W' x:=fun x hx=>hold.same (hlt x (by simp[hx]))
   exact trodAll_cons_mk (WideElems.Trod_stays hl ht.1.1 ht.1.2 h1 hsame (fun x hx=>hsp x (by simp[hx]))) (ih vs' ds' q (by simpa using ht.2) h2 (fun x hx=>hlt x (by simp[hx])) sp (fun x hx=>hsp x (by simp[hx])))
 have hargs:∀sp:Nat->Bool,(∀x∈before,sp x.block=true)->DataW.TrodAll enc P W' 0 sp true f.params.toList args.toList (s.fn H (ds++[])).args before:=fun sp hsp=>by
  rw[hfn];exact hall _ _ _ _ hts hA hlt sp hsp
 have hres:∀(b:Nat)(sp:Nat->Bool)(hd:Bool),DataW.TrodAll enc P W' b sp hd f.resultTypes.toList ((Value.bool true).resultList f.resultTypes.size) (s.fn H (ds++[])).results []:=fun b sp hd=>by
  rw[hfn,hr];exact trodAll_cons_mk (shut_bool hb _) trodAll_mk0
 have hvs:∀sp:Nat->Bool,DataW.TrodVars enc P W' sp s.vars (s.fn H (ds++[])).vars []:=fun sp=>by rw[hfn,hvars];exact rfl
 have hok:∀(j:Nat)(t:TypeId)(r:Value),f.resultTypes[j]?=some t->((Value.bool true).resultList f.resultTypes.size)[j]?=some r->Value.okWide P W' .any 0 t r:=ok_one hr rfl (okWide_bool_mk hb _);have abK:∀x∈before,(fun b=>decide (b<W.heap.size)) x.block=true:=fun x hx=>by simpa using hlt x hx
 refine⟨ds,[],before,[],before,[],hW',hres _ _ _,hargs _ abK,hvs _,World.keptBut_mono (fun x hx=>⟨hx,.inr (by simpa using hx)⟩) (hold.frame (· ∈before)),fun _=>?_⟩;refine⟨hok,_,_,([]++before)++[],⟨[]++before,[],trodAll_append (hargs _ (fun _ _=>rfl)) (hres _ _ _),hvs _,rfl,?_,?_⟩,?_⟩
 ·intro b off hp;have hin:MemPlace.cell b off∈before:=by simpa using hp
  rw[hold.frozen (hlt _ hin)];exact hfz b off hin
 ·intro ha;cases ha
 ·intro x hx _;simpa using hx
theorem abL{P:Program}{ty:TypeId->Option U}{c:aP K}(hc:c.Ok D P){H:Type}{enc:TypeId×Value->H}{W:World}{args:Array Value}{ds:List (DataW H)}{ps:List MemPlace}
 (hos:c.sh.os=[]) (x:c.sh.T) (hx:aW D [] (Old W) W (c.sh.kF D x) args.toList) {r:c.R} (hr:c.run x=some r) (ho:c.out r=(.bool true,[])) (hbase:D.base.inv (Old W) W):
 Calls P c.f args W fun e W'=>e=.returned (.bool true)/\Below W.heap.size W W':=by
 obtain⟨-,h⟩:=hc x r hr;have hH:c.sh.lr D x=[]:=by
  unfold aU.lr;have:∀(l:List (aR K))(y:aR.Ts l),l=[]->aR.encs D l y=[]:=fun l y e=>by subst e;rfl
  exact this _ _ hos
 rw[hH,ho]at h;have hs:aK D [] (Old W) W ([]:List (Ob K)):=⟨rfl,fun _ _ _ h=>by simp at h,fun _ _ _ _ _ _ _ h=>by simp at h,fun b ⟨_,_,_,h,_⟩=>by simp at h,fun b hb=>hb,hbase⟩;have:=h [] (Old W) W args.toList hs hx;rw[Array.toArray_toList]at this;refine this.mono ?_
 rintro e W' ⟨u,ρ',S',rfl,h1,h2,h3⟩
 refine⟨by rw[jX h2],⟨h3.os,h3.tape,h3.output,h3.size,fun k hk=>h3.old k hk fun⟨_,_,_,h,_⟩=>by simp at h⟩⟩
theorem NB{P:Program}{ty:TypeId->Option U}(hl:laidOutB P=true){tab:List Nat}(htab:wa P ty tab=true)(hin:∀e c,ty e=some c->e∈tab){H:Type}{enc:TypeId×Value->H}{W:World}{t:TypeId}{v:Value}{d:DataW H}{p:List MemPlace}{l:List (Sh K)}
 (ht:t<P.types.size) (hs:lY P ty 8 t=some l) (h:DataW.Trod enc P W 0 (fun _=>true) true t v d p):tN W l v.cells.toList:=by
 obtain⟨fuel,h⟩:=h;exact Hw hl htab hin fuel t 8 l _ _ ht hs h
end Go.V
