/-
  FROM A CONTRACT TO A LAW's STATEMENT: what is handed in reads as data; what is left reads as it did.
-/
import Derived.Test.YtpablcpgdagijaaGreatXCdata
import Derived.ProofKit
import Derived.OpenShut
import Derived.Below
import Derived.Carry
import Derived.ChangeSame
import Derived.ChangeCalls
set_option linter.unusedVariables false
namespace Go.V
open Go Go.ChangeShapes Go.WideShapes Go.RowKit
variable {ρ :List Value}{S:Nat->Prop}{w:World}
def gU(P:Program)(ty:TypeId->Option U):Nat->TypeId->Option (List (Sh K))
 |0,_=>none
 |n+1,t=>match P.underlying t with
  |some .bool=>some [.bool]
  |some (.int k)=>some [.int k]
  |some .string=>some [.str]
  |some (.slice e)=>match ty e with
   |some c=>some [.au c]
   |none=>none
  |some (.struct fs)=>fs.toList.foldr (fun f acc=>match gU P ty n f.type,acc with
   |some a,some b=>some (a++b)
   |_,_=>none) (some [])
  |_=>none
def ik:List (Sh K)->List (Sh K)->Bool
 |[],[]=>true
 |a::r,b::s=>(match a,b with
  |.int k,.int k'=>decide (k=k')
  |.bool,.bool=>true
  |.str,.str=>true
  |.au c,.au c'=>decide (c=c')
  |_,_=>false)&&ik r s
 |_,_=>false
theorem uR:∀(a b:List (Sh K)),ik a b=true->a=b
 |[],[],_=>rfl
 |[],_::_,h=>by simp[ik]at h
 |_::_,[],h=>by simp[ik]at h
 |a::r,b::s,h=>by
  simp only[ik,Bool.and_eq_true]at h;rw[uR r s h.2];have h1:=h.1;split at h1
  ·rw[of_decide_eq_true h1]
  ·rfl
  ·rfl
  ·rw[of_decide_eq_true h1]
  ·cases h1
def ou(P:Program)(ty:TypeId->Option U)(l:List Nat):Bool:=l.all fun e=>match ty e with
 |some c=>(match gU P ty 8 e with
  |some s=>ik s (eQ c)
  |none=>false)&&decide (P.cellsOf e=yc c)
 |none=>true
def yf(next:(c:U)->El c->Prop):(s:Sh K)->s.T->Prop
 |.int k,(n:Int)=>k.min<=n/\n<=k.max
 |.str,(s:List UInt8)=>s.length<=maxLen
 |.au c,(l:List (El c))=>l.length<=maxLen/\∀y∈l,next c y
 |_,_=>True
def ov(next:(c:U)->El c->Prop):(l:List (Sh K))->Sh.Ts l->Prop
 |[],_=>True
 |s::r,x=>yf next s x.1/\ov next r x.2
def Val:Nat->(l:List (Sh K))->Sh.Ts l->Prop
 |0=>ov fun _ _=>True
 |m+1=>ov fun c y=>Val m (eQ c) (l5 c y)
def gV(m:Nat)(c:U)(x:El c):Prop:=Val m (eQ c) (l5 c x)
def sF:(a b:List (Sh K))->Sh.Ts a->Sh.Ts b->Sh.Ts (a++b)
 |[],_,_,y=>y
 |_::r,b,x,y=>(x.1,sF r b x.2 y)
theorem E0{D:aT K}:∀(a b:List (Sh K))(x:Sh.Ts a)(y:Sh.Ts b),Sh.encs D (a++b) (sF a b x y)=Sh.encs D a x++Sh.encs D b y
 |[],_,_,_=>rfl
 |s::r,b,x,y=>by
  show Sh.enc D s x.1::Sh.encs D (r++b) (sF r b x.2 y)=Sh.enc D s x.1::(Sh.encs D r x.2++Sh.encs D b y)
  rw[E0]
theorem yg{p:(c:U)->El c->Prop}:∀(a b:List (Sh K))(x:Sh.Ts a)(y:Sh.Ts b),ov p a x->ov p b y->ov p (a++b) (sF a b x y)
 |[],_,_,_,_,h=>h
 |s::r,b,x,y,h1,h2=>⟨h1.1,yg r b x.2 y h1.2 h2⟩
def Old(w:World)(b:Nat):Prop:=b<w.heap.size
def l6(w:World)(l:List (Sh K))(cs:List Value):Prop:=∃x:Sh.Ts l,aI D [] (Old w) w (Sh.encs (D0 K) l x) cs/\∀m,Val m l x
theorem l6.app{a b:List (Sh K)}{cs ds:List Value}(h:l6 w a cs)(k:l6 w b ds):l6 w (a++b) (cs++ds):=by
 obtain⟨x,h1,h2⟩:=h;obtain⟨y,k1,k2⟩:=k;refine⟨sF a b x y,by rw[E0];exact h1.append k1,fun m=>?_⟩;cases m with
 |zero=>exact yg a b x y (h2 0) (k2 0)
 |succ m=>exact yg a b x y (h2 (m+1)) (k2 (m+1))
theorem E1{α:Type}(p:Nat->α->Prop):∀n,(∀i,i<n->∃y,p i y)->∃l:List α,l.length=n/\∀i y,l[i]?=some y->p i y
 |0,_=>⟨[],rfl,fun i y h=>by simp at h⟩
 |n+1,h=>by
  obtain⟨l,h1,h2⟩:=E1 p n fun i hi=>h i (by omega)
  obtain⟨y,hy⟩:=h n (by omega);refine⟨l++[y],by simp[h1],fun i z hz=>?_⟩;rcases Nat.lt_or_ge i l.length with hlt|hge
  ·rw[List.getElem?_append_left hlt]at hz;exact h2 i z hz
  ·rw[List.getElem?_append_right hge]at hz;have:i-l.length=0:=by
    rcases Nat.eq_zero_or_pos (i-l.length)with h0|h0
    ·exact h0
    ·rw[List.getElem?_eq_none (by simp;omega)]at hz;cases hz
   rw[this]at hz;simp at hz;subst hz;have:i=n:=by omega
   subst this;exact hy
theorem E2:∀(c:U)(y:Sh.Ts (eQ c)),(∀k n,Sh.encs (D0 K) (eQ c) y=[.int k n]->k.min<=n/\n<=k.max)->(fh c y).2=true:=by
 intro c y h;cases c<;>first|rfl|skip
 have:=h .u8 y.1 rfl;have e1:IntKind.u8.min=0:=rfl;have e2:IntKind.u8.max=255:=rfl;rw[e1,e2]at this;simp only[fh,uP,Bool.and_eq_true,decide_eq_true_eq];exact⟨this.1,by have:=this.2;omega⟩
theorem E3(c:U)(y:Sh.Ts (eQ c))(h:(fh c y).2=true):l5 c (fh c y).1=y:=by
 have:fh c y=((fh c y).1,true):=by rw[<-h]
 cases c<;>first|exact EZ this|rfl
theorem cell_spot{w:World}{a:Addr}{v:Value}(h:w.cell? a=some v):a.spot=none/\a.block<w.heap.size:=by
 unfold World.cell? at h;split at h
 ·rename_i c t fr hb;split at h
  ·cases h
  ·rename_i hs;refine⟨by cases hx:a.spot<;>simp[hx]at hs⊢,?_⟩;exact(Array.getElem?_eq_some_iff.1 hb).1
 ·cases h
theorem E4{w:World}{base:Nat}{a:Addr}{n:Nat}{cs:List Value}(h:w.cells? base a n=some cs):cs.length=n/\∀i v,cs[i]?=some v->w.cell? (a.add i)=some v:=by
 unfold World.cells? at h;split at h
 ·have hl:cs.length=n:=by simpa using mapM_some_length h
  refine⟨hl,fun i v hv=>?_⟩;have hi:i<n:=by rw[<-hl];exact(List.getElem?_eq_some_iff.1 hv).1
  have:=mapM_some_get h i i (by simp[hi]);rw[this,hv]
 ·cases h
section
variable {P :Program}{ty:TypeId->Option U}{H:Type}{enc:TypeId×Value->H}{held:Bool}{sp:Nat->Bool}
theorem yh(hl:laidOutB P=true){tab:List Nat}(htab:ou P ty tab=true)(hin:∀e c,ty e=some c->e∈tab):∀(fuel:Nat)(t:TypeId)(n:Nat)(l:List (Sh K))(cs:List Value)(x:DataW H×List MemPlace),
 t<P.types.size->gU P ty n t=some l->DataW.trod enc P w 0 sp held fuel t cs=some x->l6 w l cs
 |0,t,n,l,cs,x,ht,hs,h=>by simp[DataW.trod]at h
 |fuel+1,t,0,l,cs,x,ht,hs,h=>by simp[gU]at hs
 |fuel+1,t,n+1,l,cs,x,ht,hs,h=>by
  simp only[gU]at hs;split at hs
  ·rename_i hu;simp only[Option.some.injEq]at hs;subst hs;obtain⟨b,rfl,-⟩:=DataW.trod_bool hu h;exact⟨(b,()),.cons (.bool b) .nil,fun m=>by cases m<;>exact⟨trivial,trivial⟩⟩
  ·rename_i k hu;simp only[Option.some.injEq]at hs;subst hs;obtain⟨i,rfl,-,hw⟩:=DataW.trod_int hu h;simp only[Lit.wf,Bool.and_eq_true,decide_eq_true_eq]at hw;exact⟨(i,()),.cons (.int k i) .nil,fun m=>by cases m<;>exact⟨hw,trivial⟩⟩
  ·rename_i hu;simp only[Option.some.injEq]at hs;subst hs;obtain⟨s,rfl,-,hw⟩:=DataW.trod_string hu h;have e:s=⟨s.data.toList.toArray⟩:=by cases s;rfl
   refine⟨(s.data.toList,()),.cons (by rw[e];exact .str _) .nil,fun m=>by cases m<;>exact⟨by show s.data.toList.length<=maxLen;simpa using hw,trivial⟩⟩
  ·rename_i e hu;split at hs
   ·rename_i c hc;simp only[Option.some.injEq]at hs;subst hs;have he:e<P.types.size:=kid_slice hl ht hu;have htc:=List.all_eq_true.1 htab e (hin e c hc);rw[hc]at htc;simp only[Bool.and_eq_true,decide_eq_true_eq]at htc;obtain⟨yi,hsz⟩:=htc;split at yi
    ·rename_i sl hsl;have QG:=uR _ _ yi;subst QG;rcases DataW.trod_slice hu h with⟨rfl,-⟩|⟨a,len,cap,elems,rest,n',hf,rfl,-,hb,hlc,hcm,hel,hall,-⟩
     ·exact⟨(([]:List (El c)),()),.cons (.cK _ _) .nil,fun m=>by cases m<;>exact⟨⟨Nat.zero_le _,fun y hy=>by simp at hy⟩,trivial⟩⟩
     ·have hf:=Nat.succ.inj hf;subst hf;have key:∀i,i<len->∃y:El c,∃cs',w.cells? 0 (a.add (i*P.cellsOf e)) (P.cellsOf e)=some cs'/\aI D [] (Old w) w (D.cells c y) cs'/\∀m,gV m c y:=fun i hi=>by
       have h1:=hall i hi;have hi':i<elems.length:=by omega
       rw[List.getElem?_eq_getElem hi',Option.bind_eq_some_iff]at h1;obtain⟨cs',h2,h3⟩:=h1;obtain⟨z,hz1,hz2⟩:=yh hl htab hin fuel e 8 (eQ c) cs' _ he hsl h3;have hmk:(fh c z).2=true:=E2 c z fun k q hq=>by
        have:=hz2 0;have hk:∀(l:List (Sh K))(z:Sh.Ts l) k q,eR l=true->Sh.encs (D0 K) l z=[.int k q]->Val 0 l z->k.min<=q/\q<=k.max:=fun l z k q hfl hq hv=>by
         cases l with
         |nil=>simp[Sh.encs]at hq
         |cons s r=>
          have hq:=List.cons.inj hq;simp only[eR,Bool.and_eq_true]at hfl;cases s<;>simp only[Sh.flat]at hfl<;>simp only[Sh.enc]at hq<;>first|(exact absurd hfl.1 Bool.false_ne_true)|(cases hq.1;done)|skip
          have hq1:=hq.1;have hq1:=AV.int.inj hq1;obtain⟨rfl,hq2⟩:=hq1;have:=hv.1;simp only[yf]at this;rw[hq2]at this;exact this
        exact hk _ z k q (by cases c<;>rfl) hq this
       have hun:=E3 c z hmk;refine⟨(fh c z).1,cs',h2,?_,fun m=>?_⟩
       ·show aI D [] (Old w) w (Sh.encs (D0 K) (eQ c) (l5 c (fh c z).1)) cs'
        rw[hun];exact hz1
       ·unfold gV;rw[hun];exact hz2 m
      obtain⟨ys,hy1,hy2⟩:=E1 _ len key;have hv:∀m,Val m [Sh.au (K:=K) c] (ys,()):=fun m=>by
       have hlen:ys.length<=maxLen:=by omega
       have hmem:∀y∈ys,∀m,gV m c y:=fun y hy m=>by
        obtain⟨i,hi⟩:=List.getElem?_of_mem hy;obtain⟨cs',-,-,q⟩:=hy2 i y hi;exact q m
       cases m with
       |zero=>exact⟨⟨hlen,fun _ _=>trivial⟩,trivial⟩
       |succ m=>exact⟨⟨hlen,fun y hy=>hmem y hy m⟩,trivial⟩
      refine⟨(ys,()),.cons ?_ .nil,hv⟩
      show Rep D [] (Old w) w (.au c ys) (.slice (some a) len cap)
      cases hys:ys with
      |nil=>
       rw[hys]at hy1;have:len=0:=by simpa using hy1.symm
       rw[this];exact .cK _ _
      |cons y0 yr=>
       rw[<-hys];have h0:ys[0]?=some y0:=by rw[hys];rfl
       obtain⟨c0,q1,q2,-⟩:=hy2 0 y0 h0;have adK:0<P.cellsOf e:=by
        rw[hsz];cases c<;>(show 0<_;decide)
       obtain⟨g1,g2⟩:=E4 q1;have hc0:0<c0.length:=by omega
       have hcell:=g2 0 _ (List.getElem?_eq_getElem hc0);have ha:(a.add (0*P.cellsOf e)).add 0=a:=by simp[Addr.add]
       rw[ha]at hcell;obtain⟨hspot,hblk⟩:=cell_spot hcell;obtain⟨ab,ao,asp⟩:=a;simp only at hspot;subst hspot;rw[<-hy1]
       let val:Nat->List Value:=fun i=>(w.cells? 0 ((⟨ab,ao,none⟩:Addr).add (i*P.cellsOf e)) (P.cellsOf e)).getD []
       have hval:∀i y,ys[i]?=some y->aI D [] (Old w) w (D.cells c y) (val i):=fun i y hi=>by
        obtain⟨cs',r1,r2,-⟩:=hy2 i y hi
        show aI D [] (Old w) w (D.cells c y) ((w.cells? 0 _ _).getD [])
        rw[r1];exact r2
       refine .au val hblk (by omega) (fun i y hi=>(hval i y hi).1.symm) (fun i hi=>?_) (fun i y hi j v u hv hu=>(hval i y hi).2 j v u hv hu);obtain⟨cs',r1,-,-⟩:=hy2 i _ (List.getElem?_eq_getElem hi);intro j v hj;have hval':val i=cs':=by show(w.cells? 0 _ _).getD []=cs';rw[r1];rfl
       rw[hval']at hj;have:=(E4 r1).2 j v hj;have ea:((⟨ab,ao,none⟩:Addr).add (i*P.cellsOf e)).add j=⟨ab,ao+i*P.cellsOf e+j,none⟩:=by
        simp only[Addr.add];split<;>split<;>simp_all
       rw[ea]at this
       show w.cell? ⟨ab,ao+i*K.sz c+j,none⟩=some v
       show w.cell? ⟨ab,ao+i*yc c+j,none⟩=some v
       rw[<-hsz];exact this
    ·cases yi
   ·cases hs
  ·rename_i fs hu;obtain⟨hkt,hcs,hoff⟩:=kid_struct hl ht hu;obtain⟨xs,n',hf,-,hcl,hxl,hall⟩:=DataW.trod_struct hu h;have hf:=Nat.succ.inj hf;subst hf;have key:∀(gs:List Field)(j:Nat)(l:List (Sh K)),fs.toList.drop j=gs->gs.foldr (fun f acc=>match gU P ty n f.type,acc with
    |some a,some b=>some (a++b)
    |_,_=>none) (some [])=some l->l6 w l (cs.drop ((fs.toList.take j).map fun f=>P.cellsOf f.type).sum):=by
    intro gs
    induction gs with
    |nil=>
     intro j l hj hl1;simp only[List.foldr_nil,Option.some.injEq]at hl1;subst hl1;have:fs.toList.length<=j:=by have:=congrArg List.length hj;simp at this;simp;omega
     rw[List.take_of_length_le this,<-hcs,<-hcl,List.drop_length];exact⟨(),.nil,fun m=>by cases m<;>trivial⟩
    |cons g gr ih=>
     intro j l hj hl1;simp only[List.foldr_cons]at hl1;split at hl1
     ·rename_i a b ha hb;simp only[Option.some.injEq]at hl1;subst hl1;have hjl:j<fs.toList.length:=by
       rcases Nat.lt_or_ge j fs.toList.length with hlt|hge
       ·exact hlt
       ·rw[List.drop_of_length_le hge]at hj;cases hj
      have hg:fs.toList[j]?=some g:=by
       have:=congrArg (·[0]?) hj;simpa using this
      have hgr:fs.toList.drop (j+1)=gr:=by
       have:=congrArg List.tail hj;simpa using this
      have ho:=hoff j g hg;have hx:=hall j g (by simpa using hg);have hj':j<xs.length:=by rw[hxl];simpa using hjl
      rw[List.getElem?_eq_getElem hj']at hx;have r1:=yh hl htab hin fuel g.type n a _ _ (hkt g (List.mem_of_getElem? hg)) ha hx;have r2:=ih (j+1) b hgr hb;have hsum:((fs.toList.take (j+1)).map fun f=>P.cellsOf f.type).sum=((fs.toList.take j).map fun f=>P.cellsOf f.type).sum+P.cellsOf g.type:=by
       rw[List.take_add_one,hg];simp
      rw[hsum]at r2;rw[ho]at r1;have:=r1.app r2;rw[<-List.drop_drop,List.take_append_drop]at this;exact this
     ·cases hl1
   have:=key fs.toList 0 l rfl hs;simpa using this
  ·cases hs
end
theorem E5{H:Type}{enc:TypeId×Value->H}{P:Program}{w:World}{base:Nat}{spare:Nat->Bool}{held:Bool}:∀{ts:List TypeId}{vs:List Value}{ds:List (DataW H)}{ps:List MemPlace},DataW.TrodAll enc P w base spare held ts vs ds ps->vs.length=ts.length/\ds.length=ts.length
 |[],vs,ds,ps,h=>by obtain⟨rfl,rfl,-⟩:=trodAll_nil h;exact⟨rfl,rfl⟩
 |t::ts,vs,ds,ps,h=>by
  obtain⟨v,vs',d,ds',p,q,rfl,rfl,-,-,h2⟩:=trodAll_cons h;have:=E5 h2;simp[this.1,this.2]
theorem QH{H:Type}{enc:TypeId×Value->H}{P:Program}{f:Func}{s:ChangeSpec}{W W':World}{args:Array Value}{ds gs:List (DataW H)}{before:List MemPlace}{tb:TypeId}
 (hl:laidOutB P=true) (hts:f.params.toList.all (fun t=>P.readableRec t&&decide (t<P.types.size))=true) (hvars:s.vars=[]) (hs:∀ds:List (DataW H),ds.length=f.params.toList.length->s.fn H ds={results:=[.lit (.bool true)],args:=ds})
 (hr:f.resultTypes= #[tb]) (hb:P.underlying tb=some .bool) (hW:DataW.Whole enc P f.params.toList s.vars false W args.toList ds gs before) (hold:Below W.heap.size W W'):
 s.post enc P f false true false false W args (.bool true) W':=by
 have hW':=hW;obtain⟨p,q,hA,hV,hpq,hfz,hnd⟩:=hW;rw[hvars]at hV;obtain⟨rfl,rfl⟩:=trodVars_none hV;have QI:before=p:=by rw[hpq];simp
 subst QI;have hfn:s.fn H (ds++[])={results:=[.lit (.bool true)],args:=ds}:=by
  rw[List.append_nil];exact hs ds (E5 hA).2
 have hlt:∀x∈before,x.block<W.heap.size:=fun x hx=>hW'.lt x hx
 have hall:∀(ts:List TypeId)(vs:List Value)(ds:List (DataW H))(ps:List MemPlace),ts.all (fun t=>P.readableRec t&&decide (t<P.types.size))=true->DataW.TrodAll enc P W 0 (fun _=>true) true ts vs ds ps->(∀x∈ps,x.block<W.heap.size)->∀sp:Nat->Bool,(∀x∈ps,sp x.block=true)->
  DataW.TrodAll enc P W' 0 sp true ts vs ds ps:=by
  intro ts
  induction ts with
  |nil=>
   intro vs ds ps _ h _ sp _;obtain⟨rfl,rfl,rfl⟩:=trodAll_nil h;exact rfl
  |cons t ts ih=>
   intro vs ds ps ht h hlt sp hsp;obtain⟨v,vs',d,ds',p,q,rfl,rfl,rfl,h1,h2⟩:=trodAll_cons h;simp only[List.all_cons,Bool.and_eq_true,decide_eq_true_eq]at ht;have hsame:∀x∈p,W.sameAt W' x:=fun x hx=>hold.same (hlt x (by simp[hx]))
   exact trodAll_cons_mk (WideElems.Trod_stays hl ht.1.1 ht.1.2 h1 hsame (fun x hx=>hsp x (by simp[hx]))) (ih vs' ds' q (by simpa using ht.2) h2 (fun x hx=>hlt x (by simp[hx])) sp (fun x hx=>hsp x (by simp[hx])))
 have hargs:∀sp:Nat->Bool,(∀x∈before,sp x.block=true)->DataW.TrodAll enc P W' 0 sp true f.params.toList args.toList (s.fn H (ds++[])).args before:=fun sp hsp=>by
  rw[hfn];exact hall _ _ _ _ hts hA hlt sp hsp
 have hres:∀(b:Nat)(sp:Nat->Bool)(hd:Bool),DataW.TrodAll enc P W' b sp hd f.resultTypes.toList ((Value.bool true).resultList f.resultTypes.size) (s.fn H (ds++[])).results []:=fun b sp hd=>by
  rw[hfn,hr];exact trodAll_cons_mk (shut_bool hb _) trodAll_mk0
 have hvs:∀sp:Nat->Bool,DataW.TrodVars enc P W' sp s.vars (s.fn H (ds++[])).vars []:=fun sp=>by rw[hfn,hvars];exact rfl
 have hok:∀(j:Nat)(t:TypeId)(r:Value),f.resultTypes[j]?=some t->((Value.bool true).resultList f.resultTypes.size)[j]?=some r->Value.okWide P W' .any 0 t r:=ok_one hr rfl (okWide_bool_mk hb _);have QJ:∀x∈before,(fun b=>decide (b<W.heap.size)) x.block=true:=fun x hx=>by simpa using hlt x hx
 refine⟨ds,[],before,[],before,[],hW',hres _ _ _,hargs _ QJ,hvs _,World.keptBut_mono (fun x hx=>⟨hx,.inr (by simpa using hx)⟩) (hold.frame (· ∈before)),fun _=>?_⟩;refine⟨hok,_,_,([]++before)++[],⟨[]++before,[],trodAll_append (hargs _ (fun _ _=>rfl)) (hres _ _ _),hvs _,rfl,?_,?_⟩,?_⟩
 ·intro b off hp;have hin:MemPlace.cell b off∈before:=by simpa using hp
  rw[hold.frozen (hlt _ hin)];exact hfz b off hin
 ·intro ha;cases ha
 ·intro x hx _;simpa using hx
theorem QK{P:Program}{ty:TypeId->Option U}{c:aF K}(hc:c.Ok D P){H:Type}{enc:TypeId×Value->H}{W:World}{args:Array Value}{ds:List (DataW H)}{ps:List MemPlace}
 (hos:c.sh.os=[]) (x:c.sh.T) (hx:aI D [] (Old W) W (c.sh.aO D x) args.toList) {r:c.R} (hr:c.run x=some r) (ho:c.out r=(.bool true,[])) (hbase:D.base.inv (Old W) W):
 Calls P c.f args W fun e W'=>e=.returned (.bool true)/\Below W.heap.size W W':=by
 obtain⟨-,h⟩:=hc x r hr;have hH:c.sh.aP D x=[]:=by
  unfold aw.aP;have:∀(l:List (az K))(y:az.Ts l),l=[]->az.encs D l y=[]:=fun l y e=>by subst e;rfl
  exact this _ _ hos
 rw[hH,ho]at h;have hs:aD D [] (Old W) W ([]:List (Ob K)):=⟨rfl,fun _ _ _ h=>by simp at h,fun _ _ _ _ _ _ _ h=>by simp at h,fun b ⟨_,_,_,h,_⟩=>by simp at h,fun b hb=>hb,hbase⟩;have:=h [] (Old W) W args.toList hs hx;rw[Array.toArray_toList]at this;refine this.mono ?_
 rintro e W' ⟨u,ρ',S',rfl,h1,h2,h3⟩
 refine⟨by rw[eP h2],⟨h3.os,h3.tape,h3.output,h3.size,fun k hk=>h3.old k hk fun⟨_,_,_,h,_⟩=>by simp at h⟩⟩
theorem E6{P:Program}{ty:TypeId->Option U}(hl:laidOutB P=true){tab:List Nat}(htab:ou P ty tab=true)(hin:∀e c,ty e=some c->e∈tab){H:Type}{enc:TypeId×Value->H}{W:World}{t:TypeId}{v:Value}{d:DataW H}{p:List MemPlace}{l:List (Sh K)}
 (ht:t<P.types.size) (hs:gU P ty 8 t=some l) (h:DataW.Trod enc P W 0 (fun _=>true) true t v d p):l6 W l v.cells.toList:=by
 obtain⟨fuel,h⟩:=h;exact yh hl htab hin fuel t 8 l _ _ ht hs h
end Go.V
