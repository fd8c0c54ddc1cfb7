/-
  ALL THAT IS HANDED IN, AS DATA.
-/
import Derived.Test.YtpablcpgdagijaaGreatXClaw
set_option linter.unusedVariables false
namespace Go.V
open Go Go.ChangeShapes Go.WideShapes Go.RowKit
variable {P :Program}{ty:TypeId->Option U}{H:Type}{enc:TypeId×Value->H}{W:World}
def isStruct(P:Program)(t:TypeId):Bool:=match P.underlying t with
 |some (.struct _)=>true
 |_=>false
def yj(P:Program)(ty:TypeId->Option U)(t:TypeId):Sh K->Bool
 |.el c=>(match gU P ty 8 t with
   |some s=>ik s (eQ c)
   |none=>false)&&(isStruct P t&&decide (t<P.types.size))
 |s=>(match gU P ty 8 t with
  |some l=>ik l [s]
  |none=>false)&&(!isStruct P t&&decide (t<P.types.size))
def ow(P:Program)(ty:TypeId->Option U):List TypeId->List (Sh K)->Bool
 |[],[]=>true
 |t::r,s::l=>yj P ty t s&&ow P ty r l
 |_,_=>false
def E7(m:Nat):(s:Sh K)->s.T->Prop
 |.el c,x=>gV m c x
 |s,x=>Val m [s] (x,())
def yk(m:Nat):(l:List (Sh K))->Sh.Ts l->Prop
 |[],_=>True
 |s::r,x=>E7 m s x.1/\yk m r x.2
theorem QL{r:Reach}{b0:Nat}{t:TypeId}{v:Value}(hs:isStruct P t=false){l:List (Sh K)}(hsh:gU P ty 8 t=some l)(hval:Value.okWide P W r b0 t v):v.cells= #[v]:=by
 unfold isStruct at hs;have hu:(∃k,P.underlying t=some (.int k))\/P.underlying t=some .bool\/P.underlying t=some .string\/∃e,P.underlying t=some (.slice e):=by
  simp only[gU]at hsh;split at hsh
  ·rename_i h;exact .inr (.inl h)
  ·rename_i k h;exact .inl ⟨k,h⟩
  ·rename_i h;exact .inr (.inr (.inl h))
  ·rename_i e h;exact .inr (.inr (.inr ⟨e,h⟩))
  ·rename_i fs h;rw[h]at hs;cases hs
  ·cases hsh
 rcases hu with⟨k,h⟩|h|h|⟨e,h⟩<;>(simp only[Value.okWide,h,Cell.okWide]at hval;cases v<;>first|rfl|(simp[Cell.ok,h]at hval))
theorem QM(c:U)(z:Sh.Ts (eQ c))(hz:∀m,Val m (eQ c) z):(fh c z).2=true:=E2 c z fun k q hq=>by
 have hk:∀(l:List (Sh K))(z:Sh.Ts l) k q,eR l=true->Sh.encs (D0 K) l z=[.int k q]->Val 0 l z->k.min<=q/\q<=k.max:=fun l z k q hfl hq hv=>by
  cases l with
  |nil=>simp[Sh.encs]at hq
  |cons s r=>
   have hq:=List.cons.inj hq;simp only[eR,Bool.and_eq_true]at hfl;cases s<;>simp only[Sh.flat]at hfl<;>simp only[Sh.enc]at hq<;>first|(exact absurd hfl.1 Bool.false_ne_true)|(cases hq.1;done)|skip
   have hq1:=AV.int.inj hq.1;obtain⟨rfl,hq2⟩:=hq1;have:=hv.1;simp only[yf]at this;rw[hq2]at this;exact this
 exact hk _ z k q (by cases c<;>rfl) hq (hz 0)
theorem QN(hl:laidOutB P=true){tab:List Nat}(htab:ou P ty tab=true)(hin:∀e c,ty e=some c->e∈tab){r:Reach}{b0:Nat}{t:TypeId}{s:Sh K}{v:Value}{d:DataW H}{p:List MemPlace}
 (ha:yj P ty t s=true) (hval:Value.okWide P W r b0 t v) (h:DataW.Trod enc P W 0 (fun _=>true) true t v d p):∃x:s.T,Rep D [] (Old W) W (Sh.enc D s x) v/\∀m,E7 m s x:=by
 by_cases hel:∃c,s=.el c
 ·obtain⟨c,rfl⟩:=hel;simp only[yj,Bool.and_eq_true,decide_eq_true_eq]at ha;obtain⟨ha1,ha2,yl⟩:=ha;split at ha1
  ·rename_i l hs;have:=uR _ _ ha1;subst this;obtain⟨z,h1,h2⟩:=E6 (ty:=ty) hl htab hin yl hs h;have hmk:=QM c z h2;have hun:=E3 c z hmk;unfold isStruct at ha2;split at ha2
   ·rename_i fs hu;simp only[Value.okWide,hu]at hval;obtain⟨cs,rfl,-,-⟩:=hval;refine⟨(fh c z).1,?_,fun m=>?_⟩
    ·have h3:aI D [] (Old W) W (D.cells c (fh c z).1) cs.toList:=by
      show aI D [] (Old W) W (Sh.encs (D0 K) (eQ c) (l5 c (fh c z).1)) cs.toList
      rw[hun];exact h1
     have:=Rep.agg h3.1 h3.2;rw[Array.toArray_toList]at this;exact this
    ·show Val m (eQ c) (l5 c (fh c z).1);rw[hun];exact h2 m
   ·cases ha2
  ·cases ha1
 ·have hne:∀c,s≠.el c:=fun c e=>hel ⟨c,e⟩
  have ha':((match gU P ty 8 t with
   |some l=>ik l [s]
   |none=>false)&&(!isStruct P t&&decide (t<P.types.size)))=true:=by
   cases s<;>first|exact ha|exact absurd rfl (hne _)
  simp only[Bool.and_eq_true,Bool.not_eq_true',decide_eq_true_eq]at ha';obtain⟨ha1,ha2,yl⟩:=ha';split at ha1
  ·rename_i l hs;have:=uR _ _ ha1;subst this;obtain⟨z,h1,h2⟩:=E6 (ty:=ty) hl htab hin yl hs h;rw[QL ha2 hs hval]at h1;have dR:s.flat=true:=by
    have:ik [s] [s]=true:=ha1;cases s<;>first|rfl|(simp[ik]at this)
   refine⟨z.1,?_,fun m=>?_⟩
   ·have:=h1.head;cases s<;>first|exact this|(simp[Sh.flat]at dR)
   ·have:=h2 m;cases s<;>first|exact this|(simp[Sh.flat]at dR)
  ·cases ha1
theorem E8(hl:laidOutB P=true){tab:List Nat}(htab:ou P ty tab=true)(hin:∀e c,ty e=some c->e∈tab){r:Reach}{b0:Nat}:∀{ts:List TypeId}{l:List (Sh K)}{vs:List Value}{ds:List (DataW H)}{ps:List MemPlace},ow P ty ts l=true->
 (∀(j:Nat) t v,ts[j]?=some t->vs[j]?=some v->Value.okWide P W r b0 t v)->DataW.TrodAll enc P W 0 (fun _=>true) true ts vs ds ps->∃x:Sh.Ts l,aI D [] (Old W) W (Sh.encs D l x) vs/\∀m,yk m l x
 |[],[],vs,ds,ps,ha,hv,h=>by
   obtain⟨rfl,-,-⟩:=trodAll_nil h;exact⟨(),.nil,fun _=>trivial⟩
 |[],_::_,vs,ds,ps,ha,hv,h=>by simp[ow]at ha
 |_::_,[],vs,ds,ps,ha,hv,h=>by simp[ow]at ha
 |t::ts,s::l,vs,ds,ps,ha,hv,h=>by
  simp only[ow,Bool.and_eq_true]at ha;obtain⟨v,vs',d,ds',p,q,rfl,rfl,-,h1,h2⟩:=trodAll_cons h;obtain⟨x,x1,x2⟩:=QN hl htab hin ha.1 (hv 0 t v rfl rfl) h1;obtain⟨y,y1,y2⟩:=E8 hl htab hin ha.2 (fun j t' v' a b=>hv (j+1) t' v' (by simpa using a) (by simpa using b)) h2;exact⟨(x,y),.cons x1 y1,fun m=>⟨x2 m,y2 m⟩⟩
theorem E9{α:Type}:∀(l:List (Nat×α))(e:Nat)(c:α),aJ l e=some c->e∈l.map (·.1)
 |[],e,c,h=>by simp[aJ]at h
 |p::r,e,c,h=>by
  unfold aJ at h;cases hb:Nat.beq p.1 e with
  |true=>have:=Nat.eq_of_beq_eq_true hb;simp[this]
  |false=>rw[hb]at h;simp only[cond_false]at h;simp only[List.map_cons,List.mem_cons];exact .inr (E9 r e c h)
theorem QO{C:Checked}{f:FuncId}{fn:Func}{s:ChangeSpec}{tab:List Nat}{tb:TypeId}{c:aF K}(hl:laidOutB C.prog=true)(htab:ou C.prog ty tab=true)(hin:∀e c,ty e=some c->e∈tab)
 (hts:fn.params.toList.all (fun t=>C.prog.readableRec t&&decide (t<C.prog.types.size))=true) (hvars:s.vars=[]) (hs:∀ds:List (DataW H),ds.length=fn.params.toList.length->s.fn H ds={results:=[.lit (.bool true)],args:=ds})
 (hr:fn.resultTypes= #[tb]) (hb:C.prog.underlying tb=some .bool) (hf:c.f=f) (hc:c.Ok D C.prog) (hos:c.sh.os=[]) (ha:ow C.prog ty fn.params.toList c.sh.vs=true)
 (ho:∃r,c.out r=(.bool true,[])/\∀(x:Sh.Ts c.sh.vs)(y:az.Ts c.sh.os),(∀m,yk m c.sh.vs x)->c.run (x,y)=some r)
 {base:Nat} {args:Array Value} {ds gs:List (DataW H)} {before:List MemPlace}
 (hval:∀(j:Nat) t v,fn.params[j]?=some t->args[j]?=some v->Value.okWide C.prog W .any base t v) (hW:DataW.Whole enc C.prog fn.params.toList s.vars false W args.toList ds gs before) (hbase:D.base.inv (Old W) W):
 Calls C.prog f args W fun e W'=>∃v,e=.returned v/\s.post enc C.prog fn false true false false W args v W':=by
 obtain⟨r,hr1,hr2⟩:=ho;have hW':=hW;obtain⟨p,q,hA,hV,hpq,hfz,hnd⟩:=hW;obtain⟨x,hx,hv⟩:=E8 hl htab hin ha (fun j t v h1 h2=>hval j t v (by simpa using h1) (by simpa using h2)) hA;have y:az.Ts c.sh.os:=by rw[hos];exact()
 subst hf;refine(QK (ty:=ty) (ds:=ds) (ps:=p) (enc:=enc) hc hos (x,y) hx (hr2 x y hv) hr1 hbase).mono ?_
 rintro e W' ⟨rfl,hb'⟩
 exact⟨_,rfl,QH hl hts hvars hs hr hb hW' hb'⟩
end Go.V
