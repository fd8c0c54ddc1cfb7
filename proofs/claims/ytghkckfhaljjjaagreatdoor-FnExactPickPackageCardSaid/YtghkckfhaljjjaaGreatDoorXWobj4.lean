/-
  ALL OPERATIONS THAT MAKE OBJECTS OR TURN THEM, TOGETHER.
-/
import Derived.Test.YtghkckfhaljjjaaGreatDoorXWobj3
import Derived.Test.YtghkckfhaljjjaaGreatDoorXWclrA
import Derived.Test.YtghkckfhaljjjaaGreatDoorXWpureA
set_option linter.unusedVariables false
namespace Go.V
open Go
variable {K :dh}{D:bH K}{ρ:List Value}{S:Nat->Prop}{w:World}{H:List (Ob K)}
theorem afu{P:Program}(hD:bR D)(hs:aS D ρ S w H){src dst e:TypeId}{c:K.U}{f:K.El c->UInt8}{g:UInt8->K.El c}{s:List UInt8}(h1:P.underlying src=some .string)(h2:P.underlying dst=some (.slice e))
 (h3:P.underlying e=some (.int .u8)) (hb:D.byte c=some (f,g)) (hE:im D c e 0):
 Does D P ρ S H w (do pure (.value (<-convert src dst (.string ⟨s.toArray⟩)))) (.sl H.length) (H++[.arr c (s.map g)]):=by
 obtain⟨b1,b2⟩:=hD.byte c f g hb;have hsz:K.sz c=1:=by rw[<-hD.len c (g 0),b1];rfl
 have hge:=grownCap_ge w s.length 0 e
 let vs:Array Value:=(s.map fun b=>Value.int .u8 (b.toNat:Int)).toArray++Array.replicate (grownCap w s.length 0 e-s.length) (.int .u8 0)
 have hvs:vs.size=grownCap w s.length 0 e:=by simp[vs];omega
 let w':World:={w with heap:=w.heap.push (.cells vs e (vs.size,vs.size+1)),drawn:=w.drawn+1}
 have hrun:(convert src dst (.string ⟨s.toArray⟩)).run P w=.ok (.slice (some ⟨w.heap.size,0,none⟩) s.length (grownCap w s.length 0 e)) w':=by
  simp[convert,gh h1,gh h2,gh h3,Conv.stringToBytes,zn,Question.forced,grownCap];have e1:(newRow e vs).run P w.drew=.ok ⟨w.heap.size,0,none⟩ (w.drew.alloc (.cells vs e)):=by simp[newRow]
  have e0:(w.drew.alloc (.cells vs e)).heap=w.heap.push (.cells vs e):=rfl;have e2:(markStringish ⟨w.heap.size,0,none⟩).run P (w.drew.alloc (.cells vs e))=.ok () w':=by
   have hsh:(w.drew.alloc (.cells vs e)).shape? w.heap.size=some (e,vs.size):=by simp[World.shape?,e0]
   simp only[markStringish,Sem.run_bind];have:(shape w.heap.size).run P (w.drew.alloc (.cells vs e))=.ok (some (e,vs.size)) (w.drew.alloc (.cells vs e)):=by simp[shape,Sem.run,hsh]
   simp only[this,Result.andThen_ok,run_freeze];congr 1;simp only[World.freeze,w',e0];rw[aT (by omega)];congr 1;apply Array.ext
   ·simp
   ·intro k h1 h2;simp only[Array.getElem_modify];by_cases hk:w.heap.size=k
    ·subst hk;simp
    ·rw[aT hk];have hk':k<w.heap.size:=by simp at h2;omega
     simp[Array.getElem_push,hk']
  have e1':=e1;simp only[vs,grownCap]at e1';rw[e1'];simp only[Result.andThen_ok];have e2':=e2;simp only[vs,grownCap]at e2';rw[e2'];rfl
 refine D5 hs (c:=c) (l:=s.map g) (vs:=vs) (T:=e) (fr:=(vs.size,vs.size+1)) (cap:=grownCap w s.length 0 e) (w':=w') rfl rfl rfl rfl (by simpa using hge) hE (by rw[hsz,hvs,rG];exact fh _) (fun k hk hh=>by have:=hh.1;rw[hvs]at this;rw[hsz,rG]at hk;simp at this;omega)
  (fun j x hx=>?_) (by rw[fq];exact kB (f:=.value) hrun)
 simp only[ik,dy]at hx;obtain⟨u,hu,rfl⟩:=hx;have hj:=(bD.1 hu).1;rw[b1,b2,hsz,rG];have:db vs j 1=[.int .u8 (u.toNat:Int)]:=by
  simp only[db,vs,Array.toList_append];rw[List.drop_append_of_le_length (by simp;omega),I4 (by simp;omega),List.take_one];simp[hu]
 rw[this];exact .cons (.int _ _) .nil
theorem afv{cx:Cx K}(hD:bR cx.D)(hs:aS cx.D ρ S w H){ev:Operand->AV K}{ρe:Operand->Value}(hev:∀x,Rep cx.D ρ S w (ev x) (ρe x)){s x:Operand}{sT xT ty:TypeId}{v:AV K}{H':List (Ob K)}{c:Bool}{t:List Nat}
 (h:yW cx H sT (ev s) (ev x)=some (v,H',c,t)) (hc:c=true) (hx:(yM cx.P xT).isSome=true):Does cx.D cx.P ρ S H w (do pure (.value (<-Builtin.append_ #[sT,xT] ty #[ρe s,ρe x])):Sem Next) v H':=by unfold yW at h;cases h
theorem OK{cx:Cx K}(hD:bR cx.D)(hs:aS cx.D ρ S w H){ev:Operand->AV K}{ρe:Operand->Value}(hev:∀x,Rep cx.D ρ S w (ev x) (ρe x)){o:Oper}{v:AV K}{H':List (Ob K)}{c:Bool}{t:List Nat}
 (h:ui cx ev H o.op=some (v,H',c,t)) (hc:c=true):Does cx.D cx.P ρ S H w (execOp ρe o) v H':=by
 unfold ui at h;unfold execOp;split at h
 all_goals first|(cases h;done)|(rename_i hop;rw[hop];dsimp only)
 ·
  rename_i T x;split at h
  ·rename_i hk;obtain⟨ρ1,t1,t2,t3,-,t5,-⟩:=uD cx.deep (cx.ni T) _ H ρ _ hs (lQ (hev x) hk);generalize thaw cx.deep H (cx.ni T) (ev x).cw=p at h t1 t2 t3 t5;obtain⟨cs,H1⟩:=p;dsimp only at h;split at h
   ·cases h
   rename_i rQ;simp only[av,aZ]at h;obtain⟨rfl,rfl,rfl,rfl⟩:=h;exact(Kp t1 t2 (fun h=>absurd h rQ) (T:=T) (kB (f:=.value) (by simp[Instr.box,newVar,newRow]))).behind t3 t5
  ·cases h
 ·
  rename_i T;split at h
  ·rename_i z hz;split at h
   ·rename_i hk;obtain⟨i,hi⟩:∃i,cx.P.info? T=some i:=by
     unfold zeroOf at hz;cases hh:cx.P.info? T with
     |none=>simp[hh]at hz
     |some i=>exact⟨i,rfl⟩
    obtain⟨zv,hzv,hov⟩:=Df hz hi;obtain⟨ρ1,t1,t2,t3,-,t5,-⟩:=uD cx.deep (cx.ni T) _ H ρ _ hs (lQ (v7 zv z hov) hk);generalize thaw cx.deep H (cx.ni T) z.cw=p at h t1 t2 t3 t5;obtain⟨cs,H1⟩:=p;dsimp only at h;split at h
    ·cases h
    rename_i rQ;simp only[av,aZ]at h;obtain⟨rfl,rfl,rfl,rfl⟩:=h;exact(Kp t1 (afw t2) (afx (by simpa using rQ)) (T:=T) (kB (f:=.value) (by simp[Instr.alloc,zeroValue,typeInfo,hi,hzv,newVar,newRow]))).behind t3 t5
   ·cases h
  ·split at h
   ·rename_i hf;simp only[av,aZ]at h;obtain⟨rfl,rfl,rfl,rfl⟩:=h;obtain⟨i,hi,hz⟩:∃i,cx.P.info? T=some i/\i.zero=some .nilFunc:=by
     unfold OS at hf;split at hf
     ·rename_i i hi;split at hf
      ·rename_i hz;exact⟨i,hi,hz⟩
      ·cases hf
     ·cases hf
    have hr:bh cx.D ρ S w [.any] [Value.nilFunc]:=⟨rfl,fun j v x h1 h2=>by
     cases j with
     |zero=>simp at h1;subst h1;exact .any _
     |succ j=>simp at h1⟩
    exact Kp hs hr (fun h=>absurd h (by simp[ku])) (T:=T) (kB (f:=.value) (by simp[Instr.alloc,zeroValue,typeInfo,hi,hz,newVar,newRow,Value.cells]))
   ·cases h
 ·
  rename_i T parts;split at h
  ·rename_i ps z hps hz;split at h
   ·rename_i hk;simp only[dy,aZ]at h;obtain⟨cs,hcs,rfl,rfl,rfl,rfl⟩:=h;obtain⟨u,hu,hr⟩:=afy hev hps hz hk hcs;exact⟨_,u,w,ρ,kB (f:=.value) hu,.inl rfl,hs,hr,Step.refl⟩
   ·cases h
  ·cases h
 ·
  rename_i T p x;split at h
  ·rename_i n hn;split at h
   ·rename_i hcond;obtain⟨hl,h1⟩:=hcond;have hp:=hev p;split at h
    ·rename_i hh off he;rw[he]at hp;split at h
     ·rename_i cs hob;split at h
      ·rename_i hle;have hcx:=lQ (hev x) (IZ h1);have h1':=Dn hcx h1;obtain⟨ρ1,t1,t2,t3,t4,t5,t6⟩:=uD cx.deep (cx.ni T) _ H ρ _ hs hcx;have Qo:=t6 _ _ hob;generalize thaw cx.deep H (cx.ni T) (ev x).cw=pp at h t1 t2 t3 t5 Qo;obtain⟨xs,H1⟩:=pp;dsimp only at h;split at h
       ·cases h
       rename_i rQ;simp only[av,aZ]at h;obtain⟨rfl,rfl,rfl,rfl⟩:=h;exact(afz t1 hn (by rw[<-hl];exact t2.1.trans hcx.1.symm) h1' Qo hle t2 (hp.mono (fun _ h=>h) (fun _ _=>rfl) t4) (fun h=>by simp only[cG,fk,not_and,Bool.not_eq_false]at rQ;exact rQ h)).behind t3 t5
      ·cases h
     ·cases h
    ·rename_i hh st i off he;rw[he]at hp;split at h
     ·rename_i cc l hob;split at h
      ·rename_i hcc;obtain⟨rfl,hcl,hle⟩:=hcc;split at h
       ·rename_i y b hdec;simp only[av,aZ]at h;obtain⟨rfl,rfl,rfl,rfl⟩:=h;subst hc;exact afA hD hs hn hl h1 hob hle hcl hdec (hev x) hp
       ·cases h
      ·cases h
     ·cases h
    ·cases h
   ·cases h
  ·cases h
 ·
  rename_i T len cap;split at h
  ·cases h
  ·rename_i e he;split at h
   ·rename_i cc z kl n kc m hty hz hl hcp;split at h
    ·rename_i hcond;obtain⟨hsz,hroom,-,hk⟩:=hcond;split at h
     ·rename_i y b hdec;simp only[av,aZ]at h;obtain⟨rfl,rfl,rfl,rfl⟩:=h;have h1:=hev len;rw[hl]at h1;have h2:=hev cap;rw[hcp]at h2;rw[gQ h1,gQ h2];simp only[cG,bB]at hc;obtain⟨hb,hc⟩:=hc;subst hb;exact afB hD hs he hsz hroom hz hk hdec hc.1 hc.2.1 hc.2.2 (rD hty)
     ·cases h
    ·cases h
   ·cases h
 ·
  rename_i T len parts;split at h
  ·cases h
  ·rename_i e he;split at h
   ·rename_i cc l hty hl;split at h
    ·rename_i hcond;obtain⟨hsz,hz,hlen,h1,h2,hall⟩:=hcond;split at h
     ·rename_i y b hdec;simp only[av,aZ]at h;obtain⟨rfl,rfl,rfl,rfl⟩:=h;subst hc;exact afC hD hs hev he hsz hz hl hlen h1 h2 hall hdec (rD hty)
     ·cases h
    ·cases h
   ·cases h
 ·
  rename_i src dst x;split at h
  ·rename_i e s hu he hx;split at h
   ·rename_i cc h3 hty;split at h
    ·rename_i f g hb;split at h
     ·simp only[av,aZ]at h;obtain⟨rfl,rfl,rfl,rfl⟩:=h;have hxx:=hev x;rw[hx]at hxx;rw[iD hxx];exact afu hD hs hu (rz he) h3 hb (rD hty)
     ·cases h
    ·cases h
   ·cases h
  ·cases h
 ·
  rename_i args argTypes;split at h
  ·rename_i s x sT xT hargs hat;have ea:args= #[s,x]:=by rw[<-Array.toArray_toList (xs:=args),hargs]
   have et:argTypes= #[sT,xT]:=by rw[<-Array.toArray_toList (xs:=argTypes),hat]
   subst ea;subst et;have hres:(do let d<-resolve ρe {callee:=.builtin .append,args:= #[s,x],argTypes:= #[sT,xT]} o.type;invoke d.target d.args:Sem Next)=
    (do pure (.value (<-Builtin.append_ #[sT,xT] o.type #[ρe s,ρe x])):Sem Next):=by simp[resolve,invoke,builtin]
   rw[hres];split at h
   ·cases h
   rename_i hx2;split at h
   ·rename_i hx1;exact afv hD hs hev h hc hx1
   ·rename_i hx1;simp only[tQ,Option.isSome_eq_false_iff,Option.isNone_iff_eq_none]at hx1 hx2;obtain⟨d,hd⟩:=Option.ne_none_iff_exists'.1 hx2;have hdk:∀k,d≠.int k:=fun k e=>by subst e;simp[yM,hd]at hx1
    unfold DC at h;split at h
    ·cases h
    ·rename_i e he;split at h
     ·cases h
     ·rename_i cc hty;split at h
      ·rename_i hcond;obtain⟨hsz,hroom,hz⟩:=hcond;obtain⟨i,hi,hisz⟩:=ry hsz;obtain⟨z,hzv,hzs⟩:=Dj hz hi;have hb:=Dh hroom hi;split at h
       ·cases h
       ·rename_i m hm;have hss:=hev s;split at h
        ·rename_i es;simp only[av,aZ]at h;obtain⟨rfl,rfl,rfl,rfl⟩:=h;rw[es]at hss;have e0:ρe s=.slice none 0 0:=by generalize ρe s=Y at hss;cases hss;rfl
         rw[e0];exact afr hD hs (rz he) hd hdk hi hisz hzv (by rw[hzs,hisz]) hb hm (hev x) (by simpa using hc) hs (rD hty)
        ·rename_i hh es;rw[es]at hss;obtain⟨hr,-⟩:=lO hss;have key:∀l,elems H cc (.sl hh)=some l->l.length+m.length<=1073741824->
          Does cx.D cx.P ρ S H w (do pure (.value (<-Builtin.append_ #[sT,xT] o.type #[ρe s,ρe x])):Sem Next) (.sl H.length) (H.set hh .dead++[.arr cc (l++m)]):=fun l hl hsm=>by
          simp only[elems]at hl;split at hl
          ·rename_i c' l' hob;cases hd':K.jS c' cc with
           |isFalse hn=>simp[hd']at hl
           |isTrue he'=>
            subst he';simp[hd']at hl;subst hl;exact aft hD hs (rz he) hd hdk hi hisz hzv (by rw[hzs,hisz]) hb hm (hev x) hob hr hsm (rD hty)
          ·cases hl
         split at h
         ·split at h
          ·cases h
          ·split at h
           ·rename_i l hl;simp only[av,aZ]at h;obtain⟨rfl,rfl,rfl,rfl⟩:=h;exact key l hl (by simpa using hc)
           ·cases h
         ·split at h
          ·rename_i l hl;simp only[av,aZ]at h;obtain⟨rfl,rfl,rfl,rfl⟩:=h;exact key l hl (by simpa using hc)
          ·cases h
        ·cases h
      ·cases h
  ·cases h
theorem Tree.take{D:bH K}{c:K.U}{l:List (K.El c)}{b o n cp m:Nat}(h:Tree D w c l (.slice (some ⟨b,o,none⟩) n cp))(hm:m<=l.length):Tree D w c (l.take m) (.slice (some ⟨b,o,none⟩) m cp)/\∀k,dS D w c (l.take m) (.slice (some ⟨b,o,none⟩) m cp) k->dS D w c l (.slice (some ⟨b,o,none⟩) n cp) k:=by
 have hget:∀{i:Nat}{x:K.El c},(l.take m)[i]?=some x->l[i]?=some x:=fun{i x} hi=>by
  simp only[fa]at hi;split at hi
  ·exact hi
  ·simp at hi
 refine⟨?_,fun k hk=>?_⟩
 ·cases h with
  |mk hb hcap hsz hfr hlen jG cn hself hdis=>
   have hml:(l.take m).length=m:=by simp;omega
   have:=Tree.mk (l:=l.take m) hb ⟨by rw[hml];omega,hcap.2⟩ hsz hfr (fun i x hx=>hlen i x (hget hx)) (fun i x hx=>jG i x (hget hx)) (fun i x hx=>cn i x (hget hx)) (fun i x hx=>hself i x (hget hx))
    (fun i x hx j c' l' y hj hy i2 x2 hx2=>hdis i x (hget hx) j c' l' y hj hy i2 x2 (hget hx2))
   rwa [hml]at this
 ·cases hk with
  |here=>exact .here
  |kid hx hj hy hk=>exact .kid (hget hx) hj hy hk
theorem Tree.drop{D:bH K}{c:K.U}{l:List (K.El c)}{b o n cp m:Nat}(h:Tree D w c l (.slice (some ⟨b,o,none⟩) n cp))(hm:m<=l.length)(hE:D.rn c=none){o':Nat}(ho':(cp=m/\o'=o)\/o'=o+m*K.sz c):
 Tree D w c (l.drop m) (.slice (some ⟨b,o',none⟩) (l.length-m) (cp-m))/\∀k,dS D w c (l.drop m) (.slice (some ⟨b,o',none⟩) (l.length-m) (cp-m)) k->dS D w c l (.slice (some ⟨b,o,none⟩) n cp) k:=by
 have hget:∀{i:Nat}{x:K.El c},(l.drop m)[i]?=some x->l[m+i]?=some x:=fun{i x} hi=>by simpa using hi
 have hml:(l.drop m).length=l.length-m:=by simp
 cases h with
 | @mk _ _ _ _ _ vs T fr hb hcap hsz hfr hlen jG cn hself hdis=>
   have hpos:∀{i:Nat}{x:K.El c},(l.drop m)[i]?=some x->o'+i*K.sz c=o+(m+i)*K.sz c:=fun{i x} hi=>by
    have hi':=(bD.1 hi).1;rcases ho' with⟨h,-⟩|h
    ·rw[hml]at hi';have:=hcap.1;omega
    ·rw[h,gP];omega
   have hmc:m*K.sz c+(cp-m)*K.sz c=cp*K.sz c:=by rw[<-gP];congr 1;have:=hcap.1;omega
   have hlo:o<=o':=by rcases ho' with⟨-,h⟩|h<;>omega
   have hhi:o'+(cp-m)*K.sz c<=o+cp*K.sz c:=by
    rcases ho' with⟨h,h'⟩|h
    ·rw[h,Dx,yL];omega
    ·omega
   refine⟨?_,fun k hk=>?_⟩
   ·have:=Tree.mk (D:=D) (l:=l.drop m) (o:=o') (cap:=cp-m) hb ⟨by rw[hml];have:=hcap.1;omega,fun t ht=>by rw[hE]at ht;cases ht⟩ (by omega) (fun k h1 h2=>hfr k (by omega) (by omega))
     (fun i x hx=>by rw[hpos hx];exact hlen _ x (hget hx)) (fun i x hx=>by rw[hpos hx];exact jG _ x (hget hx)) (fun i x hx=>by rw[hpos hx];exact cn _ x (hget hx)) (fun i x hx=>by rw[hpos hx];exact hself _ x (hget hx))
     (fun i x hx j c' l' y hj hy i2 x2 hx2 j2 c2 l2 y2 hj2 hy2 k h1 h2=>by
       rw[hpos hx]at hy;rw[hpos hx2]at hy2;obtain⟨e1,e2⟩:=hdis _ x (hget hx) j c' l' y hj hy _ x2 (hget hx2) j2 c2 l2 y2 hj2 hy2 k h1 h2;exact⟨by omega,e2⟩)
    rwa [hml]at this
   ·cases hk with
    |here=>exact .here
    |kid hx hj hy hk=>rw[hpos hx]at hy;exact .kid (hget hx) hj hy hk
theorem afD{cx:Cx K}(hs:aS cx.D ρ S w H){ev:Operand->AV K}{ρe:Operand->Value}(hev:∀x,Rep cx.D ρ S w (ev x) (ρe x)){o:Oper}{v:AV K}{H':List (Ob K)}{c:Bool}{t:List Nat}
 (h:cutV cx ev H o.op=some (v,H',c,t)) (hc:c=true):Does cx.D cx.P ρ S H w (execOp ρe o) v H':=by unfold cutV at h;cases h
theorem afE{cx:Cx K}(hD:bR cx.D)(hs:aS cx.D ρ S w H){ev:Operand->AV K}{ρe:Operand->Value}(hev:∀x,Rep cx.D ρ S w (ev x) (ρe x)){o:Oper}{v:AV K}{H':List (Ob K)}{c:Bool}{t:List Nat}
 (h:yX cx ev H o.op=some (v,H',c,t)) (hc:c=true):H'=H/\∃u w' S',(execOp ρe o).run cx.P w=.ok (.value u) w'/\aS cx.D ρ S' w' H/\Rep cx.D ρ S' w' v u/\Step cx.D H.length ρ S H w ρ S' H w':=by
 unfold yX at h;split at h
 ·rename_i T len parts hop;split at h
  ·cases h
  ·rename_i e he;split at h
   ·rename_i cc l hty hl;split at h
    ·rename_i hcond;obtain⟨hsz,hz,hlen,h1,h2,hall⟩:=hcond;split at h
     ·rename_i y b hdec;simp only[av,aZ]at h;obtain⟨rfl,rfl,rfl,rfl⟩:=h;subst hc;obtain⟨cs',hrun,-,hseg⟩:=Qp (P:=cx.P) hD hs hev he hsz hz hl hlen h1 h2 hall hdec;obtain⟨g1,g2,g3⟩:=afF (P:=cx.P) hs (c:=cc) (l:=y) (vs:=cs') (T:=e) (fr:=(0,0)) (w':=w.alloc (.cells cs' e)) rfl rfl rfl rfl hseg;refine⟨rfl,_,_,_,?_,g1,g2,g3⟩;unfold execOp;rw[hop];exact hrun
     ·cases h
    ·cases h
   ·cases h
 ·cases h
end Go.V
