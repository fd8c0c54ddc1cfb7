/-
  ALL OPERATIONS THAT MAKE OBJECTS OR TURN THEM, TOGETHER.
-/
import Derived.Test.YtbeijibjinbgcaaGreatDoorXWobj3
import Derived.Test.YtbeijibjinbgcaaGreatDoorXWclrA
import Derived.Test.YtbeijibjinbgcaaGreatDoorXWpureA
set_option linter.unusedVariables false
namespace Go.V
open Go
variable {K :cA}{D:bj K}{ρ:List Value}{S:Nat->Prop}{w:World}{H:List (Ob K)}
theorem akL{P:Program}(hD:bo D)(hs:aS D ρ S w H){src dst e:TypeId}{c:K.U}{f:K.El c->UInt8}{g:UInt8->K.El c}{s:List UInt8}(h1:P.underlying src=some .string)(h2:P.underlying dst=some (.slice e))
 (h3:P.underlying e=some (.int .u8)) (hb:D.byte c=some (f,g)) (hE:fC D c e 0):
 Does D P ρ S H w (do pure (.value (<-convert src dst (.string ⟨s.toArray⟩)))) (.sl H.length) (H++[.arr c (s.map g)]):=by
 obtain⟨b1,b2⟩:=hD.byte c f g hb;have hsz:K.sz c=1:=by rw[<-hD.len c (g 0),b1];rfl
 have hge:=grownCap_ge w s.length 0 e
 let vs:Array Value:=(s.map fun b=>Value.int .u8 (b.toNat:Int)).toArray++Array.replicate (grownCap w s.length 0 e-s.length) (.int .u8 0)
 have hvs:vs.size=grownCap w s.length 0 e:=by simp[vs];omega
 let w':World:={w with heap:=w.heap.push (.cells vs e (vs.size,vs.size+1)),drawn:=w.drawn+1}
 have hrun:(convert src dst (.string ⟨s.toArray⟩)).run P w=.ok (.slice (some ⟨w.heap.size,0,none⟩) s.length (grownCap w s.length 0 e)) w':=by
  simp[convert,dI h1,dI h2,dI h3,Conv.stringToBytes,v8,Question.forced,grownCap];have e1:(newRow e vs).run P w.drew=.ok ⟨w.heap.size,0,none⟩ (w.drew.alloc (.cells vs e)):=by simp[newRow]
  have e0:(w.drew.alloc (.cells vs e)).heap=w.heap.push (.cells vs e):=rfl;have e2:(markStringish ⟨w.heap.size,0,none⟩).run P (w.drew.alloc (.cells vs e))=.ok () w':=by
   have hsh:(w.drew.alloc (.cells vs e)).shape? w.heap.size=some (e,vs.size):=by simp[World.shape?,e0]
   simp only[markStringish,Sem.run_bind];have:(shape w.heap.size).run P (w.drew.alloc (.cells vs e))=.ok (some (e,vs.size)) (w.drew.alloc (.cells vs e)):=by simp[shape,Sem.run,hsh]
   simp only[this,Result.andThen_ok,run_freeze];congr 1;simp only[World.freeze,w',e0];rw[bF (by omega)];congr 1;apply Array.ext
   ·simp
   ·intro k h1 h2;simp only[Array.getElem_modify];by_cases hk:w.heap.size=k
    ·subst hk;simp
    ·rw[bF hk];have hk':k<w.heap.size:=by simp at h2;omega
     simp[Array.getElem_push,hk']
  have e1':=e1;simp only[vs,grownCap]at e1';rw[e1'];simp only[Result.andThen_ok];have e2':=e2;simp only[vs,grownCap]at e2';rw[e2'];rfl
 refine Dc hs (c:=c) (l:=s.map g) (vs:=vs) (T:=e) (fr:=(vs.size,vs.size+1)) (cap:=grownCap w s.length 0 e) (w':=w') rfl rfl rfl rfl (by simpa using hge) hE (by rw[hsz,hvs,nw];exact cH _) (fun k hk hh=>by have:=hh.1;rw[hvs]at this;rw[hsz,nw]at hk;simp at this;omega)
  (fun j x hx=>?_) (by rw[HY];exact eD (f:=.value) hrun)
 simp only[fG,dS]at hx;obtain⟨u,hu,rfl⟩:=hx;have hj:=(bB.1 hu).1;rw[b1,b2,hsz,nw];have:bR vs j 1=[.int .u8 (u.toNat:Int)]:=by
  simp only[bR,vs,Array.toList_append];rw[List.drop_append_of_le_length (by simp;omega),CH (by simp;omega),List.take_one];simp[hu]
 rw[this];exact .cons (.int _ _) .nil
theorem akM{zs:Array Value}{n k i:Nat}(hk:zs.size=k)(h0:0<k)(hi:i<n):((Builtin.zeroCells zs n).toList.drop (i*k)).take k=zs.toList:=by
 have hle:(i+1)*k<=n*k:=bT _ hi;rw[dh,fH]at hle;apply kK;intro j;simp only[ca,dC,Builtin.zeroCells,Array.toList_map,Array.toList_range,fG,hk];by_cases hj:j<k
 ·rw[aF hj,List.getElem?_range (by omega)];have:(i*k+j)%k=j:=by rw[qO,Nat.mul_add_mod,Nat.mod_eq_of_lt hj]
  simp only[jL,this];have hj2:j<zs.size:=by omega
  simp[hj2]
 ·rw[bF hj];exact(dV (by simp;omega)).symm
theorem akN{zs:Array Value}{n:Nat}:(Builtin.zeroCells zs n).toList.length=n*zs.size:=by simp[Builtin.zeroCells]
theorem akO{zs:Array Value}{n:Nat}{x:Value}(h0:0<zs.size)(h:x∈(Builtin.zeroCells zs n).toList):x∈zs.toList:=by
 simp only[Builtin.zeroCells,Array.toList_map,kV]at h;obtain⟨i,-,rfl⟩:=h;have:=Nat.mod_lt i h0;rw[r7 zs (i%zs.size) this];exact Array.getElem_mem_toList this
theorem akP{cx:Cx K}(hD:bo cx.D)(hs:aS cx.D ρ S w H){ev:Operand->AV K}{ρe:Operand->Value}(hev:∀x,Rep cx.D ρ S w (ev x) (ρe x)){s x:Operand}{sT xT ty:TypeId}{v:AV K}{H':List (Ob K)}{c:Bool}{t:List Nat}
 (h:yT cx H sT (ev s) (ev x)=some (v,H',c,t)) (hc:c=true) (hx:(wu cx.P xT).isSome=true):Does cx.D cx.P ρ S H w (do pure (.value (<-Builtin.append_ #[sT,xT] ty #[ρe s,ρe x])):Sem Next) v H':=by
 unfold yT at h;split at h
 ·rename_i e k n he i3;split at h
  ·rename_i cc z hty hz;split at h
   ·rename_i hcond;obtain⟨hsz,hroom,hpos,hk,hone⟩:=hcond;obtain⟨i,hi,hisz⟩:=ly hsz;have hb:=sP hroom hi;obtain⟨zv,hzv,hov⟩:=v7 hz hi;split at h
    ·rename_i y b hh hdec es;split at h
     ·rename_i l hl;simp only[av,bc]at h;obtain⟨rfl,rfl,rfl,rfl⟩:=h;simp only[bk,bC]at hc;obtain⟨hb1,h0,hsm⟩:=hc;subst hb1;have hss:=hev s;rw[es]at hss;obtain⟨hr,-⟩:=iI hss;have hxx:=hev x;rw[i3]at hxx;rw[ei hxx];obtain⟨m,rfl⟩:=yO h0;rw[bV]at hsm⊢;have hkind:∃kk,cx.P.underlying xT=some (.int kk):=by
       unfold wu at hx;split at hx
       ·rename_i kk hk;exact⟨kk,hk⟩
       ·cases hx
      obtain⟨kk,hkk⟩:=hkind;have hcells:=iJ (D:=cx.D) (ρ:=ρ) (S:=S) (w:=w) (pO zv z hov) hk;have hrz:aV cx.D ρ S w (cx.D.cells cc y) zv.cells.toList:=hD.dec cc _ _ hdec ρ S w _ hcells;have hvs:zv.cells.size=K.sz cc:=by have:=hrz.1;rw[hD.len]at this;simpa using this.symm
      have hA:nL cx.P w sT xT ty e i zv (.int k (m:Int)) (List.replicate m y).length (Builtin.zeroCells zv.cells m).toList:=by
       rw[fc];exact nL.zeros (gw he) hkk hi hzv hb (by omega) (by omega)
      have hrow:RowOf cx.D ρ S w cc (List.replicate m y) (Builtin.zeroCells zv.cells m).toList:=⟨by rw[akN,hvs,fc],fun j x hx=>by
       have hj:j<m:=by have:=(bB.1 hx).1;simpa using this
       have hxy:x=y:=by
        rw[dR]at hx;split at hx
        ·simpa using hx.symm
        ·rename_i hn;exact absurd hj hn
       rw[akM hvs hpos hj,hxy];exact hrz⟩
      have akQ:∀u∈(Builtin.zeroCells zv.cells m).toList,u.oneCell'=true:=fun u hu=>nU hcells hone u (akO (by omega) hu)
      simp only[elems]at hl;split at hl
      ·rename_i c' l' hob;cases hd':K.ig c' cc with
       |isFalse hn=>simp[hd']at hl
       |isTrue he'=>
        subst he';simp[hd']at hl;subst hl;exact Xc hD hs hi hisz (by rw[hvs]) hA hrow akQ hob hr (by simpa using hsm) (nE hty)
      ·cases hl
     ·cases h
    ·cases h
   ·cases h
  ·cases h
 ·cases h
theorem VB{cx:Cx K}(hD:bo cx.D)(hs:aS cx.D ρ S w H){ev:Operand->AV K}{ρe:Operand->Value}(hev:∀x,Rep cx.D ρ S w (ev x) (ρe x)){o:Oper}{v:AV K}{H':List (Ob K)}{c:Bool}{t:List Nat}
 (h:sx cx ev H o.op=some (v,H',c,t)) (hc:c=true):Does cx.D cx.P ρ S H w (execOp ρe o) v H':=by
 unfold sx at h;unfold execOp;split at h
 all_goals first|(cases h;done)|(rename_i hop;rw[hop];dsimp only)
 ·
  rename_i T x;split at h
  ·rename_i hk;obtain⟨ρ1,t1,t2,t3,-,t5,-⟩:=sN cx.deep (cx.kd T) _ H ρ _ hs (iJ (hev x) hk);generalize thaw cx.deep H (cx.kd T) (ev x).bp=p at h t1 t2 t3 t5;obtain⟨cs,H1⟩:=p;dsimp only at h;split at h
   ·cases h
   rename_i qf;simp only[av,bc]at h;obtain⟨rfl,rfl,rfl,rfl⟩:=h;exact(Xd t1 t2 (fun h=>absurd h qf) (T:=T) (eD (f:=.value) (by simp[Instr.box,newVar,newRow]))).behind t3 t5
  ·cases h
 ·
  rename_i T;split at h
  ·rename_i z hz;split at h
   ·rename_i hk;obtain⟨i,hi⟩:∃i,cx.P.info? T=some i:=by
     unfold zeroOf at hz;cases hh:cx.P.info? T with
     |none=>simp[hh]at hz
     |some i=>exact⟨i,rfl⟩
    obtain⟨zv,hzv,hov⟩:=v7 hz hi;obtain⟨ρ1,t1,t2,t3,-,t5,-⟩:=sN cx.deep (cx.kd T) _ H ρ _ hs (iJ (pO zv z hov) hk);generalize thaw cx.deep H (cx.kd T) z.bp=p at h t1 t2 t3 t5;obtain⟨cs,H1⟩:=p;dsimp only at h;split at h
    ·cases h
    rename_i qf;simp only[av,bc]at h;obtain⟨rfl,rfl,rfl,rfl⟩:=h;exact(Xd t1 (akR t2) (akS (by simpa using qf)) (T:=T) (eD (f:=.value) (by simp[Instr.alloc,zeroValue,typeInfo,hi,hzv,newVar,newRow]))).behind t3 t5
   ·cases h
  ·cases h
 ·
  rename_i T parts;split at h
  ·rename_i ps z hps hz;split at h
   ·rename_i hk;simp only[dS,bc]at h;obtain⟨cs,hcs,rfl,rfl,rfl,rfl⟩:=h;obtain⟨u,hu,hr⟩:=akT hev hps hz hk hcs;exact⟨_,u,w,ρ,eD (f:=.value) hu,.inl rfl,hs,hr,Step.refl⟩
   ·cases h
  ·cases h
 ·
  rename_i T p x;split at h
  ·rename_i n hn;split at h
   ·rename_i hcond;obtain⟨hl,h1⟩:=hcond;have hp:=hev p;split at h
    ·rename_i hh off he;rw[he]at hp;split at h
     ·rename_i cs hob;split at h
      ·rename_i hle;have hcx:=iJ (hev x) (yJ h1);have h1':=nU hcx h1;obtain⟨ρ1,t1,t2,t3,t4,t5,t6⟩:=sN cx.deep (cx.kd T) _ H ρ _ hs hcx;have Xe:=t6 _ _ hob;generalize thaw cx.deep H (cx.kd T) (ev x).bp=pp at h t1 t2 t3 t5 Xe;obtain⟨xs,H1⟩:=pp;dsimp only at h;split at h
       ·cases h
       rename_i qf;simp only[av,bc]at h;obtain⟨rfl,rfl,rfl,rfl⟩:=h;exact(akU t1 hn (by rw[<-hl];exact t2.1.trans hcx.1.symm) h1' Xe hle t2 (hp.mono (fun _ h=>h) (fun _ _=>rfl) t4) (fun h=>by simp only[bk,eQ,not_and,Bool.not_eq_false]at qf;exact qf h)).behind t3 t5
      ·cases h
     ·cases h
    ·rename_i hh st i off he;rw[he]at hp;split at h
     ·rename_i cc l hob;split at h
      ·rename_i hcc;obtain⟨rfl,hcl,hle⟩:=hcc;split at h
       ·rename_i y b hdec;simp only[av,bc]at h;obtain⟨rfl,rfl,rfl,rfl⟩:=h;subst hc;exact akV hD hs hn hl h1 hob hle hcl hdec (hev x) hp
       ·cases h
      ·cases h
     ·cases h
    ·cases h
   ·cases h
  ·cases h
 ·
  rename_i T len cap;split at h
  ·cases h
  ·rename_i e he;split at h
   ·rename_i cc z kl n kc m hty hz hl hcp;split at h
    ·rename_i hcond;obtain⟨hsz,hroom,-,hk⟩:=hcond;split at h
     ·rename_i y b hdec;simp only[av,bc]at h;obtain⟨rfl,rfl,rfl,rfl⟩:=h;have h1:=hev len;rw[hl]at h1;have h2:=hev cap;rw[hcp]at h2;rw[ei h1,ei h2];simp only[bk,bC]at hc;obtain⟨hb,hc⟩:=hc;subst hb;exact akW hD hs he hsz hroom hz hk hdec hc.1 hc.2.1 hc.2.2 (nE hty)
     ·cases h
    ·cases h
   ·cases h
 ·
  rename_i T len parts;split at h
  ·cases h
  ·rename_i e he;split at h
   ·rename_i cc l hty hl;split at h
    ·rename_i hcond;obtain⟨hsz,hz,hlen,h1,h2,hall⟩:=hcond;split at h
     ·rename_i y b hdec;simp only[av,bc]at h;obtain⟨rfl,rfl,rfl,rfl⟩:=h;subst hc;exact akX hD hs hev he hsz hz hl hlen h1 h2 hall hdec (nE hty)
     ·cases h
    ·cases h
   ·cases h
 ·
  rename_i src dst x;split at h
  ·rename_i e s hu he hx;split at h
   ·rename_i cc h3 hty;split at h
    ·rename_i f g hb;split at h
     ·simp only[av,bc]at h;obtain⟨rfl,rfl,rfl,rfl⟩:=h;have hxx:=hev x;rw[hx]at hxx;rw[iu hxx];exact akL hD hs hu (gw he) h3 hb (nE hty)
     ·cases h
    ·cases h
   ·cases h
  ·cases h
 ·
  rename_i args argTypes;split at h
  ·rename_i s x sT xT hargs hat;have ea:args= #[s,x]:=by rw[<-Array.toArray_toList (xs:=args),hargs]
   have et:argTypes= #[sT,xT]:=by rw[<-Array.toArray_toList (xs:=argTypes),hat]
   subst ea;subst et;have hres:(do let d<-resolve ρe {callee:=.builtin .append,args:= #[s,x],argTypes:= #[sT,xT]} o.type;invoke d.target d.args:Sem Next)=
    (do pure (.value (<-Builtin.append_ #[sT,xT] o.type #[ρe s,ρe x])):Sem Next):=by simp[resolve,invoke,builtin]
   rw[hres];split at h
   ·cases h
   rename_i hx2;split at h
   ·rename_i hx1;exact akP hD hs hev h hc hx1
   ·rename_i hx1;simp only[qH,Option.isSome_eq_false_iff,Option.isNone_iff_eq_none]at hx1 hx2;obtain⟨d,hd⟩:=Option.ne_none_iff_exists'.1 hx2;have hdk:∀k,d≠.int k:=fun k e=>by subst e;simp[wu,hd]at hx1
    unfold CN at h;split at h
    ·cases h
    ·rename_i e he;split at h
     ·cases h
     ·rename_i cc hty;split at h
      ·rename_i hcond;obtain⟨hsz,hroom,hz⟩:=hcond;obtain⟨i,hi,hisz⟩:=ly hsz;obtain⟨z,hzv,hzs⟩:=wW hz hi;have hb:=sP hroom hi;split at h
       ·cases h
       ·rename_i m hm;have hss:=hev s;split at h
        ·rename_i es;simp only[av,bc]at h;obtain⟨rfl,rfl,rfl,rfl⟩:=h;rw[es]at hss;have e0:ρe s=.slice none 0 0:=by generalize ρe s=Y at hss;cases hss;rfl
         rw[e0];exact akJ hD hs (gw he) hd hdk hi hisz hzv (by rw[hzs,hisz]) hb hm (hev x) (by simpa using hc) hs (nE hty)
        ·rename_i hh es;rw[es]at hss;obtain⟨hr,-⟩:=iI hss;have key:∀l,elems H cc (.sl hh)=some l->l.length+m.length<=1073741824->
          Does cx.D cx.P ρ S H w (do pure (.value (<-Builtin.append_ #[sT,xT] o.type #[ρe s,ρe x])):Sem Next) (.sl H.length) (H.set hh .dead++[.arr cc (l++m)]):=fun l hl hsm=>by
          simp only[elems]at hl;split at hl
          ·rename_i c' l' hob;cases hd':K.ig c' cc with
           |isFalse hn=>simp[hd']at hl
           |isTrue he'=>
            subst he';simp[hd']at hl;subst hl;exact akK hD hs (gw he) hd hdk hi hisz hzv (by rw[hzs,hisz]) hb hm (hev x) hob hr hsm (nE hty)
          ·cases hl
         split at h
         ·split at h
          ·cases h
          ·split at h
           ·rename_i l hl;simp only[av,bc]at h;obtain⟨rfl,rfl,rfl,rfl⟩:=h;exact key l hl (by simpa using hc)
           ·cases h
         ·split at h
          ·rename_i l hl;simp only[av,bc]at h;obtain⟨rfl,rfl,rfl,rfl⟩:=h;exact key l hl (by simpa using hc)
          ·cases h
        ·cases h
      ·cases h
  ·cases h
 ·
  rename_i args argTypes;split at h
  ·rename_i x T hargs hat;have ea:args= #[x]:=by rw[<-Array.toArray_toList (xs:=args),hargs]
   have et:argTypes= #[T]:=by rw[<-Array.toArray_toList (xs:=argTypes),hat]
   subst ea;subst et;have hres:(do let d<-resolve ρe {callee:=.builtin .clear,args:= #[x],argTypes:= #[T]} o.type;invoke d.target d.args:Sem Next)=
    (do pure (.value (<-Builtin.clear_ #[T] o.type #[ρe x])):Sem Next):=by simp[resolve,invoke,builtin]
   rw[hres];split at h
   ·rename_i h' st lo hi e hx he;split at h
    ·rename_i cc l z ho hz;split at h
     ·rename_i hg;obtain⟨rfl,g2,g3⟩:=hg;split at h
      ·rename_i y b hdec;simp only[av,bc]at h;obtain⟨rfl,rfl,hcb,-⟩:=h;rw[<-hcb]at hc;simp only[bk,bC]at hc;obtain⟨rfl,hl⟩:=hc;exact ajn hD hs he g2 hz g3 hdec ho (hx ▸ hev x) hl
      ·cases h
     ·cases h
    ·cases h
   ·cases h
  ·cases h
 ·
  rename_i args argTypes;split at h
  ·rename_i x y T T2 hargs hat;have ea:args= #[x,y]:=by rw[<-Array.toArray_toList (xs:=args),hargs]
   have et:argTypes= #[T,T2]:=by rw[<-Array.toArray_toList (xs:=argTypes),hat]
   subst ea;subst et;have hres:(do let d<-resolve ρe {callee:=.builtin .copy,args:= #[x,y],argTypes:= #[T,T2]} o.type;invoke d.target d.args:Sem Next)=
    (do pure (.value (<-Builtin.copy_ #[T,T2] o.type #[ρe x,ρe y])):Sem Next):=by simp[resolve,invoke,builtin]
   rw[hres];split at h
   ·rename_i h' st lo hi s e hx hy he;split at h
    ·rename_i cc l ho;split at h
     ·rename_i ff g hb;split at h
      ·rename_i hg;obtain⟨rfl,g2⟩:=hg;simp only[av,bc]at h;obtain⟨rfl,rfl,hcb,-⟩:=h;rw[<-hcb]at hc;simp only[bk,bC]at hc;have hys:=hev y;rw[hy]at hys;have ey:ρe y=.string ⟨s.toArray⟩:=by generalize ρe y=Y at hys;cases hys;rfl
       rw[ey];exact ajq hD hs he g2 hb ho (hx ▸ hev x) hc.1 hc.2
      ·cases h
     ·cases h
    ·cases h
   ·cases h
  ·cases h
theorem akY{D:bj K}{P:Program}(hs:aS D ρ S w H){t e:TypeId}{c:K.U}{l:List (K.El c)}{h:Nat}{Y:Value}{k:IntKind}{n:Int}(ht:elemOf? P t=some e)(hsz:cM P e=some (K.sz c))
 (ho:H[h]?=some (.arr c l)) (hY:ρ[h]?=some Y) (hb:cC 0 n l.length=true):
 Does D P ρ S H w (do pure (.value (<-Instr.sliceAt t Y none (some (.int k n)) none))) (.sl H.length) (H.set h .dead++[.arr c (l.take n.toNat)]):=by
 have hk:=hs.kill h;obtain⟨-,h2,h3⟩:=qg hb;rcases sd hs ho hY with⟨rfl,rfl⟩|⟨b,o,cap,vs,T,fr,rfl,hblk,⟨hcap,dw⟩,hsz',hfr,hall⟩
 ·have hn:n=0:=by simp at h3;omega
  subst hn;have hrun:(Instr.sliceAt t (.slice none 0 0) none (some (.int k 0)) none).run P w=.ok (.slice none 0 0) w:=by
   have:=lr (P:=P) (w:=w) (D:=D) (ρ:=ρ) (S:=S) (isS:=true) (len:=0) (cap:=0) (lo:=none) (hi:=some (.int k 0)) (l:=0) (h:=0) rfl rfl .none (.some (.int k 0)) (by omega) (by omega) (by omega) (cH _);simp[Instr.sliceAt,Instr.slice,dI (gw ht),il hsz,this]
  have:=JK hk c false;simp only[kr,aZ]at this;refine Does.zm (h:=h) ⟨_,_,w,ρ++[.slice none 0 0],eD (f:=.value) hrun,.inl rfl,by simpa using this.1,?_,by simpa using this.2⟩;exact .sl (by rw[cO (by rw[hs.len];exact cH _)];simp[hs.len])
 ·have hrun:(Instr.sliceAt t (.slice (some ⟨b,o,none⟩) l.length cap) none (some (.int k n)) none).run P w=.ok (.slice (some ⟨b,o,none⟩) n.toNat cap) w:=by
   have:=lr (P:=P) (w:=w) (D:=D) (ρ:=ρ) (S:=S) (isS:=true) (len:=l.length) (cap:=cap) (lo:=none) (hi:=some (.int k n)) (l:=0) (h:=n) rfl rfl .none (.some (.int k n)) (by omega) h2 h3 hcap;simp[Instr.sliceAt,Instr.slice,dI (gw ht),il hsz,this]
  have hno:=zn hs ho rfl hY (b:=b) rfl;have hlt:=hs.lt b ⟨h,_,_,ho,rfl,hY,rfl⟩;have hlen:(l.take n.toNat).length=n.toNat:=by rw[jY];omega
  have hob:eP D (ρ++[.slice (some ⟨b,o,none⟩) n.toNat cap]) S w (.arr c (l.take n.toNat)) (.slice (some ⟨b,o,none⟩) n.toNat cap):=by
   refine .inr ⟨b,o,cap,vs,T,fr,by rw[hlen],hblk,⟨by rw[hlen];omega,dw⟩,hsz',hfr,fun i x hx=>?_⟩;have hx':l[i]?=some x:=by
    rw[ca]at hx;split at hx
    ·exact hx
    ·cases hx
   exact(hall i x hx').mono (fun _ h=>h) (fun _ _=>rfl) (fun _ _ h=>mi h)
  refine⟨_,_,w,_,eD (f:=.value) hrun,.inl rfl,hk.push hob (fun k' _ hk'=>by simp[bS,im]at hk';subst hk';exact⟨hlt.1,hlt.2,hno⟩),?_,?_⟩
  ·exact .sl (by rw[cO (by rw[hs.len];exact cH _)];simp[hs.len])
  ·refine⟨rfl,rfl,rfl,cH _,fun _ _ _=>rfl,fun k' hk'=>?_,fun _ h=>h,fun _ h=>.inl h,fun k' hk'=>by rw[cD (by rw[hs.len];exact hk')]⟩;rcases we (by simpa using hs.len) hk' with hk'|⟨-,hk'⟩
   ·exact .inl (qe hk')
   ·simp[bS,im]at hk';subst hk';exact .inl ⟨h,_,_,ho,rfl,hY,rfl⟩
theorem sO{D:bj K}{P:Program}(hs:aS D ρ S w H){h:Nat}{o o':Ob K}{Y u:Value}{s:Sem Next}(ho:H[h]?=some o)(hl:o.live=true)(hY:ρ[h]?=some Y)(hrun:s.run P w=.ok (.value u) w)
 (hu:∃a n c,u=.slice a n c) (hob:eP D (ρ++[u]) S w o' u) (hf:∀k,bS D w o' u k->bS D w o Y k):Does D P ρ S H w s (.sl H.length) (H.set h .dead++[o']):=by
 obtain⟨a,n,c,rfl⟩:=hu;have hk:=hs.kill h;refine⟨_,_,w,ρ++[.slice a n c],hrun,.inl rfl,hk.push hob (fun k _ hk'=>⟨(hs.lt k ⟨h,o,Y,ho,hl,hY,hf k hk'⟩).1,(hs.lt k ⟨h,o,Y,ho,hl,hY,hf k hk'⟩).2,zn hs ho hl hY (hf k hk')⟩),?_,?_⟩
 ·exact .sl (by rw[cO (by rw[hs.len];exact cH _)];simp[hs.len])
 ·refine⟨rfl,rfl,rfl,cH _,fun _ _ _=>rfl,fun k hk'=>?_,fun _ h=>h,fun _ h=>.inl h,fun k' hk'=>by rw[cD (by rw[hs.len];exact hk')]⟩;rcases we (by simpa using hs.len) hk' with hk'|⟨-,hk'⟩
  ·exact .inl (qe hk')
  ·exact .inl ⟨h,o,Y,ho,hl,hY,hf k hk'⟩
theorem Tree.take{D:bj K}{c:K.U}{l:List (K.El c)}{b o n cp m:Nat}(h:Tree D w c l (.slice (some ⟨b,o,none⟩) n cp))(hm:m<=l.length):Tree D w c (l.take m) (.slice (some ⟨b,o,none⟩) m cp)/\∀k,cK D w c (l.take m) (.slice (some ⟨b,o,none⟩) m cp) k->cK D w c l (.slice (some ⟨b,o,none⟩) n cp) k:=by
 have hget:∀{i:Nat}{x:K.El c},(l.take m)[i]?=some x->l[i]?=some x:=fun{i x} hi=>by
  simp only[ca]at hi;split at hi
  ·exact hi
  ·simp at hi
 refine⟨?_,fun k hk=>?_⟩
 ·cases h with
  |mk hb hcap hsz hfr hlen fZ jQ hself hdis=>
   have hml:(l.take m).length=m:=by simp;omega
   have:=Tree.mk (l:=l.take m) hb ⟨by rw[hml];omega,hcap.2⟩ hsz hfr (fun i x hx=>hlen i x (hget hx)) (fun i x hx=>fZ i x (hget hx)) (fun i x hx=>jQ i x (hget hx)) (fun i x hx=>hself i x (hget hx))
    (fun i x hx j c' l' y hj hy i2 x2 hx2=>hdis i x (hget hx) j c' l' y hj hy i2 x2 (hget hx2))
   rwa [hml]at this
 ·cases hk with
  |here=>exact .here
  |kid hx hj hy hk=>exact .kid (hget hx) hj hy hk
theorem Tree.drop{D:bj K}{c:K.U}{l:List (K.El c)}{b o n cp m:Nat}(h:Tree D w c l (.slice (some ⟨b,o,none⟩) n cp))(hm:m<=l.length)(hE:D.km c=none){o':Nat}(ho':(cp=m/\o'=o)\/o'=o+m*K.sz c):
 Tree D w c (l.drop m) (.slice (some ⟨b,o',none⟩) (l.length-m) (cp-m))/\∀k,cK D w c (l.drop m) (.slice (some ⟨b,o',none⟩) (l.length-m) (cp-m)) k->cK D w c l (.slice (some ⟨b,o,none⟩) n cp) k:=by
 have hget:∀{i:Nat}{x:K.El c},(l.drop m)[i]?=some x->l[m+i]?=some x:=fun{i x} hi=>by simpa using hi
 have hml:(l.drop m).length=l.length-m:=by simp
 cases h with
 | @mk _ _ _ _ _ vs T fr hb hcap hsz hfr hlen fZ jQ hself hdis=>
   have hpos:∀{i:Nat}{x:K.El c},(l.drop m)[i]?=some x->o'+i*K.sz c=o+(m+i)*K.sz c:=fun{i x} hi=>by
    have hi':=(bB.1 hi).1;rcases ho' with⟨h,-⟩|h
    ·rw[hml]at hi';have:=hcap.1;omega
    ·rw[h,dh];omega
   have hmc:m*K.sz c+(cp-m)*K.sz c=cp*K.sz c:=by rw[<-dh];congr 1;have:=hcap.1;omega
   have hlo:o<=o':=by rcases ho' with⟨-,h⟩|h<;>omega
   have hhi:o'+(cp-m)*K.sz c<=o+cp*K.sz c:=by
    rcases ho' with⟨h,h'⟩|h
    ·rw[h,rh,nR];omega
    ·omega
   refine⟨?_,fun k hk=>?_⟩
   ·have:=Tree.mk (D:=D) (l:=l.drop m) (o:=o') (cap:=cp-m) hb ⟨by rw[hml];have:=hcap.1;omega,fun t ht=>by rw[hE]at ht;cases ht⟩ (by omega) (fun k h1 h2=>hfr k (by omega) (by omega))
     (fun i x hx=>by rw[hpos hx];exact hlen _ x (hget hx)) (fun i x hx=>by rw[hpos hx];exact fZ _ x (hget hx)) (fun i x hx=>by rw[hpos hx];exact jQ _ x (hget hx)) (fun i x hx=>by rw[hpos hx];exact hself _ x (hget hx))
     (fun i x hx j c' l' y hj hy i2 x2 hx2 j2 c2 l2 y2 hj2 hy2 k h1 h2=>by
       rw[hpos hx]at hy;rw[hpos hx2]at hy2;obtain⟨e1,e2⟩:=hdis _ x (hget hx) j c' l' y hj hy _ x2 (hget hx2) j2 c2 l2 y2 hj2 hy2 k h1 h2;exact⟨by omega,e2⟩)
    rwa [hml]at this
   ·cases hk with
    |here=>exact .here
    |kid hx hj hy hk=>rw[hpos hx]at hy;exact .kid (hget hx) hj hy hk
theorem Xf{D:bj K}{P:Program}(hs:aS D ρ S w H){t e:TypeId}{c:K.U}{l:List (K.El c)}{h:Nat}{Y:Value}{k:IntKind}{n:Int}(ht:elemOf? P t=some e)(hsz:cM P e=some (K.sz c))(ho:H[h]?=some (.arr c l)\/H[h]?=some (.tree c l))
 (hY:ρ[h]?=some Y) (hsl:∃a n c,Y=.slice a n c) (tl:Bool) (hb:cond tl (cC n l.length l.length) (cC 0 n l.length)=true):
 (l=[]/\Y=.slice none 0 0/\(Instr.sliceAt t Y (cond tl (some (.int k n)) none) (cond tl none (some (.int k n))) none).run P w=.ok (.slice none 0 0) w)\/∃b o cp,Y=.slice (some ⟨b,o,none⟩) l.length cp/\l.length<=cp/\n.toNat<=l.length/\
   (Instr.sliceAt t Y (cond tl (some (.int k n)) none) (cond tl none (some (.int k n))) none).run P w=.ok (cond tl (.slice (if cp=n.toNat then some ⟨b,o,none⟩else some ⟨b,o+n.toNat*K.sz c,none⟩) (l.length-n.toNat) (cp-n.toNat)) (.slice (some ⟨b,o,none⟩) n.toNat cp)) w:=by
 obtain⟨a,m,cp,rfl⟩:=hsl;rcases Xg hs ho hY with⟨rfl,rfl,rfl,rfl⟩|⟨b,o,rfl,rfl,hcap⟩
 ·refine .inl ⟨rfl,rfl,?_⟩;cases tl with
  |true=>
   obtain⟨h1,h2,h3⟩:=qg hb;have hn:n=0:=by simp at h2;omega
   subst hn;have:=lr (P:=P) (w:=w) (D:=D) (ρ:=ρ) (S:=S) (isS:=true) (len:=0) (cap:=0) (lo:=some (.int k 0)) (hi:=none) (l:=0) (h:=0) rfl rfl (.some (.int k 0)) .none (by omega) (by omega) (by omega) (cH _);simp[Instr.sliceAt,Instr.slice,dI (gw ht),il hsz,this]
  |false=>
   obtain⟨h1,h2,h3⟩:=qg hb;have hn:n=0:=by simp at h3;omega
   subst hn;have:=lr (P:=P) (w:=w) (D:=D) (ρ:=ρ) (S:=S) (isS:=true) (len:=0) (cap:=0) (lo:=none) (hi:=some (.int k 0)) (l:=0) (h:=0) rfl rfl .none (.some (.int k 0)) (by omega) (by omega) (by omega) (cH _);simp[Instr.sliceAt,Instr.slice,dI (gw ht),il hsz,this]
 ·cases tl with
  |true=>
   obtain⟨h1,h2,h3⟩:=qg hb;refine .inr ⟨b,o,cp,rfl,hcap,by omega,?_⟩;have:=lr (P:=P) (w:=w) (D:=D) (ρ:=ρ) (S:=S) (isS:=true) (len:=l.length) (cap:=cp) (lo:=some (.int k n)) (hi:=none) (l:=n) (h:=l.length) rfl rfl (.some (.int k n)) .none h1 h2 h3 hcap;simp[Instr.sliceAt,Instr.slice,dI (gw ht),il hsz,this]
  |false=>
   obtain⟨h1,h2,h3⟩:=qg hb;refine .inr ⟨b,o,cp,rfl,hcap,by omega,?_⟩;have:=lr (P:=P) (w:=w) (D:=D) (ρ:=ρ) (S:=S) (isS:=true) (len:=l.length) (cap:=cp) (lo:=none) (hi:=some (.int k n)) (l:=0) (h:=n) rfl rfl .none (.some (.int k n)) (by omega) h2 h3 hcap;simp[Instr.sliceAt,Instr.slice,dI (gw ht),il hsz,this]
theorem Xh{D:bj K}{P:Program}(hs:aS D ρ S w H){t e:TypeId}{c:K.U}{l:List (K.El c)}{h:Nat}{Y:Value}{k:IntKind}{n:Int}(ht:elemOf? P t=some e)(hsz:cM P e=some (K.sz c))(ho:H[h]?=some (.tree c l))
 (hY:ρ[h]?=some Y) (tl:Bool) (hE:tl=true->D.km c=none) (hb:cond tl (cC n l.length l.length) (cC 0 n l.length)=true):
 Does D P ρ S H w (do pure (.value (<-Instr.sliceAt t Y (cond tl (some (.int k n)) none) (cond tl none (some (.int k n))) none))) (.sl H.length) (H.set h .dead++[.tree c (cond tl (l.drop n.toNat) (l.take n.toNat))]):=by
 have hT:Tree D w c l Y:=hs.ob _ _ _ ho hY;obtain⟨a,cp0,e0⟩:=CB hT;rcases Xf (P:=P) (k:=k) hs ht hsz (.inr ho) hY ⟨_,_,_,e0⟩ tl hb with⟨rfl,rfl,hrun⟩|⟨b,o,cp,rfl,hcap,hn,hrun⟩
 ·refine sO hs ho rfl hY (eD (f:=.value) hrun) ⟨_,_,_,rfl⟩ ?_ fun k hk=>?_
  ·cases tl<;>(simp only[aE,aZ,List.drop_nil,List.take_nil];exact Tree.nil)
  ·cases tl<;>(simp only[aE,aZ,List.drop_nil,List.take_nil]at hk;exact hk)
 ·cases tl with
  |true=>
   simp only[aE]at hrun⊢;by_cases hc:cp=n.toNat
   ·rw[aF hc]at hrun;obtain⟨T1,T2⟩:=hT.drop hn (hE rfl) (o':=o) (.inl ⟨hc,rfl⟩);exact sO hs ho rfl hY (eD (f:=.value) hrun) ⟨_,_,_,rfl⟩ T1 T2
   ·rw[bF hc]at hrun;obtain⟨T1,T2⟩:=hT.drop hn (hE rfl) (o':=o+n.toNat*K.sz c) (.inr rfl);exact sO hs ho rfl hY (eD (f:=.value) hrun) ⟨_,_,_,rfl⟩ T1 T2
  |false=>
   simp only[aZ]at hrun⊢;obtain⟨T1,T2⟩:=hT.take hn;exact sO hs ho rfl hY (eD (f:=.value) hrun) ⟨_,_,_,rfl⟩ T1 T2
theorem akZ{D:bj K}{P:Program}(hs:aS D ρ S w H){t e:TypeId}{c:K.U}{l:List (K.El c)}{h:Nat}{Y:Value}{k:IntKind}{n:Int}(ht:elemOf? P t=some e)(hsz:cM P e=some (K.sz c))
 (ho:H[h]?=some (.arr c l)) (hY:ρ[h]?=some Y) (hE:D.km c=none) (hb:cC n l.length l.length=true):
 Does D P ρ S H w (do pure (.value (<-Instr.sliceAt t Y (some (.int k n)) none none))) (.sl H.length) (H.set h .dead++[.arr c (l.drop n.toNat)]):=by
 have hsh:∃a n c,Y=.slice a n c:=by
  rcases sd hs ho hY with⟨rfl,-⟩|⟨b,o,cap,vs,T,fr,rfl,-⟩<;>exact⟨_,_,_,rfl⟩
 rcases Xf (P:=P) (k:=k) hs ht hsz (.inl ho) hY hsh true hb with⟨rfl,rfl,hrun⟩|⟨b,o,cp,rfl,hcap,hn,hrun⟩
 ·simp only[aE]at hrun;exact sO hs ho rfl hY (eD (f:=.value) hrun) ⟨_,_,_,rfl⟩ (.inl ⟨rfl,by simp⟩) fun k hk=>hk
 ·simp only[aE]at hrun;rcases sd hs ho hY with⟨e0,-⟩|⟨b',o',cap,vs,T,fr,e0,hblk,⟨hcap',dw⟩,hsz',hfr,hall⟩
  ·cases e0
  ·cases e0;have hml:(l.drop n.toNat).length=l.length-n.toNat:=by simp
   have hmc:n.toNat*K.sz c+(cp-n.toNat)*K.sz c=cp*K.sz c:=by rw[<-dh];congr 1;omega
   have fin:∀o2,(cp=n.toNat/\o2=o)\/o2=o+n.toNat*K.sz c->∀ρ',(∀(h:Nat) r,ρ[h]?=some r->ρ'[h]?=some r)->eP D ρ' S w (.arr c (l.drop n.toNat)) (.slice (some ⟨b,o2,none⟩) (l.length-n.toNat) (cp-n.toNat)):=fun o2 h2 ρ' hρ=>by
    have hlo:o<=o2:=by rcases h2 with⟨-,h⟩|h<;>omega
    have hhi:o2+(cp-n.toNat)*K.sz c<=o+cp*K.sz c:=by
     rcases h2 with⟨h,h'⟩|h
     ·rw[h,rh,nR];omega
     ·omega
    refine .inr ⟨b,o2,cp-n.toNat,vs,T,fr,by rw[hml],hblk,⟨by rw[hml];omega,fun t ht=>by rw[hE]at ht;cases ht⟩,by omega,fun k h1 h2=>hfr k (by omega) (by omega),fun i x hx=>?_⟩;have hi':=(bB.1 hx).1;have hp:o2+i*K.sz c=o+(n.toNat+i)*K.sz c:=by
     rcases h2 with⟨h,-⟩|h
     ·rw[hml]at hi';omega
     ·rw[h,dh];omega
    rw[hp];exact(hall (n.toNat+i) x (by simpa using hx)).mono (fun _ h=>h) (fun _ _=>rfl) hρ
   by_cases hc:cp=n.toNat
   ·rw[aF hc]at hrun;exact sO hs ho rfl hY (eD (f:=.value) hrun) ⟨_,_,_,rfl⟩ (fin o (.inl ⟨hc,rfl⟩) _ fun _ _ h=>mi h) fun k hk=>by simp[bS,im]at hk⊢;exact hk
   ·rw[bF hc]at hrun;exact sO hs ho rfl hY (eD (f:=.value) hrun) ⟨_,_,_,rfl⟩ (fin _ (.inr rfl) _ fun _ _ h=>mi h) fun k hk=>by simp[bS,im]at hk⊢;exact hk
theorem ak0{cx:Cx K}(hs:aS cx.D ρ S w H){ev:Operand->AV K}{ρe:Operand->Value}(hev:∀x,Rep cx.D ρ S w (ev x) (ρe x)){o:Oper}{v:AV K}{H':List (Ob K)}{c:Bool}{t:List Nat}
 (h:cutV cx ev H o.op=some (v,H',c,t)) (hc:c=true):Does cx.D cx.P ρ S H w (execOp ρe o) v H':=by
 unfold cutV at h;split at h
 ·rename_i T x y hop;split at h
  ·split at h
   ·rename_i hh k n e hx hy he;have h1:=hev x;rw[hx]at h1;have h2:=hev y;rw[hy]at h2;obtain⟨hr,-⟩:=iI h1;unfold execOp;rw[hop];split at h
    ·rename_i cc l hob;split at h
     ·rename_i hsz;simp only[av,bc]at h;obtain⟨rfl,rfl,rfl,rfl⟩:=h;have:=akY (P:=cx.P) (k:=k) hs he hsz hob hr hc;rw[<-ei h2]at this;exact this
     ·cases h
    ·rename_i cc l hob;split at h
     ·rename_i hsz;simp only[av,bc]at h;obtain⟨rfl,rfl,rfl,rfl⟩:=h;have:=Xh (P:=cx.P) (k:=k) hs he hsz hob hr false (fun e=>by cases e) hc;simp only[aZ]at this;rw[<-ei h2]at this;exact this
     ·cases h
    ·cases h
   ·cases h
  ·cases h
 ·rename_i T x y hop;split at h
  ·split at h
   ·rename_i hh k n e hx hy he;have h1:=hev x;rw[hx]at h1;have h2:=hev y;rw[hy]at h2;obtain⟨hr,-⟩:=iI h1;unfold execOp;rw[hop];split at h
    ·rename_i cc l hob;split at h
     ·rename_i hsz;simp only[av,bc]at h;obtain⟨rfl,rfl,rfl,rfl⟩:=h;have:=akZ (P:=cx.P) (k:=k) hs he hsz.1 hob hr hsz.2 hc;rw[<-ei h2]at this;exact this
     ·cases h
    ·rename_i cc l hob;split at h
     ·rename_i hsz;simp only[av,bc]at h;obtain⟨rfl,rfl,rfl,rfl⟩:=h;have:=Xh (P:=cx.P) (k:=k) hs he hsz.1 hob hr true (fun _=>hsz.2) hc;simp only[aE]at this;rw[<-ei h2]at this;exact this
     ·cases h
    ·cases h
   ·cases h
  ·cases h
 ·cases h
theorem ak1{cx:Cx K}(hD:bo cx.D)(hs:aS cx.D ρ S w H){ev:Operand->AV K}{ρe:Operand->Value}(hev:∀x,Rep cx.D ρ S w (ev x) (ρe x)){o:Oper}{v:AV K}{H':List (Ob K)}{c:Bool}{t:List Nat}
 (h:yU cx ev H o.op=some (v,H',c,t)) (hc:c=true):H'=H/\∃u w' S',(execOp ρe o).run cx.P w=.ok (.value u) w'/\aS cx.D ρ S' w' H/\Rep cx.D ρ S' w' v u/\Step cx.D H.length ρ S H w ρ S' H w':=by
 unfold yU at h;split at h
 ·rename_i T len parts hop;split at h
  ·cases h
  ·rename_i e he;split at h
   ·rename_i cc l hty hl;split at h
    ·rename_i hcond;obtain⟨hsz,hz,hlen,h1,h2,hall⟩:=hcond;split at h
     ·rename_i y b hdec;simp only[av,bc]at h;obtain⟨rfl,rfl,rfl,rfl⟩:=h;subst hc;obtain⟨cs',hrun,-,hseg⟩:=Xi (P:=cx.P) hD hs hev he hsz hz hl hlen h1 h2 hall hdec;obtain⟨g1,g2,g3⟩:=ak2 (P:=cx.P) hs (c:=cc) (l:=y) (vs:=cs') (T:=e) (fr:=(0,0)) (w':=w.alloc (.cells cs' e)) rfl rfl rfl rfl hseg;refine⟨rfl,_,_,_,?_,g1,g2,g3⟩;unfold execOp;rw[hop];exact hrun
     ·cases h
    ·cases h
   ·cases h
 ·cases h
end Go.V
