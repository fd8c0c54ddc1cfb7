/-
  A CALL, AS THE VALUE-LEVEL READING HAS IT, BY THE CONTRACT OF WHAT IS CALLED.
-/
import Derived.Test.YtghkckfhaljjjaaGreatDoorXWcall3
set_option linter.unusedVariables false
namespace Go.V
open Go
variable {K :dh}{D:bH K}{ρ ρ':List Value}{S S':Nat->Prop}{w w':World}{H H':List (Ob K)}
theorem ad6{m:List Nat}{h i:Nat}(hi:m.idxOf? h=some i):m[i]?=some h:=by
 rw[List.idxOf?_eq_some_iff]at hi;obtain⟨hlt,he,-⟩:=hi;rw[cH hlt];simpa using he
def rk(ρ:List Value)(m:List Nat):List Value:=m.map fun h=>ρ.getD h undef
theorem Iw{m:List Nat}(hl:∀(i h:Nat),m[i]?=some h->h<ρ.length):∀(i h:Nat),m[i]?=some h->(rk ρ m)[i]?=ρ[h]?:=fun i h hi=>by
 simp only[rk,ik,hi,iC];rw[gn,cH (hl i h hi)];rfl
theorem N1(hD:bR D)(hs:aS D ρ S w H){m:List Nat}(hm:tL H m=true){Hi:List (Ob K)}(hb:mi (CW m) (m.map fun h=>H.getD h .dead)=some Hi):
 aS D (rk ρ m) S w Hi/\Hi.length=m.length/\(∀(i h:Nat) o,m[i]?=some h->Hi[i]?=some o->∃o0,H[h]?=some o0/\o0.live=o.live/\∀r b,cJ D w o r b↔cJ D w o0 r b)/\Ren (fun h=>m.idxOf? h) ρ (rk ρ m):=by
 obtain⟨rj,It⟩:=yA m hm;obtain⟨hol,hog⟩:=Iq _ _ hb;have hlen:=hs.len;have hsub:=Iw (ρ:=ρ) (m:=m) (fun i h hi=>by rw[hlen];exact rj i h hi);have pL:Ren (fun h=>m.idxOf? h) ρ (rk ρ m):=fun i j r hij hr=>by rw[hsub j i (ad6 hij)];exact hr
 have hil:Hi.length=m.length:=by rw[hol];simp
 have hsrc:∀{i:Nat}{o:Ob K},Hi[i]?=some o->∃h o0,m[i]?=some h/\H[h]?=some o0/\CW m o0=some o:=fun{i o} ho=>by
  have hi:i<m.length:=by rw[<-hil];exact(bD.1 ho).1
  have pM:=cH hi;have hh:=rj i _ pM;refine⟨_,H[m[i]],pM,cH hh,hog i _ o ?_ ho⟩;simp only[ik,pM,iC];rw[gn,cH hh];rfl
 refine⟨⟨by simp[rk,hil],fun i o r h1 h2=>?_,fun i j o o' r r' b h1 h2 h3 h4 g1 g2 g3 g4=>?_,fun b ⟨i,o,r,h1,h2,h3,h4⟩=>?_,hs.slt,hs.base⟩,hil,fun i h o h1 h2=>?_,pL⟩
 ·obtain⟨h,o0,e1,e2,e3⟩:=hsrc h1;rw[hsub i h e1]at h2;exact Ip hD pL e3 (hs.ob h o0 r e2 h2)
 ·obtain⟨h,o0,e1,e2,e3⟩:=hsrc h1;obtain⟨h',Ix,c1,c2,c3⟩:=hsrc g1;rw[hsub i h e1]at h3;rw[hsub j h' c1]at g3;have:=hs.eV h h' o0 Ix r r' b e2 (by rw[<-mh e3];exact h2) h3 ((m7 e3).1 h4) c2 (by rw[<-mh c3];exact g2) g3 ((m7 c3).1 g4);subst this;exact It i j h e1 c1
 ·obtain⟨h,o0,e1,e2,e3⟩:=hsrc h1;rw[hsub i h e1]at h3;exact hs.lt b ⟨h,o0,r,e2,by rw[<-mh e3];exact h2,h3,(m7 e3).1 h4⟩
 ·obtain⟨h',o0,e1,e2,e3⟩:=hsrc h2;rw[h1]at e1;simp at e1;subst e1;exact⟨o0,e2,(mh e3).symm,fun r b=>m7 e3⟩
def aP(cx:Cx K):Prop:=(∀f args H r H',cx.call f args H=some (r,H',true)->RC cx.D cx.P f args H r H')/\(∀b f args H r H',cx.alt b f args H=some (r,H',true)->RC cx.D cx.P f args H r H')/\∀(R:Type)(a b:Option R) r,cx.yD a b=some r->a=some r\/b=some r
theorem vV{cx:Cx K}(hD:bR cx.D)(hc:aP cx)(hs:aS cx.D ρ S w H){m:Mode}{f:FuncId}{args:List (AV K)}{vals:List Value}{v:AV K}{H':List (Ob K)}{t:List Nat}
 (h:kX cx m H f args=some (v,H',true,t)) (ha:bh cx.D ρ S w args vals):
 tO cx.P f/\Calls cx.P f vals.toArray w fun e w'=>∃u ρ' S',e=.returned u/\aS cx.D ρ' S' w' H'/\Rep cx.D ρ' S' w' v u/\Step cx.D H.length ρ S H w ρ' S' H' w':=by
 unfold kX at h;split at h
 ·
  split at h
  ·rename_i hcl;split at h
   ·rename_i r c hcall;split at h
    ·rename_i hr;simp only[av,aZ]at h;obtain⟨rfl,rfl,rfl,rfl⟩:=h;simp only[cG,ej,fk]at hr;obtain⟨hf,lM⟩:=hc.1 _ _ _ _ _ hcall;refine⟨hf,?_⟩;by_cases hsl:tP args=true
     ·have hrd:iL r=false:=hr.2.resolve_right (by rw[hsl];simp);have ha1:=(vW hD hs args vals ha).closed (ρ':=[]) hD hcl;have hs1:aS cx.D [] (fun b=>S b\/Own cx.D w ρ H b) w ([]:List (Ob K)):=⟨rfl,fun _ _ _ h=>by simp at h,fun _ _ _ _ _ _ _ h=>by simp at h,fun b ⟨_,_,_,h,_⟩=>by simp at h,fun b hb=>hb.elim (hs.slt b) fun h=>(hs.lt b h).1,cx.D.base.mono (fun _ h=>.inl h) (fun _ _=>rfl) hs.base⟩;refine(lM [] _ w vals hs1 ha1).mono ?_
      rintro e w' ⟨u,ρ',S',rfl,h1,h2,h3⟩
      have hold:∀b,b<w.heap.size->w'.heap[b]?=w.heap[b]?:=fun b hb=>h3.old b hb fun⟨_,_,_,h,_⟩=>by simp at h
      have hO:∀b,Own cx.D w' ρ H b->Own cx.D w ρ H b:=fun b hb=>hb.old fun b hb=>hold b (hs.lt b hb).1
      exact⟨u,ρ,S,rfl,hs.world h3.size (fun b hb=>hold b (hs.lt b hb).1) (fun b hb=>hold b (hs.slt b hb)),Iy r u hr.1 hrd h2,
       ⟨h3.os,h3.tape,h3.output,h3.size,fun b hb _=>hold b hb,fun b hb=>.inl (hO b hb),fun _ h=>h,fun _ h=>.inl h,fun _ _=>rfl⟩⟩
     ·simp only[tQ]at hsl;rw[vX args hsl]at hcl lM;have hs1:aS cx.D [] S w ([]:List (Ob K)):=⟨rfl,fun _ _ _ h=>by simp at h,fun _ _ _ _ _ _ _ h=>by simp at h,fun b ⟨_,_,_,h,_⟩=>by simp at h,hs.slt,hs.base⟩;refine(lM [] S w vals hs1 (ha.closed hD hcl)).mono ?_
      rintro e w' ⟨u,ρ',S',rfl,h1,h2,h3⟩
      have hold:∀b,b<w.heap.size->w'.heap[b]?=w.heap[b]?:=fun b hb=>h3.old b hb fun⟨_,_,_,h,_⟩=>by simp at h
      have hO:∀b,Own cx.D w' ρ H b->Own cx.D w ρ H b:=fun b hb=>hb.old fun b hb=>hold b (hs.lt b hb).1
      have hnew:∀b,S' b->S b\/w.heap.size<=b:=fun b hb=>(h3.s2 b hb).imp id fun h=>h.resolve_left fun⟨_,_,_,h,_⟩=>by simp at h
      have hs2:=hs.world h3.size (fun b hb=>hold b (hs.lt b hb).1) (fun b hb=>hold b (hs.slt b hb));refine⟨u,ρ,S',rfl,⟨hs.len,fun k o r' g1 g2=>(hs2.ob k o r' g1 g2).mono h3.s1 (fun _ _=>rfl) (fun _ _ h=>h) (fun _ _ _=>rfl),hs2.eV,fun b hb=>⟨(hs2.lt b hb).1,fun hS=>?_⟩,h1.slt,h1.base⟩,h2.closed hD hr.1,
       ⟨h3.os,h3.tape,h3.output,h3.size,fun b hb _=>hold b hb,fun b hb=>.inl (hO b hb),h3.s1,fun b hb=>(hnew b hb).imp id .inr,fun _ _=>rfl⟩⟩
      rcases hnew b hS with h|h
      ·exact(hs.lt b (hO b hb)).2 h
      ·have:=(hs.lt b (hO b hb)).1;omega
    ·cases h
   ·cases h
  ·cases h
 ·
  split at h
  ·rename_i hcl;simp only[cG,fk]at hcl;rw[vX args hcl.2]at h hcl;split at h
   ·rename_i r Hn c hcall;split at h
    ·rename_i r' tR hr Iz;simp only[av,aZ]at h;obtain⟨rfl,rfl,rfl,rfl⟩:=h;obtain⟨hf,lM⟩:=hc.1 _ _ _ _ _ hcall;refine⟨hf,?_⟩;have hs1:aS cx.D [] S w ([]:List (Ob K)):=⟨rfl,fun _ _ _ h=>by simp at h,fun _ _ _ _ _ _ _ h=>by simp at h,fun b ⟨_,_,_,h,_⟩=>by simp at h,hs.slt,hs.base⟩;refine(lM [] S w vals hs1 (ha.closed hD hcl.1)).mono ?_
     rintro e w' ⟨u,ρn,S',rfl,h1,h2,h3⟩
     have hbm:gZ [] H.length Hn.length=(List.range Hn.length).map (H.length+·):=by simp[gZ]
     have:=join hD hs (m:=[]) rfl (ρi:=[]) (Hi:=[]) (fun i h hi=>by simp at hi) rfl (fun i h o hi=>by simp at hi) hs1 h1 h3 (dN _) (ij:=tR) (by rw[hbm];exact Iz);obtain⟨j1,j2,j3⟩:=this;simp only[jl,bf,lR]at j1 j2 j3;rw[hbm]at j3;exact⟨u,_,S',rfl,j1,rl hD j3 r r' u hr h2,j2⟩
    ·cases h
   ·cases h
  ·cases h
 ·
  split at h
  ·rename_i hcl;split at h
   ·rename_i r Hn c hcall;split at h
    ·rename_i hfl;simp only[cG,fk,fN]at hfl;split at h
     ·rename_i r' tR hr Iz;simp only[av,aZ]at h;obtain⟨rfl,rfl,rfl,rfl⟩:=h;obtain⟨hf,lM⟩:=hc.1 _ _ _ _ _ hcall;refine⟨hf,?_⟩;have ha1:=(vW hD hs args vals ha).closed (ρ':=[]) hD hcl;have hs1:aS cx.D [] (fun b=>S b\/Own cx.D w ρ H b) w ([]:List (Ob K)):=⟨rfl,fun _ _ _ h=>by simp at h,fun _ _ _ _ _ _ _ h=>by simp at h,fun b ⟨_,_,_,h,_⟩=>by simp at h,fun b hb=>hb.elim (hs.slt b) fun h=>(hs.lt b h).1,cx.D.base.mono (fun _ h=>.inl h) (fun _ _=>rfl) hs.base⟩;have hs0:aS cx.D [] S w ([]:List (Ob K)):=⟨rfl,fun _ _ _ h=>by simp at h,fun _ _ _ _ _ _ _ h=>by simp at h,fun b ⟨_,_,_,h,_⟩=>by simp at h,hs.slt,hs.base⟩;refine(lM [] _ w vals hs1 ha1).mono ?_
      rintro e w' ⟨u,ρn,S',rfl,h1,h2,h3⟩
      have hown:∀b,Own cx.D w' ρn Hn b->w.heap.size<=b:=fun b hb=>(h3.own b hb).resolve_left fun⟨_,_,_,h,_⟩=>by simp at h
      have hn:aS cx.D ρn S w' Hn:=by
       refine⟨h1.len,fun k o rr g1 g2=>?_,h1.eV,fun b hb=>⟨(h1.lt b hb).1,fun hS=>?_⟩,fun b hb=>kY (hs.slt b hb) h3.size,cx.D.base.mono (fun _ h=>h) (fun b hb=>h3.old b (hs.slt b hb) fun⟨_,_,_,h,_⟩=>by simp at h) hs.base⟩
       ·have:=h1.ob k o rr g1 g2;have hfo:=hfl.2 o (eN g1);cases o with
        |arr c l=>
         simp only[N2,fk]at hfo;rcases this with this|⟨b,o,cap,vs,T,fr,e,q1,q2,q3,q4,q5⟩
         ·exact .inl this
         ·exact .inr ⟨b,o,cap,vs,T,fr,e,q1,q2,q3,q4,fun i x hx=>yE _ _ (by rw[hD.flat];exact hfo) (q5 i x hx)⟩
        |tree c l=>exact this
        |_=>cases hfo
       ·have:=hown b hb;have:=hs.slt b hS;omega
      have st:Step cx.D ([]:List (Ob K)).length [] S [] w ρn S Hn w':=⟨h3.os,h3.tape,h3.output,h3.size,h3.old,h3.own,fun _ h=>h,fun _ h=>.inl h,h3.pre⟩;have hbm:gZ [] H.length Hn.length=(List.range Hn.length).map (H.length+·):=by simp[gZ]
      have:=join hD hs (m:=[]) rfl (ρi:=[]) (Hi:=[]) (fun i h hi=>by simp at hi) rfl (fun i h o hi=>by simp at hi) hs0 hn st (dN _) (ij:=tR) (by rw[hbm];exact Iz);obtain⟨j1,j2,j3⟩:=this;simp only[jl,bf,lR]at j1 j2 j3;rw[hbm]at j3;exact⟨u,_,S,rfl,j1,rl hD j3 r r' u hr (IA r u hfl.1 h2),j2⟩
     ·cases h
    ·cases h
   ·cases h
  ·cases h
 ·cases h
 ·cases h
 ·
  split at h
  ·cases h
  ·rename_i hp;simp only[fk,Bool.not_eq_false]at hp;split at h
   ·rename_i args' Hi hargs hHi;split at h
    ·rename_i r Ho c hcall;split at h
     ·rename_i r' ij hr IB;split at h
      ·rename_i hle;simp only[av,aZ]at h;obtain⟨rfl,rfl,rfl,rfl⟩:=h;obtain⟨hf,lM⟩:=hc.1 _ _ _ _ _ hcall;refine⟨hf,?_⟩;obtain⟨s1,s2,s3,s4⟩:=N1 hD hs hp hHi;refine(lM _ S w vals s1 (vT hD s4 args args' vals hargs ha)).mono ?_
       rintro e w' ⟨u,ρo,So,rfl,h1,h2,h3⟩
       have hbm:gZ (reach H 64 (cr args) []) H.length Ho.length=reach H 64 (cr args) []++(List.range (Ho.length-Hi.length)).map (H.length+·):=by simp[gZ,s2]
       obtain⟨rj,-⟩:=yA _ hp;have:=join hD hs hp (ρi:=rk ρ (reach H 64 (cr args) [])) (Iw fun i h hi=>by rw[hs.len];exact rj i h hi) s2 s3 s1 h1 h3 hle (ij:=ij) (by rw[hbm];exact IB);obtain⟨j1,j2,j3⟩:=this;rw[hbm]at j3;rw[s2];exact⟨u,_,So,rfl,j1,rl hD j3 r r' u hr h2,j2⟩
      ·cases h
     ·cases h
    ·cases h
   ·cases h
theorem CX{cx:Cx K}(hD:bR cx.D)(hc:aP cx)(hs:aS cx.D ρ S w H){m:Mode}{f:FuncId}{args:List (AV K)}{vals:List Value}{v:AV K}{H':List (Ob K)}{t:List Nat}
 (h:tU cx m H f args=some (v,H',true,t)) (ha:bh cx.D ρ S w args vals):
 tO cx.P f/\Calls cx.P f vals.toArray w fun e w'=>∃u ρ' S',e=.returned u/\aS cx.D ρ' S' w' H'/\Rep cx.D ρ' S' w' v u/\Step cx.D H.length ρ S H w ρ' S' H' w':=by
 obtain⟨S1,g1,g2,g3⟩:=CY (n0:=H.length) (cr args) hs;obtain⟨hf,lM⟩:=vV hD hc g1 h (yF g1 _ _ (ha.mono g2.s1 (fun _ _=>rfl) (fun _ _ h=>h)));refine⟨hf,lM.mono ?_⟩
 rintro e w' ⟨u,ρ',S',rfl,h1,h2,h3⟩
 rw[g3]at h3;exact⟨u,ρ',S',rfl,h1,h2,g2.trans h3⟩
theorem N3{cx:Cx K}(hD:bR cx.D)(hc:aP cx)(hs:aS cx.D ρ S w H){q:Bool}{f:FuncId}{args:List (AV K)}{vals:List Value}{v:AV K}{H':List (Ob K)}{t:List Nat}
 (h:pN q cx H f args=some (v,H',true,t)) (ha:bh cx.D ρ S w args vals):
 tO cx.P f/\Calls cx.P f vals.toArray w fun e w'=>∃u ρ' S',e=.returned u/\aS cx.D ρ' S' w' H'/\Rep cx.D ρ' S' w' v u/\Step cx.D H.length ρ S H w ρ' S' H' w':=by
 unfold pN at h;split at h
 ·exact vV hD hc hs h ha
 ·split at h
  ·rename_i r hr;simp only[av]at h;subst h;exact vV hD hc hs hr ha
  ·split at h
   ·cases h
   ·exact CX hD hc hs h ha
 ·split at h
  ·cases h
  ·exact CX hD hc hs h ha
 ·split at h
  ·cases h
  ·exact vV hD hc hs h ha
 ·split at h
  ·cases h
  ·exact CX hD hc hs h ha
 ·split at h
  ·cases h
  ·split at h
   ·rename_i r hr;simp only[av]at h;subst h;exact vV hD hc hs hr ha
   ·split at h
    ·rename_i r hr;simp only[av]at h;subst h;exact vV hD hc hs hr ha
    ·exact CX hD hc hs h ha
end Go.V
