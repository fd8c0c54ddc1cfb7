/-
  TOKENS: white space, words and numbers, as both lexers read them.
-/
import Derived.Test.YtiacpoahkccfaaaGreatDoorXXRM
import Derived.Test.YtiacpoahkccfaaaGreatDoorXXplA
import Derived.Test.YtiacpoahkccfaaaGreatDoorXXTF
set_option linter.unusedVariables false
set_option linter.unusedSimpArgs false
namespace M
open Go.V (inB bS ad bA)
def ie(c:UInt8):Bool:=decide ((97:Int)<=(c.toNat:Int))&&decide ((c.toNat:Int)<=122)
def fB(c:UInt8):Bool:=decide ((48:Int)<=(c.toNat:Int))&&decide ((c.toNat:Int)<=57)
def hd(l:List UInt8):UInt8:=l.getD 0 0
def ga:List UInt8->Nat
 |[]=>0
 |c::r=>if(c.toNat:Int)=10 then 0 else ga r+1
def cK:Bool->List UInt8->Int->Nat×Int
 |_,[],l=>(0,l)
 |true,c::r,l=>if(c.toNat:Int)=10 then((cK false r (l+1)).1+1,(cK false r (l+1)).2)else((cK true r l).1+1,(cK true r l).2)
 |false,c::r,l=>if(c.toNat:Int)=10 then((cK false r (l+1)).1+1,(cK false r (l+1)).2)else if(c.toNat:Int)=32 then((cK false r l).1+1,(cK false r l).2)
   else if(c.toNat:Int)=47/\r≠[]/\((hd r).toNat:Int)=47 then((cK true r l).1+1,(cK true r l).2)else(0,l)
theorem KZ:∀(l:List UInt8)(n:Int),cK true l n=((cK false (l.drop (ga l)) n).1+ga l,(cK false (l.drop (ga l)) n).2)
 |[],n=>rfl
 |c::r,n=>by
  unfold cK ga;by_cases h:(c.toNat:Int)=10
  ·rw[dP h,dP h,ll];simp only[cK,dP h,Nat.add_zero]
  ·rw[gq h,gq h,List.drop_succ_cons,KZ r n];simp only[ql];cases r.drop (ga r)<;>rfl
theorem qC:∀(b:Bool)(l:List UInt8)(n:Int),(cK b l n).1<=l.length/\n<=(cK b l n).2/\(cK b l n).2<=n+(l.length:Int)
 |b,[],n=>by cases b<;>simp[cK]
 |true,c::r,n=>by
  unfold cK;have h1:=qC false r (n+1);have h2:=qC true r n;split
  ·simp only[aU];omega
  ·simp only[aU];omega
 |false,c::r,n=>by
  unfold cK;have h1:=qC false r (n+1);have h2:=qC true r n;have h3:=qC false r n;split
  ·simp only[aU];omega
  ·split
   ·simp only[aU];omega
   ·split
    ·simp only[aU];omega
    ·simp only[aU];omega
theorem K0:∀l:List UInt8,ga l<=l.length
 |[]=>cw _
 |c::r=>by
  unfold ga;have:=K0 r;split
  ·omega
  ·simp only[aU];omega
theorem kg{s:List UInt8}{a:Nat}(h:a<s.length):s.drop a=s[a]::s.drop (a+1):=sj h
theorem agD(s:List UInt8)(line:Int)(hs:s.length<=30000):∀f a,s.length-a<f->a<=s.length->M.xn s line f (a:Int)=some (s,((a+ga (s.drop a):Nat):Int),line):=by
 intro f
 induction f with
 |zero=>intro a h;omega
 |succ f ih=>
  intro a h1 h2;rw[M.xn];rcases cP a s.length with h|h
  ·rw[kg h];unfold ga;simp only[cg,getD_lt h,dH,gV,h,eO,bu,du,eB,cA h (by omega:s.length<2^62)];by_cases c:(s[a].toNat:Int)=10
   ·rw[show((s[a].toNat:Int) !=10)=false by rw[bne_eq_false_iff_eq];exact c,dP c];rfl
   ·rw[show((s[a].toNat:Int) !=10)=true by rw[zj];exact c,gq c,ae,ae,ih (a+1) (by omega) (by omega)];congr 4;omega
  ·rw[List.drop_eq_nil_of_le h];have e:decide ((a:Int)<((s.length:Nat):Int))=false:=by rw[dR];omega
   simp only[e,cr,aj,iz,ak,ae,ga,Nat.add_zero,de,cO,rI,bq,nj,dJ];simp
def fJ(s:List UInt8)(a:Nat)(line:Int):Int×Int:=(((a+(cK false (s.drop a) line).1:Nat):Int),(cK false (s.drop a) line).2)
theorem agE(s:List UInt8)(hs:s.length<=30000):∀(f a:Nat)(line:Int),s.length-a<f->a<=s.length->0<=line->line+(s.length-a:Nat)<=100000->
 M.qD f s (a:Int) line=some (.inl (fJ s a line))\/M.qD f s (a:Int) line=some (.inr (fJ s a line)):=by
 intro f
 induction f with
 |zero=>intro a l h;omega
 |succ f ih=>
  intro a line h1 h2 h3 h4;rw[M.qD];rcases cP a s.length with h|h
  ·have w1:=cA h (by omega:s.length<2^62);have w2:Go.IntKind.wrap .i64 (line+1)=line+1:=wrap_i64 (by omega) (by omega);unfold fJ;rw[kg h];unfold cK;simp only[cg,getD_lt h,dH,gV,h,eO,bu,du,eB,ak,ae,w1,w2];by_cases c10:(s[a].toNat:Int)=10
   ·rw[show((s[a].toNat:Int)==10)=true from dJ.2 c10,dP c10,ae];have:=ih (a+1) (line+1) (by omega) (by omega) (by omega) (by omega);unfold fJ at this;rw[show a+1+(cK false (s.drop (a+1)) (line+1)).1=a+((cK false (s.drop (a+1)) (line+1)).1+1) by omega]at this;exact this
   ·rw[show((s[a].toNat:Int)==10)=false from bE.2 c10,gq c10,aj];by_cases c32:(s[a].toNat:Int)=32
    ·rw[show((s[a].toNat:Int)==32)=true from dJ.2 c32,dP c32,ae];have:=ih (a+1) line (by omega) (by omega) (by omega) (by omega);unfold fJ at this;rw[show a+1+(cK false (s.drop (a+1)) line).1=a+((cK false (s.drop (a+1)) line).1+1) by omega]at this;exact this
    ·rw[show((s[a].toNat:Int)==32)=false from bE.2 c32,gq c32,aj];have hcond:((((s[a].toNat:Int)==47)&&decide (a+1<s.length))&&(((s.getD (a+1) 0).toNat:Int)==47))=decide ((s[a].toNat:Int)=47/\s.drop (a+1)≠[]/\((hd (s.drop (a+1))).toNat:Int)=47):=by
      have e1:hd (s.drop (a+1))=s.getD (a+1) 0:=by
       unfold hd;rcases cP (a+1) s.length with q|q
       ·rw[kg q,getD_lt q];rfl
       ·rw[List.drop_eq_nil_of_le q];simp[List.getD,f8 q]
      have e2:(s.drop (a+1)≠[])↔a+1<s.length:=by
       rw[ne_eq,List.drop_eq_nil_iff];omega
      rw[e1,mz];simp only[cC,dJ,cz,e2];constructor
      ·rintro ⟨⟨x,y⟩,z⟩;exact⟨x,y,z⟩
      ·rintro ⟨x,y,z⟩;exact⟨⟨x,y⟩,z⟩
     have hin:(decide (a+1<s.length)|| !((((s[a].toNat:Int)==47)&&decide (a+1<s.length))==true))=true:=by
      by_cases q:a+1<s.length
      ·simp[q]
      ·simp[q]
     rw[hcond];by_cases qE:(s[a].toNat:Int)=47/\s.drop (a+1)≠[]/\((hd (s.drop (a+1))).toNat:Int)=47
     ·rw[aO qE,dP qE,ae,agD s line hs ad a (by have:=bA;omega) h2];simp only[hin,ae];have hcl:=K0 (s.drop a);rw[List.length_drop]at hcl;have hc1:ga (s.drop a)=ga (s.drop (a+1))+1:=by
       rw[kg h,ga,gq (by omega)]
      have:=ih (a+ga (s.drop a)) line (by omega) (by omega) h3 (by omega);have hk:fJ s (a+ga (s.drop a)) line=(((a+((cK true (s.drop (a+1)) line).1+1):Nat):Int),(cK true (s.drop (a+1)) line).2):=by
       unfold fJ;rw[KZ,hc1,rR];rw[show a+(ga (s.drop (a+1))+1)=a+1+ga (s.drop (a+1)) by omega];congr 2;omega
      rw[hk]at this;exact this
     ·rw[db qE,gq qE,aj];simp only[hin,ae];exact .inl rfl
  ·unfold fJ;rw[List.drop_eq_nil_of_le h,db (show ¬(a:Int)<((s.length:Nat):Int) by omega)];exact .inr rfl
theorem Q2(s:List UInt8)(hs:s.length<=30000)(a:Nat)(line:Int)(h2:a<=s.length)(h3:0<=line)(h4:line+(s.length-a:Nat)<=100000):M.uZ s (a:Int) line=some (fJ s a line):=by
 unfold M.uZ;rcases agE s hs ad a line (by have:=bA;omega) h2 h3 h4 with e|e<;>rw[e]
end M
namespace M
open Go.V (inB bS ad bA)
theorem agF(s:List UInt8)(line:Int)(o:List ai)(hs:s.length<=30000):∀f a,s.length-a<f->a<=s.length->M.xo s line o f (a:Int)=some (s,((a+ga (s.drop a):Nat):Int),line,o):=by
 intro f
 induction f with
 |zero=>intro a h;omega
 |succ f ih=>
  intro a h1 h2;rw[M.xo];rcases cP a s.length with h|h
  ·rw[kg h];unfold ga;simp only[cg,getD_lt h,dH,gV,h,eO,bu,du,eB,cA h (by omega:s.length<2^62)];by_cases c:(s[a].toNat:Int)=10
   ·rw[show((s[a].toNat:Int) !=10)=false by rw[bne_eq_false_iff_eq];exact c,dP c];rfl
   ·rw[show((s[a].toNat:Int) !=10)=true by rw[zj];exact c,gq c,ae,ae,ih (a+1) (by omega) (by omega)];congr 4;omega
  ·rw[List.drop_eq_nil_of_le h];have e:decide ((a:Int)<((s.length:Nat):Int))=false:=by rw[dR];omega
   simp only[e,cr,aj,iz,ak,ae,ga,Nat.add_zero,de,cO,rI,bq,nj,dJ];simp
theorem pre2(s:List UInt8)(hs:s.length<=30000)(a:Nat)(x y:UInt8)(h:a<s.length):
 M.strings_HasPrefix (List.drop a (List.take s.length s)) [x,y]=some (decide (s[a]=x/\s.drop (a+1)≠[]/\hd (s.drop (a+1))=y)):=by
 have e0:List.drop a (List.take s.length s)=s[a]::s.drop (a+1):=by
  rw[zf,kg h]
 rw[e0];unfold M.strings_HasPrefix M.Es;generalize s[a]=c;cases hd0:s.drop (a+1)with
 |nil=>simp[bS]
 |cons d r=>
  have e1:decide ((([x,y].length:Nat):Int)<=(((c::d::r).length:Nat):Int))=true:=by rw[cz];simp only[aU,cu];omega
  have e2:bS 0 (([x,y].length:Nat):Int) (c::d::r).length=true:=by
   unfold bS;simp only[cC,cz];simp only[aU,cu];omega
  simp only[e1,e2,du,ak,ae,bu,al,aw];congr 1;rw[mz,dJ,cz];show[c,d]=[x,y]↔_
  simp[hd]
theorem toNat_eq{a b:UInt8}:(a.toNat:Int)=(b.toNat:Int)↔a=b:=by
 rw[Int.ofNat_inj];exact UInt8.toNat_inj
theorem agG(s:List UInt8)(o:List ai)(hs:s.length<=30000):∀(f a:Nat)(line:Int),s.length-a<f->a<=s.length->0<=line->line+(s.length-a:Nat)<=100000->
 M.qF f s (a:Int) line o=some (.inl (s,(fJ s a line).1,(fJ s a line).2,o))\/M.qF f s (a:Int) line o=some (.inr (s,(fJ s a line).1,(fJ s a line).2,o)):=by
 intro f
 induction f with
 |zero=>intro a l h;omega
 |succ f ih=>
  intro a line h1 h2 h3 h4;rw[M.qF];rcases cP a s.length with h|h
  ·have w1:=cA h (by omega:s.length<2^62);have w2:Go.IntKind.wrap .i64 (line+1)=line+1:=wrap_i64 (by omega) (by omega);have hp:=pre2 s hs a 47 47 h;have hsl:bS (a:Int) ((s.length:Nat):Int) s.length=true:=by unfold bS;simp only[cC,cz];omega
   unfold fJ;rw[kg h];unfold cK;simp only[hp,hsl,cg,getD_lt h,dH,gV,h,eO,bu,du,eB,ak,ae,w1,w2,aw,al];by_cases c10:(s[a].toNat:Int)=10
   ·rw[show((s[a].toNat:Int)==10)=true from dJ.2 c10,dP c10,ae];have:=ih (a+1) (line+1) (by omega) (by omega) (by omega) (by omega);unfold fJ at this;rw[show a+1+(cK false (s.drop (a+1)) (line+1)).1=a+((cK false (s.drop (a+1)) (line+1)).1+1) by omega]at this;exact this
   ·rw[show((s[a].toNat:Int)==10)=false from bE.2 c10,gq c10,aj];by_cases c32:(s[a].toNat:Int)=32
    ·rw[show((s[a].toNat:Int)==32)=true from dJ.2 c32,dP c32,ae];have:=ih (a+1) line (by omega) (by omega) (by omega) (by omega);unfold fJ at this;rw[show a+1+(cK false (s.drop (a+1)) line).1=a+((cK false (s.drop (a+1)) line).1+1) by omega]at this;exact this
    ·rw[show((s[a].toNat:Int)==32)=false from bE.2 c32,gq c32,aj];have hcond:decide (s[a]=47/\s.drop (a+1)≠[]/\hd (s.drop (a+1))=47)=decide ((s[a].toNat:Int)=47/\s.drop (a+1)≠[]/\((hd (s.drop (a+1))).toNat:Int)=47):=by
      rw[js];have e1:((s[a].toNat:Int)=47)↔s[a]=47:=toNat_eq (b:=47);have e2:(((hd (s.drop (a+1))).toNat:Int)=47)↔hd (s.drop (a+1))=47:=toNat_eq (b:=47);rw[e1,e2]
     rw[hcond];by_cases qE:(s[a].toNat:Int)=47/\s.drop (a+1)≠[]/\((hd (s.drop (a+1))).toNat:Int)=47
     ·rw[aO qE,dP qE,ae,agF s line o hs ad a (by have:=bA;omega) h2];simp only[ae];have hcl:=K0 (s.drop a);rw[List.length_drop]at hcl;have hc1:ga (s.drop a)=ga (s.drop (a+1))+1:=by
       rw[kg h,ga,gq (by omega)]
      have:=ih (a+ga (s.drop a)) line (by omega) (by omega) h3 (by omega);have hk:fJ s (a+ga (s.drop a)) line=(((a+((cK true (s.drop (a+1)) line).1+1):Nat):Int),(cK true (s.drop (a+1)) line).2):=by
       unfold fJ;rw[KZ,hc1,rR];rw[show a+(ga (s.drop (a+1))+1)=a+1+ga (s.drop (a+1)) by omega];congr 2;omega
      rw[hk]at this;exact this
     ·rw[db qE,gq qE,aj];simp only[ae];exact .inl rfl
  ·unfold fJ;rw[List.drop_eq_nil_of_le h,db (show ¬(a:Int)<((s.length:Nat):Int) by omega)];exact .inr rfl
theorem Q3(s:List UInt8)(o:List ai)(hs:s.length<=30000)(a:Nat)(line:Int)(h2:a<=s.length)(h3:0<=line)(h4:line+(s.length-a:Nat)<=100000):M.u0 s (a:Int) line o=some (s,(fJ s a line).1,(fJ s a line).2,o):=by
 unfold M.u0;rcases agG s o hs ad a line (by have:=bA;omega) h2 h3 h4 with e|e<;>rw[e]
def iT:List UInt8->Nat
 |[]=>0
 |c::r=>if(ie c||fB c)||((decide ((c.toNat:Int)=45)&&decide (r≠[]))&&(ie (hd r)||fB (hd r)))then iT r+1 else 0
def iK:List UInt8->Nat
 |[]=>0
 |c::r=>if fB c||((decide ((c.toNat:Int)=46)&&decide (r≠[]))&&fB (hd r))then iK r+1 else 0
theorem K1:∀l:List UInt8,iT l<=l.length
 |[]=>cw _
 |c::r=>by
  unfold iT;have:=K1 r;split
  ·simp only[aU];omega
  ·omega
theorem K2:∀l:List UInt8,iK l<=l.length
 |[]=>cw _
 |c::r=>by
  unfold iK;have:=K2 r;split
  ·simp only[aU];omega
  ·omega
theorem zT(s:List UInt8)(a:Nat):hd (s.drop (a+1))=s.getD (a+1) 0:=by
 unfold hd;rcases cP (a+1) s.length with q|q
 ·rw[kg q,getD_lt q];rfl
 ·rw[List.drop_eq_nil_of_le q];simp[List.getD,f8 q]
theorem Et(s:List UInt8)(a:Nat):decide (s.drop (a+1)≠[])=decide (a+1<s.length):=by
 rw[js,ne_eq,List.drop_eq_nil_iff];omega
theorem agH(s:List UInt8)(hs:s.length<=30000):∀(f a:Nat),s.length-a<f->a<=s.length->
 M.u4 s f (a:Int)=some (.inl ((a+iT (s.drop a):Nat):Int))\/M.u4 s f (a:Int)=some (.inr ((a+iT (s.drop a):Nat):Int)):=by
 intro f
 induction f with
 |zero=>intro a h;omega
 |succ f ih=>
  intro a h1 h2;rw[M.u4];rcases cP a s.length with h|h
  ·have w1:=cA h (by omega:s.length<2^62);rw[kg h];unfold iT;rw[zT,Et];simp only[cg,getD_lt h,dH,gV,h,eO,bu,du,eB,ak,ae,w1];have eL:∀c:UInt8,(decide ((97:Int)<=(c.toNat:Int))&&decide ((c.toNat:Int)<=122))=ie c:=fun c=>rfl
   have eD:∀c:UInt8,(decide ((48:Int)<=(c.toNat:Int))&&decide ((c.toNat:Int)<=57))=fB c:=fun c=>rfl
   simp only[eL,eD];have e45:((s[a].toNat:Int)==45)=decide ((s[a].toNat:Int)=45):=by rw[mz,dJ,cz]
   rw[e45];have ih':=ih (a+1) (by omega) (by omega);rw[show a+1+iT (s.drop (a+1))=a+(iT (s.drop (a+1))+1) by omega]at ih';generalize s.getD (a+1) 0=d;generalize decide (a+1<s.length)=b1;generalize decide ((s[a].toNat:Int)=45)=b2;cases ie s[a]<;>cases fB s[a]<;>cases b1<;>cases b2<;>cases ie d<;>cases fB d<;>first|exact ih'|exact .inl rfl
  ·rw[List.drop_eq_nil_of_le h,db (show ¬(a:Int)<((s.length:Nat):Int) by omega)];exact .inr rfl
theorem agI(s:List UInt8)(hs:s.length<=30000):∀(f a:Nat),s.length-a<f->a<=s.length->
 M.u6 s f (a:Int)=some (.inl ((a+iK (s.drop a):Nat):Int))\/M.u6 s f (a:Int)=some (.inr ((a+iK (s.drop a):Nat):Int)):=by
 intro f
 induction f with
 |zero=>intro a h;omega
 |succ f ih=>
  intro a h1 h2;rw[M.u6];rcases cP a s.length with h|h
  ·have w1:=cA h (by omega:s.length<2^62);rw[kg h];unfold iK;rw[zT,Et];simp only[cg,getD_lt h,dH,gV,h,eO,bu,du,eB,ak,ae,w1];have eD:∀c:UInt8,(decide ((48:Int)<=(c.toNat:Int))&&decide ((c.toNat:Int)<=57))=fB c:=fun c=>rfl
   simp only[eD];have e45:((s[a].toNat:Int)==46)=decide ((s[a].toNat:Int)=46):=by rw[mz,dJ,cz]
   rw[e45];have ih':=ih (a+1) (by omega) (by omega);rw[show a+1+iK (s.drop (a+1))=a+(iK (s.drop (a+1))+1) by omega]at ih';generalize s.getD (a+1) 0=d;generalize decide (a+1<s.length)=b1;generalize decide ((s[a].toNat:Int)=46)=b2;cases fB s[a]<;>cases b1<;>cases b2<;>cases fB d<;>first|exact ih'|exact .inl rfl
  ·rw[List.drop_eq_nil_of_le h,db (show ¬(a:Int)<((s.length:Nat):Int) by omega)];exact .inr rfl
theorem agJ(s:List UInt8)(hs:s.length<=30000)(a:Nat)(h2:a<=s.length):M.zU s (a:Int)=some ((a+iT (s.drop a):Nat):Int):=by
 unfold M.zU;rcases agH s hs ad a (by have:=bA;omega) h2 with e|e<;>rw[e]
theorem agK(s:List UInt8)(hs:s.length<=30000)(a:Nat)(h2:a<=s.length):M.zV s (a:Int)=some ((a+iK (s.drop a):Nat):Int):=by
 unfold M.zV;rcases agI s hs ad a (by have:=bA;omega) h2 with e|e<;>rw[e]
end M
namespace M
open Go.V (inB bS ad bA)
theorem agL(s:List UInt8)(x2 x3:Int)(o:List ai)(hs:s.length<=30000)(a:Nat):M.zW (iv.mk s x2 x3 o) (a:Int)=some ((s.getD a 0).toNat:Int):=by
 unfold M.zW;by_cases h:a<s.length
 ·have e:decide (((s.length:Nat):Int)<=(a:Int))=false:=by rw[dR];omega
  have e2:inB (a:Int) s.length=true:=by rw[dH];simpa using h
  simp only[e,e2,aj,ak,ae,cg]
 ·have e:decide (((s.length:Nat):Int)<=(a:Int))=true:=by rw[cz];omega
  rw[show s.getD a 0=0 by simp[List.getD,f8 (Nat.le_of_not_lt h)]];simp only[e,ae];rfl
theorem agM:ie 0=false:=by decide
theorem agN:fB 0=false:=by decide
def xp(word:Bool)(l:List UInt8):Nat:=bif word then iT l else iK l
theorem getD_none{s:List UInt8}{a:Nat}(h:¬a<s.length):s.getD a 0=0:=by simp[List.getD,f8 (Nat.le_of_not_lt h)]
theorem agO(s:List UInt8)(x2 x3:Int)(o:List ai)(word:Bool)(hs:s.length<=30000):∀(f a:Nat),s.length-a<f->a<=s.length->
 M.xq (iv.mk s x2 x3 o) word f (a:Int)=some ((a+xp word (s.drop a):Nat):Int):=by
 intro f
 induction f with
 |zero=>intro a h;omega
 |succ f ih=>
  intro a h1 h2;rw[M.xq];rcases cP a s.length with h|h
  ·have w1:=cA h (by omega:s.length<2^62);rw[kg h];have ih':=ih (a+1) (by omega) (by omega);have eL:∀c:UInt8,(decide ((97:Int)<=(c.toNat:Int))&&decide ((c.toNat:Int)<=122))=ie c:=fun c=>rfl
   have eD:∀c:UInt8,(decide ((48:Int)<=(c.toNat:Int))&&decide ((c.toNat:Int)<=57))=fB c:=fun c=>rfl
   simp only[w1,agL s x2 x3 o hs,aw,al,cg,getD_lt h,dH,gV,h,eO,bu,eB,ak,ae,eL,eD];have e45:((s[a].toNat:Int)==45)=decide ((s[a].toNat:Int)=45):=by rw[mz,dJ,cz]
   have e46:((s[a].toNat:Int)==46)=decide ((s[a].toNat:Int)=46):=by rw[mz,dJ,cz]
   rw[e45,e46];have hz:¬a+1<s.length->ie (s.getD (a+1) 0)=false/\fB (s.getD (a+1) 0)=false:=fun q=>by rw[getD_none q];exact⟨agM,agN⟩
   have hz1:decide (a+1<s.length)=false->ie (s.getD (a+1) 0)=false/\fB (s.getD (a+1) 0)=false:=fun q=>hz (by simpa using q)
   cases word
   ·simp only[xp,aj]at ih'⊢;rw[show a+1+iK (s.drop (a+1))=a+(iK (s.drop (a+1))+1) by omega]at ih';unfold iK;rw[zT,Et];generalize s.getD (a+1) 0=d at*;generalize decide (a+1<s.length)=b1 at*;generalize decide ((s[a].toNat:Int)=46)=b2;cases b1
    ·rw[(hz1 rfl).2];cases fB s[a]<;>cases b2<;>first|exact ih'|rfl
    ·cases fB s[a]<;>cases b2<;>cases fB d<;>first|exact ih'|rfl
   ·simp only[xp,ae]at ih'⊢;rw[show a+1+iT (s.drop (a+1))=a+(iT (s.drop (a+1))+1) by omega]at ih';unfold iT;rw[zT,Et];generalize s.getD (a+1) 0=d at*;generalize decide (a+1<s.length)=b1 at*;generalize decide ((s[a].toNat:Int)=45)=b2;cases b1
    ·rw[(hz1 rfl).1,(hz1 rfl).2];cases ie s[a]<;>cases fB s[a]<;>cases b2<;>first|exact ih'|rfl
    ·cases ie s[a]<;>cases fB s[a]<;>cases b2<;>cases ie d<;>cases fB d<;>first|exact ih'|rfl
  ·rw[List.drop_eq_nil_of_le h,db (show ¬(a:Int)<((s.length:Nat):Int) by omega)];cases word<;>rfl
theorem agP(s:List UInt8)(x2 x3:Int)(o:List ai)(hs:s.length<=30000)(a:Nat)(h:a<s.length):M.xr (iv.mk s x2 x3 o) (a:Int)=some ((a+1+xp (ie s[a]) (s.drop (a+1)):Nat):Int):=by
 unfold M.xr;have w1:=cA h (by omega:s.length<2^62);have eL:(decide ((97:Int)<=(s[a].toNat:Int))&&decide ((s[a].toNat:Int)<=122))=ie s[a]:=rfl;have e:=agO s x2 x3 o (ie s[a]) hs ad (a+1) (by have:=bA;omega) (by omega);have hin:inB (a:Int) s.length=true:=by rw[dH];simpa using h
 simp only[cg,getD_lt h,eL,w1,e,hin,ak,ae]
def sk:List UInt8:=[123,125,40,41,60,62,44,59,58,61,46,47,64,95]
def isS(c:UInt8):Bool:=sk.any fun x=>x==c
theorem Q4:∀(l:List UInt8)(c:UInt8),decide ((0:Int)<=Go.Lib.indexByte l c)=l.any fun x=>x==c
 |[],c=>rfl
 |b::l,c=>by
  have ih:=Q4 l c;have hg:=Go.Lib.indexByte_ge l c;unfold Go.Lib.indexByte;rw[List.any_cons,<-ih];cases hb:(b==c)
  ·rw[gq (by simp),l6];by_cases h:Go.Lib.indexByte l c= -1
   ·rw[dP (by rw[h];rfl),h]
   ·rw[gq (by rw[dJ];exact h),aO (by omega),aO (by omega)]
  ·rw[dP rfl];rfl
theorem agQ(c:UInt8):decide ((0:Int)<=M.zS [(123:UInt8),(125:UInt8),(40:UInt8),(41:UInt8),(60:UInt8),(62:UInt8),(44:UInt8),(59:UInt8),(58:UInt8),(61:UInt8),(46:UInt8),(47:UInt8),(64:UInt8),(95:UInt8)] ((c.toNat:Nat):Int))=isS c:=by
 unfold M.zS isS sk;rw[cg,show c.toNat.toUInt8=c from UInt8.ofNat_toNat];exact Q4 _ c
theorem agR(c:UInt8):M.zX ((c.toNat:Nat):Int)=some (isS c):=by
 have e:=K3 (p:=fun x:UInt8=>x==c) (F:=M.sn ((c.toNat:Nat):Int) sk) (e:=()) (fun _=>true) sk (by decide) (fun f k hk=>by
  rw[M.sn];have hb:(((sk[k].toNat:Nat):Int)==((c.toNat:Nat):Int))=(sk[k]==c):=by
   rw[mz,dJ,dJ];exact toNat_eq
  simp only[getD_lt hk,cg,dH,gV,hk,eO,ae,eB,hb,cA hk (by decide:sk.length<2^62)]) (fun f=>by
  rw[M.sn];simp)
 unfold M.zX isS;rw[show M.sn ((c.toNat:Nat):Int) [(123:UInt8),(125:UInt8),(40:UInt8),(41:UInt8),(60:UInt8),(62:UInt8),(44:UInt8),(59:UInt8),(58:UInt8),(61:UInt8),(46:UInt8),(47:UInt8),(64:UInt8),(95:UInt8)] ad 0=_ from e,agS];cases sk.findIdx? (fun x=>x==c)<;>rfl
def gA(c:UInt8)(r:List UInt8):Int×Nat:=
 bif ie c then(1,1+iT r)else bif fB c then(2,1+iK r)else bif decide (c=45/\r≠[]/\hd r=62)then(3,2)else bif isS c then(3,1)else(0,0)
theorem Q5(c:UInt8)(r:List UInt8):(gA c r).2<=1+r.length:=by
 unfold gA;have h1:=K1 r;have h2:=K2 r;cases ie c
 ·cases fB c
  ·cases hc:decide (c=45/\r≠[]/\hd r=62)
   ·cases isS c<;>simp
   ·rw[cz]at hc;have:0<r.length:=List.length_pos_iff.2 hc.2.1;simp only[aj,ae];omega
  ·simp only[aj,ae];omega
 ·simp only[ae];omega
theorem K4(c:UInt8)(r:List UInt8)(h:(gA c r).1≠0):1<=(gA c r).2:=by
 unfold gA at h⊢;cases h1:ie c
 ·cases h2:fB c
  ·cases hc:decide (c=45/\r≠[]/\hd r=62)
   ·cases hS:isS c
    ·rw[h1,h2,hc,hS]at h;exact(h rfl).elim
    ·simp
   ·simp
  ·simp
 ·simp
theorem agT(s:List UInt8)(x3:Int)(o:List ai)(hs:s.length<=30000)(a:Nat)(h:a<s.length):
 M.zY (iv.mk s (a:Int) x3 o)=some ((gA s[a] (s.drop (a+1))).1,bif(gA s[a] (s.drop (a+1))).1==0 then 0 else((a+(gA s[a] (s.drop (a+1))).2:Nat):Int)):=by
 unfold M.zY gA;have eL:(decide ((97:Int)<=(s[a].toNat:Int))&&decide ((s[a].toNat:Int)<=122))=ie s[a]:=rfl;have eD:(decide ((48:Int)<=(s[a].toNat:Int))&&decide ((s[a].toNat:Int)<=57))=fB s[a]:=rfl;have hin:inB (a:Int) s.length=true:=by rw[dH];simpa using h
 have hp:=pre2 s hs a 45 62 h;have hsl:bS (a:Int) ((s.length:Nat):Int) s.length=true:=by unfold bS;simp only[cC,cz];omega
 have w1:=cA h (by omega:s.length<2^62);have w2:Go.IntKind.wrap .i64 ((a:Int)+2)=((a+2:Nat):Int):=by rw[wrap_i64 (by omega) (by omega)];omega
 simp only[cg,getD_lt h,eL,eD,agP s _ x3 o hs a h,hp,hsl,hin,w1,w2,agQ,aw,al,ak,ae];cases hl:ie s[a]
 ·cases hd':fB s[a]
  ·simp only[aj];cases decide (s[a]=45/\s.drop (a+1)≠[]/\hd (s.drop (a+1))=62)
   ·cases isS s[a]<;>rfl
   ·rfl
  ·simp only[aj,ae,xp];rw[show a+1+iK (s.drop (a+1))=a+(1+iK (s.drop (a+1))) by omega];rfl
 ·simp only[ae,xp];rw[show a+1+iT (s.drop (a+1))=a+(1+iT (s.drop (a+1))) by omega];rfl
def nH(s:List UInt8)(a n:Nat):List UInt8:=(s.drop a).take n
theorem Eu(s:List UInt8)(a n:Nat):List.drop a (List.take (a+n) s)=nH s a n:=by
 unfold nH;rw[List.drop_take];congr 1;omega
theorem agU(s:List UInt8)(hs:s.length<=30000)(a:Nat)(h:a<s.length):
 M.zZ s (a:Int)=some (bif(gA s[a] (s.drop (a+1))).1==0 then(ai.mk 0 [] 0,0)else(ai.mk (gA s[a] (s.drop (a+1))).1 (nH s a (gA s[a] (s.drop (a+1))).2) 0,((a+(gA s[a] (s.drop (a+1))).2:Nat):Int))):=by
 unfold M.zZ gA;have eL:(decide ((97:Int)<=(s[a].toNat:Int))&&decide ((s[a].toNat:Int)<=122))=ie s[a]:=rfl;have eD:(decide ((48:Int)<=(s[a].toNat:Int))&&decide ((s[a].toNat:Int)<=57))=fB s[a]:=rfl;have hin:inB (a:Int) s.length=true:=by rw[dH];simpa using h
 have w1:=cA h (by omega:s.length<2^62);have w2:Go.IntKind.wrap .i64 ((a:Int)+2)=((a+2:Nat):Int):=by rw[wrap_i64 (by omega) (by omega)];omega
 have hw:=agJ s hs a (by omega);have hn:=agK s hs a (by omega);simp only[cg,getD_lt h,eL,eD,hin,hw,hn,w1,w2,agR,aw,al,ak,ae];have hlen:(s.drop (a+1)).length=s.length-(a+1):=List.length_drop;cases hl:ie s[a]
 ·cases hd':fB s[a]
  ·simp only[aj];have hcond:(((((s[a].toNat:Nat):Int)==45)&&decide (((a+1:Nat):Int)<((s.length:Nat):Int)))&&((((s.getD (a+1) 0).toNat:Nat):Int)==62))=decide (s[a]=45/\s.drop (a+1)≠[]/\hd (s.drop (a+1))=62):=by
    have e1:((s[a].toNat:Int)=45)↔s[a]=45:=toNat_eq (b:=45);have e3:(((s.getD (a+1) 0).toNat:Int)=62)↔s.getD (a+1) 0=62:=toNat_eq (b:=62);have e2:(s.drop (a+1)≠[])↔a+1<s.length:=by
     rw[ne_eq,List.drop_eq_nil_iff];omega
    rw[zT,mz];simp only[cC,dJ,cz,e1,e2,e3,gV];constructor
    ·rintro ⟨⟨x,y⟩,z⟩;exact⟨x,y,z⟩
    ·rintro ⟨x,y,z⟩;exact⟨⟨x,y⟩,z⟩
   have hin2:(inB ((a+1:Nat):Int) s.length|| !(((((s[a].toNat:Nat):Int)==45)&&decide (((a+1:Nat):Int)<((s.length:Nat):Int)))==true))=true:=by
    rw[dH];by_cases q:a+1<s.length
    ·simp[q]
    ·have:decide (((a+1:Nat):Int)<(s.length:Int))=false:=by rw[dR];omega
     rw[this,Bool.and_false];simp
   have hsl1:bS (a:Int) ((a+1:Nat):Int) s.length=true:=by unfold bS;simp only[cC,cz];omega
   rw[hcond,hin2,hsl1];cases hc:decide (s[a]=45/\s.drop (a+1)≠[]/\hd (s.drop (a+1))=62)with
   |false=>
    cases isS s[a]
    ·rfl
    ·rw[Eu];rfl
   |true=>
    rw[cz]at hc;have hT:nH s a 2=[45,62]:=by
     unfold nH;rw[kg h,hc.1];cases hq:s.drop (a+1)with
     |nil=>exact absurd hq hc.2.1
     |cons d r=>
      have:=hc.2.2;rw[hq]at this;show(45:UInt8)::[d]=[45,62]
      rw[show d=62 from this]
    simp only[ae,hT];rfl
  ·simp only[aj,ae];have e:iK (s.drop a)=1+iK (s.drop (a+1)):=by
    rw[kg h,iK,dP (by rw[hd',du])];omega
   have hle:=K2 (s.drop (a+1));have hsl:bS (a:Int) ((a+(1+iK (s.drop (a+1))):Nat):Int) s.length=true:=by unfold bS;simp only[cC,cz];omega
   rw[e,hsl,Eu];rfl
 ·simp only[ae];have e:iT (s.drop a)=1+iT (s.drop (a+1)):=by
   rw[kg h,iT,dP (by rw[hl,du,du])];omega
  have hle:=K1 (s.drop (a+1));have hsl:bS (a:Int) ((a+(1+iT (s.drop (a+1))):Nat):Int) s.length=true:=by unfold bS;simp only[cC,cz];omega
  rw[e,hsl,Eu];rfl
end M
namespace M
open Go.V (inB bS ad bA)
theorem u7:∀(b:Bool)(l:List UInt8)(n:Int),(cK b l n).2<=n+((cK b l n).1:Int)
 |b,[],n=>by cases b<;>simp[cK]
 |true,c::r,n=>by
  unfold cK;have h1:=u7 false r (n+1);have h2:=u7 true r n;split
  ·simp only;omega
  ·simp only;omega
 |false,c::r,n=>by
  unfold cK;have h1:=u7 false r (n+1);have h2:=u7 true r n;have h3:=u7 false r n;split
  ·simp only;omega
  ·split
   ·simp only;omega
   ·split
    ·simp only;omega
    ·simp only;omega
def jy(s:List UInt8):Nat->Nat->Int->List ai->(Int×Int)⊕(Int×List ai)
 |0,_,_,_=>.inl (0,0)
 |n+1,a,line,out=>if a<s.length then
   if(gA (s.getD a 0) (s.drop (a+1))).1=0 then .inl (line,6)else if out.length=4000 then .inl (line,4)
   else jy s n (a+(gA (s.getD a 0) (s.drop (a+1))).2+(cK false (s.drop (a+(gA (s.getD a 0) (s.drop (a+1))).2)) line).1) (cK false (s.drop (a+(gA (s.getD a 0) (s.drop (a+1))).2)) line).2
    (out++[ai.mk (gA (s.getD a 0) (s.drop (a+1))).1 (nH s a (gA (s.getD a 0) (s.drop (a+1))).2) line])
  else .inr (line,out)
theorem agV(s:List UInt8)(hs:s.length<=30000):∀(f a:Nat)(line:Int)(out:List ai),s.length-a<f->a<=s.length->0<=line->line<=50000+(a:Int)->out.length<=4000->
 M.xt s f (a:Int) line out=some (match jy s f a line out with
   |.inl x=>.inl (x.1,x.2,[])
   |.inr y=>.inr y):=by
 intro f
 induction f with
 |zero=>intro a l o h;omega
 |succ f ih=>
  intro a line out h1 h2 h3 h4 ho;rw[M.xt,jy];rcases cP a s.length with h|h
  ·rw[dP h,aO (show(a:Int)<((s.length:Nat):Int) by omega),ae,agU s hs a h,getD_lt h];have hle:=Q5 s[a] (s.drop (a+1));have hpos:=K4 s[a] (s.drop (a+1));rw[List.length_drop]at hle;generalize gA s[a] (s.drop (a+1))=x at*;by_cases hx:x.1=0
   ·rw[dP hx,show(x.1==0)=true from dJ.2 hx];rfl
   ·have hp:=hpos hx;have hne:(((a+x.2:Nat):Int)==0)=false:=by rw[bE];omega
    have hsk:=Q2 s hs (a+x.2) line (by omega) h3 (by omega);have hcl:=qC false (s.drop (a+x.2)) line;have hcn:=u7 false (s.drop (a+x.2)) line;rw[List.length_drop]at hcl;rw[gq hx,show(x.1==0)=false from bE.2 hx];simp only[aj,aw,al,hne,ak,ae];by_cases mL:out.length=4000
    ·rw[dP mL,show(((out.length:Nat):Int)==4000)=true by rw[dJ];omega];rfl
    ·rw[gq mL,show(((out.length:Nat):Int)==4000)=false by rw[bE];omega];have hc:∀t:ai,decide (out.length+[t].length<=1073741824)=true:=fun t=>by rw[cz,List.length_singleton];omega
     simp only[aj,hsk,hc,aw,al,ak,ae];unfold fJ;exact ih _ _ _ (by omega) (by omega) (by omega) (by omega) (by rw[aM,List.length_singleton];omega)
  ·rw[gq (by omega),db (show ¬(a:Int)<((s.length:Nat):Int) by omega)];rfl
theorem agW(s:List UInt8)(hs:s.length<=30000):∀(f a:Nat)(line:Int)(out:List ai),s.length-a<f->a<=s.length->0<=line->line<=50000+(a:Int)->out.length<=4000->
 ∃a':Int,M.xu s f s (a:Int) line out=some (match jy s f a line out with
  |.inl x=>.inl (x.1,x.2)
  |.inr y=>.inr (s,a',y.1,y.2)):=by
 intro f
 induction f with
 |zero=>intro a l o h;omega
 |succ f ih=>
  intro a line out h1 h2 h3 h4 ho;rw[M.xu,jy];rcases cP a s.length with h|h
  ·rw[dP h,aO (show(a:Int)<((s.length:Nat):Int) by omega),ae,agT s line out hs a h,getD_lt h];have hle:=Q5 s[a] (s.drop (a+1));have hpos:=K4 s[a] (s.drop (a+1));rw[List.length_drop]at hle;generalize gA s[a] (s.drop (a+1))=x at*;by_cases hx:x.1=0
   ·rw[dP hx];simp only[aw,al,show(x.1==0)=true from dJ.2 hx,ae,ak];exact⟨0,trivial⟩
   ·have hp:=hpos hx;have hsk:=Q3 s (out++[ai.mk x.1 (nH s a x.2) line]) hs (a+x.2) line (by omega) h3 (by omega);have hcl:=qC false (s.drop (a+x.2)) line;have hcn:=u7 false (s.drop (a+x.2)) line;rw[List.length_drop]at hcl;rw[gq hx];simp only[aw,al,show(x.1==0)=false from bE.2 hx,aj,ae,ak];by_cases mL:out.length=4000
    ·rw[dP mL,show(((out.length:Nat):Int)==4000)=true by rw[dJ];omega];exact⟨0,rfl⟩
    ·rw[gq mL,show(((out.length:Nat):Int)==4000)=false by rw[bE];omega];have hc:∀t:ai,decide (out.length+[t].length<=1073741824)=true:=fun t=>by rw[cz,List.length_singleton];omega
     have hsl:bS (a:Int) ((a+x.2:Nat):Int) s.length=true:=by unfold bS;simp only[cC,cz];omega
     simp only[aj,cg,Eu,hsk,hc,hsl,aw,al,ak,ae];unfold fJ;exact ih _ _ _ (by omega) (by omega) (by omega) (by omega) (by rw[aM,List.length_singleton];omega)
  ·rw[gq (by omega),db (show ¬(a:Int)<((s.length:Nat):Int) by omega)];exact⟨_,rfl⟩
theorem Ew(s:List UInt8):∀(f a:Nat)(line:Int)(out:List ai)(y:Int×List ai),out.length<=4000->jy s f a line out=.inr y->y.2.length<=4000
 |0,a,line,out,y,ho,h=>by cases h
 |f+1,a,line,out,y,ho,h=>by
  unfold jy at h;split at h
  ·split at h
   ·cases h
   ·split at h
    ·cases h
    ·exact Ew s f _ _ _ y (by rw[aM,List.length_singleton];omega) h
  ·cases h;exact ho
noncomputable def eH(s:List UInt8):List ai×Int×Int:=
 if 30000<s.length then([],0,4)else match jy s ad (cK false s 1).1 (cK false s 1).2 []with
  |.inl x=>([],x.1,x.2)
  |.inr y=>(y.2++[ai.mk 4 [] y.1],0,0)
theorem agX(s:List UInt8):M.Aa s=some (eH s):=by
 unfold M.Aa eH;by_cases h:30000<s.length
 ·rw[dP h,aO (show(30000:Int)<((s.length:Nat):Int) by omega)];rfl
 ·rw[gq h,db (show ¬(30000:Int)<((s.length:Nat):Int) by omega)];have hsk:M.uZ s 0 1=some (fJ s 0 1):=Q2 s (by omega) 0 1 (jr _) (by omega) (by omega);have hcl:=qC false s 1;have e:fJ s 0 1=((((cK false s 1).1:Nat):Int),(cK false s 1).2):=by unfold fJ;rw[ll,iC]
  have ht:=agV s (by omega) ad (cK false s 1).1 (cK false s 1).2 [] (by have:=bA;omega) hcl.1 (by omega) (by omega) (by simp);have hlen:=Ew s ad (cK false s 1).1 (cK false s 1).2 [];rw[hsk,e];simp only[aj,aw,al,ht,ak];generalize jy s ad (cK false s 1).1 (cK false s 1).2 []=r at*;cases r with
  |inl x=>rfl
  |inr y=>
   have:=hlen y (by simp) rfl;have hc:∀t:ai,decide (y.2.length+[t].length<=1073741824)=true:=fun t=>by rw[cz,List.length_singleton];omega
   simp only[hc,ak,ae]
theorem agY(s:List UInt8):M.Ab s=some (eH s):=by
 unfold M.Ab eH;by_cases h:30000<s.length
 ·rw[dP h,aO (show(30000:Int)<((s.length:Nat):Int) by omega)];rfl
 ·rw[gq h,db (show ¬(30000:Int)<((s.length:Nat):Int) by omega)];have hsk:M.u0 s 0 1 []=some (s,(fJ s 0 1).1,(fJ s 0 1).2,[]):=Q3 s [] (by omega) 0 1 (jr _) (by omega) (by omega);have hcl:=qC false s 1;have e:fJ s 0 1=((((cK false s 1).1:Nat):Int),(cK false s 1).2):=by unfold fJ;rw[ll,iC]
  obtain⟨a',ht⟩:=agW s (by omega) ad (cK false s 1).1 (cK false s 1).2 [] (by have:=bA;omega) hcl.1 (by omega) (by omega) (by simp);have hlen:=Ew s ad (cK false s 1).1 (cK false s 1).2 [];rw[hsk,e];simp only[aj,aw,al,ht,ak];generalize jy s ad (cK false s 1).1 (cK false s 1).2 []=r at*;cases r with
  |inl x=>rfl
  |inr y=>
   have:=hlen y (by simp) rfl;have hc:∀t:ai,decide (y.2.length+[t].length<=1073741824)=true:=fun t=>by rw[cz,List.length_singleton];omega
   simp only[hc,ak,ae]
def xw(t:ai):Prop:=(t.Kind=1\/t.Kind=2\/t.Kind=3)/\(t.Kind=2->∃c r,t.Text=c::r/\fB c=true)
theorem agZ(s:List UInt8)(a:Nat)(line:Int)(h:a<s.length)(hx:(gA (s.getD a 0) (s.drop (a+1))).1≠0):
 xw (ai.mk (gA (s.getD a 0) (s.drop (a+1))).1 (nH s a (gA (s.getD a 0) (s.drop (a+1))).2) line):=by
 rw[getD_lt h]at hx⊢;unfold gA at hx⊢;unfold xw;cases h1:ie s[a]
 ·cases h2:fB s[a]
  ·cases h3:decide (s[a]=45/\s.drop (a+1)≠[]/\hd (s.drop (a+1))=62)
   ·cases h4:isS s[a]
    ·rw[h1,h2,h3,h4]at hx;exact(hx rfl).elim
    ·exact⟨.inr (.inr rfl),fun q=>by cases q⟩
   ·exact⟨.inr (.inr rfl),fun q=>by cases q⟩
  ·refine⟨.inr (.inl rfl),fun _=>⟨s[a],(s.drop (a+1)).take (iK (s.drop (a+1))),?_,h2⟩⟩;simp only[aj,ae];unfold nH;rw[kg h,DD 1,List.take_succ_cons]
 ·exact⟨.inl rfl,fun q=>by cases q⟩
theorem Q6(s:List UInt8):∀(f a:Nat)(line:Int)(out:List ai)(y:Int×List ai),(∀t∈out,xw t)->jy s f a line out=.inr y->∀t∈y.2,xw t
 |0,a,line,out,y,ho,h=>by cases h
 |f+1,a,line,out,y,ho,h=>by
  unfold jy at h;split at h
  ·rename_i hl;split at h
   ·cases h
   ·rename_i hx;split at h
    ·cases h
    ·refine Q6 s f _ _ _ y (fun t ht=>?_) h;rcases aQ.1 ht with q|q
     ·exact ho t q
     ·rw[iE]at q;rw[q];exact agZ s a line hl hx
  ·cases h;exact ho
structure b9 (l:List ai):Prop where
 ex:∃o e,l=o++[e]/\e.Kind=4/\e.Text=[]/\(∀t∈o,xw t)/\o.length<=4000
theorem K5(s:List UInt8)(h:(eH s).2.2=0):b9 (eH s).1:=by
 unfold eH at h⊢;split at h
 ·cases h
 ·rename_i hl;rw[gq hl];have hlen:=Ew s ad (cK false s 1).1 (cK false s 1).2 [];have hok:=Q6 s ad (cK false s 1).1 (cK false s 1).2 [];have hcode:∀(f a:Nat)(line:Int)(out:List ai)(x:Int×Int),s.length-a<f->jy s f a line out=.inl x->x.2≠0:=fun f=>by
   induction f with
   |zero=>intro a line out x hf;omega
   |succ f ih=>
    intro a line out x hf hx;unfold jy at hx;split at hx
    ·rename_i ha;split at hx
     ·cases hx;intro q;cases q
     ·rename_i hx0;split at hx
      ·cases hx;intro q;cases q
      ·have hp:=K4 _ _ hx0;exact ih _ _ _ x (by omega) hx
    ·cases hx
  have hc:=hcode ad (cK false s 1).1 (cK false s 1).2 [];generalize jy s ad (cK false s 1).1 (cK false s 1).2 []=r at*;cases r with
  |inl x=>exact absurd h (hc x (by have:=bA;omega) rfl)
  |inr y=>exact⟨y.2,_,rfl,rfl,rfl,hok y (by simp) rfl,hlen y (by simp) rfl⟩
end M
namespace M
open Go.V (inB bS ad bA)
theorem b9.pos{l:List ai}(h:b9 l):0<l.length:=by
 obtain⟨o,e,rfl,-⟩:=h.ex;simp
theorem b9.len{l:List ai}(h:b9 l):l.length<=4001:=by
 obtain⟨o,e,rfl,-,-,-,h4⟩:=h.ex;simp;omega
theorem b9.mid{l:List ai}(h:b9 l){k:Nat}(hk:k+1<l.length):xw (l.getD k ai.zero):=by
 obtain⟨o,e,rfl,-,-,ho,-⟩:=h.ex;rw[aM,List.length_singleton]at hk;have hk':k<o.length:=by omega
 rw[getD_lt (show k<(o++[e]).length by rw[aM,List.length_singleton];omega),List.getElem_append_left hk'];exact ho _ (dM hk')
theorem b9.last{l:List ai}(h:b9 l){k:Nat}(hk:k+1=l.length):(l.getD k ai.zero).Kind=4/\(l.getD k ai.zero).Text=[]:=by
 obtain⟨o,e,rfl,h1,h2,-,-⟩:=h.ex;rw[aM,List.length_singleton]at hk;have:k=o.length:=by omega
 subst this;rw[getD_lt (show o.length<(o++[e]).length by simp)];simp[h1,h2]
theorem b9.next{l:List ai}(h:b9 l){k:Nat}(hk:k<l.length)(h4:(l.getD k ai.zero).Kind≠4):k+1<l.length:=by
 rcases cP (k+1) l.length with q|q
 ·exact q
 ·exact absurd (h.last (by omega)).1 h4
def bZ(l:List ai)(k:Nat):ai:=l.getD k ai.zero
def aH(l:List ai)(text:List UInt8)(k:Nat):Bool:=((bZ l k).Kind !=4)&&((bZ l k).Text==text)
def so(text:List UInt8):Prop:=∀c r,text=c::r->fB c=false
theorem ag0{l:List ai}(h:b9 l){k:Nat}(hk:k<l.length){text:List UInt8}(hn:so text):
 ((((bZ l k).Kind==1)||((bZ l k).Kind==3))&&((bZ l k).Text==text))=aH l text k:=by
 unfold aH;by_cases hl:k+1<l.length
 ·obtain⟨h1,h2⟩:=h.mid hl;have e:(l.getD k ai.zero)=bZ l k:=rfl;rw[e]at h1 h2;rcases h1 with q|q|q
  ·rw[q];rfl
  ·rw[q];obtain⟨c,r,ht,hc⟩:=h2 q;have:((bZ l k).Text==text)=false:=by
    rw[bE,ht];intro e;rw[hn c r e.symm]at hc;cases hc
   rw[this,Bool.and_false,Bool.and_false]
  ·rw[q];rfl
 ·have:=(h.last (k:=k) (by omega)).1;have e:(l.getD k ai.zero)=bZ l k:=rfl;rw[e]at this;rw[this];rfl
def ip(l:List ai)(k:Nat)(b:Bool):ar:=ar.mk l (k:Int) b
def sp(l:List ai)(k:Nat)(b:Bool):aC:=aC.mk l (k:Int) b
theorem kh{l:List ai}{k:Nat}(hk:k<l.length):inB (k:Int) l.length=true:=by rw[dH];simpa using hk
theorem Ac{l:List ai}(h:b9 l){k:Nat}(hk:k<l.length){text:List UInt8}(hn:so text)(b:Bool):M.me text (ip l k b)=some (!b&&aH l text k,ip l k b):=by
 unfold M.me ip;have e:=ag0 h hk hn;unfold bZ at e;simp only[kh hk,ak,ae,cg,Bool.and_assoc];rw[<-e]
theorem iU{l:List ai}(h:b9 l){k:Nat}(hk:k<l.length){text:List UInt8}(hn:so text)(b:Bool):M.eI text (ip l k b)=some (bif !b&&aH l text k then(true,ip l (k+1) b)else(false,ip l k b)):=by
 unfold M.eI;rw[Ac h hk hn b];have hlen:=h.len;have w:=cA (k:=k) hk (by omega:l.length<2^62);cases hb:(!b&&aH l text k)
 ·rfl
 ·simp only[aw,al,cO,aj,ak,ae];unfold ip;rw[w]
theorem fe{l:List ai}(h:b9 l){k:Nat}(hk:k<l.length){text:List UInt8}(hn:so text)(b:Bool):M.dj text (ip l k b)=some (bif !b&&aH l text k then ip l (k+1) b else ip l k true):=by
 unfold M.dj;rw[iU h hk hn b];cases (!b&&aH l text k)<;>rfl
theorem cV{l:List ai}(h:b9 l){k:Nat}(hk:k<l.length){text:List UInt8}(hb:aH l text k=true):k+1<l.length:=by
 unfold aH at hb;rw[cC,zj]at hb;exact h.next hk hb.1
theorem K6{l:List ai}(h:b9 l){k:Nat}(hk:k+1<l.length)(b:Bool):M.qG (sp l k b)=some (sp l (k+1) b):=by
 unfold M.qG sp;have hlen:=h.len;have w:=cA (k:=k) (n:=l.length) (by omega) (by omega:l.length<2^62);simp only[w,aO (show((k+1:Nat):Int)<((l.length:Nat):Int) by omega),ae]
theorem lF{l:List ai}{k:Nat}(hk:k<l.length)(b:Bool):M.kP (sp l k b)=some (bZ l k,sp l k b):=by
 unfold M.kP sp bZ;simp only[kh hk,ak,ae,cg]
theorem ag1{l:List ai}{k:Nat}(hk:k<l.length)(text:List UInt8)(b:Bool):M.Ad text (sp l k b)=some (aH l text k,sp l k b):=by
 unfold M.Ad;rw[lF hk b];rfl
theorem fq{l:List ai}(h:b9 l){k:Nat}(hk:k<l.length)(text:List UInt8)(b:Bool):M.dN text (sp l k b)=some (bif !b&&aH l text k then(true,sp l (k+1) b)else(false,sp l k b)):=by
 unfold M.dN;have e:aC.bad (sp l k b)=b:=rfl;rw[e];cases b
 ·simp only[ag1 hk,aw,al,aj,bq,bu];cases hb:aH l text k
  ·rfl
  ·simp only[K6 h (cV h hk hb),aw,al];rfl
 ·rfl
theorem gI{l:List ai}(h:b9 l){k:Nat}(hk:k<l.length)(text:List UInt8)(b:Bool):M.dI text (sp l k b)=some (bif !b&&aH l text k then sp l (k+1) b else sp l k true):=by
 unfold M.dI;rw[fq h hk text b];cases (!b&&aH l text k)<;>rfl
def gW(l:List ai)(k:Nat):Bool:=((bZ l k).Kind==1)&&lG (bZ l k).Text
theorem Ey{l:List ai}(hT:∀t∈l,t.Text.length<=30000){k:Nat}(hk:k<l.length):(bZ l k).Text.length<=1048576:=by
 have:=hT (bZ l k) (by unfold bZ;rw[getD_lt hk];exact dM hk);omega
theorem xx{l:List ai}(h:b9 l)(hT:∀t∈l,t.Text.length<=30000){k:Nat}(hk:k<l.length)(b:Bool):M.gd (sp l k b)=some (bif !b&&gW l k then((bZ l k).Text,sp l (k+1) b)else([],sp l k true)):=by
 have hN:M.Ae (bZ l k).Text=some (lG (bZ l k).Text):=by
  unfold M.Ae;rw[ag2 _ (Ey hT hk)];rfl
 unfold M.gd gW;rw[lF hk b];simp only[aw,al,hN,du,ak,ae];have e:aC.bad (sp l k b)=b:=rfl;rw[e];cases b
 ·cases hk1:((bZ l k).Kind==(1:Int))
  ·rw[show((bZ l k).Kind !=(1:Int))=true by rw[bne,hk1];rfl];rfl
  ·rw[show((bZ l k).Kind !=(1:Int))=false by rw[bne,hk1];rfl];cases lG (bZ l k).Text
   ·rfl
   ·have hn:k+1<l.length:=h.next hk (by
     have:(bZ l k).Kind=1:=by simpa using hk1
     unfold bZ at this;rw[this];decide)
    simp only[K6 h hn,aw,al];rfl
 ·rfl
theorem Ez{l:List ai}(h:b9 l)(hT:∀t∈l,t.Text.length<=30000){k:Nat}(hk:k<l.length)(b:Bool):M.gJ (ip l k b)=some (bif !b&&gW l k then((bZ l k).Text,ip l (k+1) b)else([],ip l k true)):=by
 have hN:=Q7 (bZ l k).Text (Ey hT hk);have hlen:=h.len;have w:=cA (k:=k) hk (by omega:l.length<2^62);have e1:M.Af 1 (ip l k b)=some (bif !b&&gW l k then((bZ l k).Text,ip l (k+1) b)else([],ip l k true)):=by
  unfold M.Af gW ip;have e:l.getD k ai.zero=bZ l k:=rfl;simp only[kh hk,cg,e,hN,w,aw,al];cases b
  ·cases hk1:((bZ l k).Kind==(1:Int))
   ·rw[show((bZ l k).Kind !=(1:Int))=true by rw[bne,hk1];rfl];rfl
   ·rw[show((bZ l k).Kind !=(1:Int))=false by rw[bne,hk1];rfl];cases lG (bZ l k).Text<;>rfl
  ·rfl
 unfold M.gJ;rw[e1];rfl
end M
namespace M
open Go.V (inB bS ad bA)
def words:List (List UInt8):=M.jz.getD []++M.jA.getD []
theorem Ag:words.length=23:=by decide
theorem EA:M.fW=some ([]::words):=by decide
def dO(w:List UInt8):Int:=match words.findIdx? (fun x=>x==w)with
 |some i=>(i:Int)+1
 |none=>0
theorem EB(w:List UInt8):0<=dO w/\dO w<=23:=by
 unfold dO;cases h:words.findIdx? (fun x=>x==w)with
 |none=>simp
 |some i=>
  rw[List.findIdx?_eq_some_iff_getElem]at h;obtain⟨hi,-⟩:=h;rw[Ag]at hi;simp only;omega
theorem Ah:dO []=0:=by decide
theorem EC(w:List UInt8):M.sq w=some (dO w):=by
 have e:=K3 (p:=fun x:List UInt8=>x==w) (F:=M.sr w words) (e:=()) (fun k=>Go.IntKind.wrap .i64 (k+1)) words (by rw[Ag];omega) (fun f k hk=>by
  rw[M.sr];simp only[getD_lt hk,cg,dH,gV,hk,eO,ae,eB,cA hk (by rw[Ag];omega:words.length<2^62)]) (fun f=>by
  rw[M.sr];simp)
 unfold M.sq;rw[show M.sr w ((Option.getD M.jz Inhabited.default)++(Option.getD M.jA Inhabited.default)) ad 0=_ from e];unfold dO;cases h:words.findIdx? (fun x=>x==w)with
 |none=>rfl
 |some i=>
  rw[List.findIdx?_eq_some_iff_getElem]at h;obtain⟨hi,-⟩:=h;have:=cA hi (by rw[Ag];omega:words.length<2^62);simp only[this];rw[show((i+1:Nat):Int)=(i:Int)+1 by omega]
theorem ag3(w:List UInt8):M.Ai w=some (decide (0<dO w)):=by
 unfold M.Ai;rw[EC];rfl
theorem Q8(w:List UInt8):M.va ([]::words) w=some (if w=[]then 0 else if dO w=0 then -1 else dO w):=by
 have hl:([]::words).length=24:=by rw[aU,Ag]
 have e:=K3 (p:=fun x:List UInt8=>w==x) (F:=M.vc ([]::words) w ((([]::words:List (List UInt8)).length:Nat):Int)) (e:=()) (fun k=>k) ([]::words) (by rw[hl];omega) (fun f k hk=>by
  rw[M.vc];simp only[getD_lt hk,cg,dH,gV,hk,eO,ae,eB,cA hk (by rw[hl];omega:([]::words).length<2^62)]) (fun f=>by
  rw[M.vc];simp)
 have hc:(fun x:List UInt8=>w==x)=fun x=>x==w:=funext fun x=>by rw[mz,dJ,dJ];exact eq_comm
 unfold M.va;rw[e,hc,List.findIdx?_cons];by_cases h0:w=[]
 ·rw[h0,dP rfl];rfl
 ·rw[gq h0,gq (by rw[dJ];exact fun q=>h0 q.symm)];unfold dO;cases h:words.findIdx? (fun x=>x==w)with
  |none=>rfl
  |some i=>
   simp only[lx];rw[gq (by omega)];congr 1
theorem ED(w:List UInt8):M.qH w=some (decide (0<dO w)):=by
 unfold M.qH M.EE;rw[EA];simp only[aw,al,Q8,du,ak,ae];by_cases h0:w=[]
 ·rw[h0,Ah];rfl
 ·have hb:=EB w;rw[gq h0,show(w==[])=false from bE.2 h0,bq,bu];by_cases hk:dO w=0
  ·rw[dP hk,hk];rfl
  ·rw[gq hk,aO (by omega),aO (by omega)]
def mM(l:List ai)(k:Nat):Bool:=gW l k&& !decide (0<dO (bZ l k).Text)
def su(l:List ai)(k:Nat):Bool:=((bZ l k).Kind==2)&&sw (bZ l k).Text
theorem K7{l:List ai}(h:b9 l)(hT:∀t∈l,t.Text.length<=30000){k:Nat}(hk:k<l.length)(b:Bool):M.mN (ip l k b)=some (bif !b&&mM l k then((bZ l k).Text,ip l (k+1) b)else([],ip l k true)):=by
 have hN:M.Aj (bZ l k).Text=some (lG (bZ l k).Text&& !decide (0<dO (bZ l k).Text)):=by
  unfold M.Aj;rw[ED,Q7 _ (Ey hT hk)];simp only[aw,al,du,ak,ae]
 have hlen:=h.len;have w:=cA (k:=k) hk (by omega:l.length<2^62);have e1:M.Ak 1 (ip l k b)=some (bif !b&&mM l k then((bZ l k).Text,ip l (k+1) b)else([],ip l k true)):=by
  unfold M.Ak mM gW ip;have e:l.getD k ai.zero=bZ l k:=rfl;simp only[kh hk,cg,e,hN,w,aw,al,Bool.and_assoc];cases b
  ·cases hk1:((bZ l k).Kind==(1:Int))
   ·rw[show((bZ l k).Kind !=(1:Int))=true by rw[bne,hk1];rfl];rfl
   ·rw[show((bZ l k).Kind !=(1:Int))=false by rw[bne,hk1];rfl];cases (lG (bZ l k).Text&& !decide (0<dO (bZ l k).Text))<;>rfl
  ·rfl
 unfold M.mN;rw[e1];rfl
theorem K8{l:List ai}(h:b9 l)(hT:∀t∈l,t.Text.length<=30000){k:Nat}(hk:k<l.length)(b:Bool):M.mO (sp l k b)=some (bif !b&&mM l k then((bZ l k).Text,sp l (k+1) b)else([],sp l k true)):=by
 unfold M.mO mM;rw[lF hk b];simp only[aw,al,ag3,ak];cases hr:decide (0<dO (bZ l k).Text)
 ·simp only[aj,xx h hT hk b,aw,al,ak,ae,bq,eB]
 ·have e:aC.mk (aC.list (sp l k b)) (aC.at_ (sp l k b)) true=sp l k true:=rfl;simp only[ae,e,xx h hT hk true,aw,al,ak,cO,cr,Bool.and_false,aj]
theorem ag4{l:List ai}(h:b9 l)(hT:∀t∈l,t.Text.length<=30000){k:Nat}(hk:k<l.length)(b:Bool):M.sx (ip l k b)=some (bif !b&&su l k then((bZ l k).Text,ip l (k+1) b)else([],ip l k true)):=by
 have hN:=ag5 (bZ l k).Text (Ey hT hk);have hlen:=h.len;have w:=cA (k:=k) hk (by omega:l.length<2^62);have e1:M.Am 2 (ip l k b)=some (bif !b&&su l k then((bZ l k).Text,ip l (k+1) b)else([],ip l k true)):=by
  unfold M.Am su ip;have e:l.getD k ai.zero=bZ l k:=rfl;simp only[kh hk,cg,e,hN,w,aw,al];cases b
  ·cases hk1:((bZ l k).Kind==(2:Int))
   ·rw[show((bZ l k).Kind !=(2:Int))=true by rw[bne,hk1];rfl];rfl
   ·rw[show((bZ l k).Kind !=(2:Int))=false by rw[bne,hk1];rfl];cases sw (bZ l k).Text<;>rfl
  ·rfl
 unfold M.sx;rw[e1];rfl
theorem ag6{l:List ai}(h:b9 l){k:Nat}(hk:k<l.length)(b:Bool):M.sy (sp l k b)=some (bif !b&&su l k then((bZ l k).Text,sp l (k+1) b)else([],sp l k true)):=by
 have hN:=ag7 (bZ l k).Text;unfold M.sy su;rw[lF hk b];simp only[aw,al,hN,du,ak,ae];have e:aC.bad (sp l k b)=b:=rfl;rw[e];cases b
 ·cases hk1:((bZ l k).Kind==(2:Int))
  ·rw[show((bZ l k).Kind !=(2:Int))=true by rw[bne,hk1];rfl];rfl
  ·rw[show((bZ l k).Kind !=(2:Int))=false by rw[bne,hk1];rfl];cases sw (bZ l k).Text
   ·rfl
   ·have hn:k+1<l.length:=h.next hk (by
     have:(bZ l k).Kind=2:=by simpa using hk1
     unfold bZ at this;rw[this];decide)
    simp only[K6 h hn,aw,al];rfl
 ·rfl
end M
namespace M
open Go.V (inB bS ad bA)
inductive PR (α:Type) where
 |ok (v:α) (k:Nat)
 |no (k:Nat)
def PR.bind{α β:Type}(r:PR α)(f:α->Nat->PR β):PR β:=match r with
 |.ok v k=>f v k
 |.no k=>.no k
def cE(l:List ai)(text:List UInt8)(k:Nat):PR Unit:=bif aH l text k then .ok () (k+1)else .no k
def gX(l:List ai)(k:Nat):PR (List UInt8):=bif gW l k then .ok (bZ l k).Text (k+1)else .no k
def mf(l:List ai)(k:Nat):PR (List UInt8):=bif mM l k then .ok (bZ l k).Text (k+1)else .no k
def EF(l:List ai)(k:Nat):PR (List UInt8):=bif su l k then .ok (bZ l k).Text (k+1)else .no k
def d4{α:Type}(l:List ai)(el:Nat->PR α):Nat->List α->Nat->PR (List α)
 |m,acc,k=>match el k with
  |.no k'=>.no k'
  |.ok v k1=>match m with
    |0=>.ok (acc++[v]) k1
    |m+1=>bif aH l [44] k1 then d4 l el m (acc++[v]) (k1+1)else .ok (acc++[v]) k1
def dK:aa:=aa.mk 1 [] [] []
def gK(l:List ai)(K:Int)(term:Nat->PR aa)(k:Nat):PR (List UInt8×List aa):=
 (gX l k).bind fun nm k1=>
   bif K==16 then(cE l [58] k1).bind fun _ k2=>(term k2).bind fun t k3=>.ok (nm,[t]) k3
   else bif K==17 then(bif aH l [40] k1 then(term (k1+1)).bind fun t k3=>(cE l [41] k3).bind fun _ k4=>.ok (nm,[t]) k4 else .ok (nm,[dK]) k1)
   else .ok (nm,[]) k1
def nI(l:List ai)(term:Nat->PR aa)(k:Nat):PR (List aa):=
 bif aH l [60] k then
  (bif aH l [95] (k+1)then .ok dK (k+2)else term (k+1)).bind fun a k1=>
    (bif aH l [44] k1 then term (k1+1)else .ok dK k1).bind fun b k2=>(cE l [62] k2).bind fun _ k3=>.ok [a,b] k3
 else .ok [dK,dK] k
def d5(l:List ai):Nat->Nat->PR aa
 |0,k=>.no k
 |d+1,k=>(gX l k).bind fun w k1=>
  bif dO w==0 then .ok (aa.mk 30 w [] []) k1
  else bif(dO w==12)||((dO w==13)||((dO w==22)||(dO w==23)))then(cE l [60] k1).bind fun _ k2=>(d5 l d k2).bind fun t k3=>(cE l [62] k3).bind fun _ k4=>.ok (aa.mk (dO w) [] [] [t]) k4
  else bif dO w==15 then(cE l [60] k1).bind fun _ k2=>(d4 l (d5 l d) 5 [] k2).bind fun ts k3=>(cE l [62] k3).bind fun _ k4=>.ok (aa.mk (dO w) [] [] ts) k4
  else bif(dO w==20)||(dO w==21)then(cE l [60] k1).bind fun _ k2=>(mf l k2).bind fun nm k3=>(cE l [62] k3).bind fun _ k4=>.ok (aa.mk (dO w) nm [] []) k4
  else bif dO w==14 then(nI l (d5 l d) k1).bind fun ts k2=>.ok (aa.mk (dO w) [] [] ts) k2
  else bif(dO w==16)||((dO w==17)||((dO w==18)||(dO w==19)))then(cE l [123] k1).bind fun _ k2=>(d4 l (gK l (dO w) (d5 l d)) 15 [] k2).bind fun ps k3=>(cE l [125] k3).bind fun _ k4=>.ok (aa.mk (dO w) [] (ps.map (·.1)) (ps.map (·.2)).flatten) k4
  else .ok (aa.mk (dO w) [] [] []) k1
def Out{α β:Type}(l:List ai)(r:PR α)(o:Option β)(F:α->Nat->Bool->β):Prop:=match r with
 |.ok v k=>k<l.length/\o=some (F v k false)
 |.no k=>k<l.length/\∃v,o=some (F v k true)
def RB{α:Type}(b:Bool)(k:Nat)(r:PR α):PR α:=bif b then .no k else r
theorem cU(c:UInt8)(h:fB c=false):so [c]:=fun d r e=>by cases e;exact h
def oO(l:List ai)(rec:Int->ar->Option (aa×ar))(lv:Int)(g:Nat->PR aa):Prop:=
 ∀k b,k<l.length->Out l (RB b k (g k)) (rec lv (ip l k b)) fun v k' b'=>(v,ip l k' b')
theorem mg{α:Type}(l:List α)(x y:α):(l++[x]).set (Int.toNat ((l.length:Nat):Int)) y=l++[y]:=by
 rw[cg,List.set_append_right _ _ (cw _),oD];rfl
theorem lH{α:Type}(l:List α)(x:α):inB ((l.length:Nat):Int) (l++[x]).length=true:=by rw[dH];simp
theorem dL{α:Type}{l:List α}{x:α}(h:l.length<=1000):decide (l.length+[x].length<=1073741824)=true:=by
 rw[cz,List.length_singleton];omega
theorem qI{l:List ai}{rec:Int->ar->Option (aa×ar)}{g:Nat->PR aa}{K lv:Int}{nm:List UInt8}{ls:List (List UInt8)}{ks:List aa}(hr:oO l rec (Go.IntKind.wrap .i64 (lv+1)) g)
 (hks:ks.length<=1000) {k:Nat} (hk:k<l.length) (b:Bool):
 Out l (RB b k (g k)) (M.lI rec K nm lv ls ks l (k:Int) b) fun v k' b'=>(K,nm,lv,l,(k':Int),b',ls,ks++[v]):=by
 have h:=hr k b hk;unfold M.lI;have e:ar.mk l (k:Int) b=ip l k b:=rfl;rw[e];unfold Out at h⊢;cases hg:RB b k (g k)with
 |ok v k'=>
  rw[hg]at h;obtain⟨h1,h2⟩:=h;refine⟨h1,?_⟩;simp only[h2,lH,dL hks,al,aw,ak,ae,mg,aa.aD];rfl
 |no k'=>
  rw[hg]at h;obtain⟨h1,v,h2⟩:=h;refine⟨h1,v,?_⟩;simp only[h2,lH,dL hks,al,aw,ak,ae,mg,aa.aD];rfl
theorem ag8{l:List ai}(hL:b9 l){rec:Int->ar->Option (aa×ar)}{g:Nat->PR aa}{K lv:Int}{nm:List UInt8}{ls:List (List UInt8)}(hr:oO l rec (Go.IntKind.wrap .i64 (lv+1)) g)
 (most:Nat) (hm:most<=100):∀(f m:Nat)(ks:List aa)(k:Nat),m<f->k<l.length->ks.length+(m+1)<=most->
 Out l (d4 l g m ks k) ((M.qJ rec (most:Int) f ((most-m:Nat):Int) (ip l k false) K nm lv ls ks).map fun r=>match r with
  |.inl x=>x
  |.inr x=>x) fun vs k' b'=>(l,(k':Int),b',K,nm,lv,ls,vs):=by
 intro f
 induction f with
 |zero=>intro m ks k h;omega
 |succ f ih=>
  intro m ks k hf hk hks;rw[M.qJ,d4];have eb:ar.bad (ip l k false)=false:=rfl;have el:ar.list (ip l k false)=l:=rfl;have ea:ar.at_ (ip l k false)=(k:Int):=rfl;simp only[eb,el,ea,bq,ae];have cq:=qI (K:=K) (lv:=lv) (nm:=nm) (ls:=ls) (ks:=ks) hr (by omega) hk false;unfold Out at cq;rw[show RB false k (g k)=g k from rfl]at cq;cases hg:g k with
  |no k'=>
   rw[hg]at cq;obtain⟨h1,v,h2⟩:=cq;refine⟨h1,ks++[v],?_⟩;simp only[h2,al,aw,du,ae,ak,de];rfl
  |ok v k'=>
   rw[hg]at cq;obtain⟨h1,h2⟩:=cq;cases m with
   |zero=>
    have e:(((most-0:Nat):Int)==(most:Int))=true:=by rw[dJ];omega
    refine⟨h1,?_⟩;simp only[h2,e,al,aw,l6,ae,ak,de];rfl
   |succ m=>
    have e:(((most-(m+1):Nat):Int)==(most:Int))=false:=by rw[bE];omega
    have ht:=iU hL h1 (cU 44 (by decide)) false;have ep:ar.mk l (k':Int) false=ip l k' false:=rfl;simp only[h2,e,ep,ht,al,aw,l6,aj,ae,ak,de,bq,bu];cases hb:aH l [44] k'
    ·exact⟨h1,rfl⟩
    ·have hw:Go.IntKind.wrap .i64 (((most-(m+1):Nat):Int)+1)=((most-m:Nat):Int):=by rw[wrap_i64 (by omega) (by omega)];omega
     simp only[ae,cO,aj,hw];exact ih m (ks++[v]) (k'+1) (by omega) (cV hL h1 hb) (by rw[aM,List.length_singleton];omega)
theorem Q9{l:List ai}(hL:b9 l){rec:Int->ar->Option (aa×ar)}{g:Nat->PR aa}{K lv:Int}{nm:List UInt8}{ls:List (List UInt8)}(hr:oO l rec (Go.IntKind.wrap .i64 (lv+1)) g)
 {k:Nat} (hk:k<l.length) (b:Bool):Out l (RB b k (d4 l g 5 [] k)) (M.xy rec 6 (ip l k b) K nm lv ls []) fun vs k' b'=>(ip l k' b',K,nm,lv,ls,vs):=by
 cases b with
 |true=>
  refine⟨hk,[],?_⟩;obtain⟨n,hn⟩:∃n,ad=n+1:=⟨ad-1,by have:=bA;omega⟩;unfold M.xy;rw[hn,M.qJ];rfl
 |false=>
  have e:=ag8 hL (K:=K) (lv:=lv) (nm:=nm) (ls:=ls) hr 6 (by omega) ad 5 [] k (by have:=bA;omega) hk (by simp);have hs:((6-5:Nat):Int)=1:=by decide
  rw[hs]at e;rw[show RB false k (d4 l g 5 [] k)=d4 l g 5 [] k from rfl];unfold M.xy;unfold Out at e⊢;cases hc:d4 l g 5 [] k with
  |ok v k'=>
   rw[hc]at e;obtain⟨h1,h2⟩:=e;refine⟨h1,?_⟩;cases ho:M.qJ rec 6 ad 1 (ip l k false) K nm lv ls []with
   |none=>rw[show((6:Nat):Int)=6 from rfl,ho]at h2;cases h2
   |some r=>
    rw[show((6:Nat):Int)=6 from rfl,ho]at h2;cases r<;>(simp only[lx,ay]at h2;rw[h2];rfl)
  |no k'=>
   rw[hc]at e;obtain⟨h1,v,h2⟩:=e;refine⟨h1,v,?_⟩;cases ho:M.qJ rec 6 ad 1 (ip l k false) K nm lv ls []with
   |none=>rw[show((6:Nat):Int)=6 from rfl,ho]at h2;cases h2
   |some r=>
    rw[show((6:Nat):Int)=6 from rfl,ho]at h2;cases r<;>(simp only[lx,ay]at h2;rw[h2];rfl)
end M
namespace M
open Go.V (inB bS ad bA)
def oP(l:List ai)(K:Int)(term:Nat->PR aa)(nm:List UInt8)(k1:Nat):PR (List UInt8×List aa):=
    bif K==16 then(cE l [58] k1).bind fun _ k2=>(term k2).bind fun t k3=>.ok (nm,[t]) k3
    else bif K==17 then(bif aH l [40] k1 then(term (k1+1)).bind fun t k3=>(cE l [41] k3).bind fun _ k4=>.ok (nm,[t]) k4 else .ok (nm,[dK]) k1)
    else .ok (nm,[]) k1
theorem EG(l:List ai)(K:Int)(term:Nat->PR aa)(k:Nat):gK l K term k=(gX l k).bind (oP l K term):=rfl
theorem Rb{l:List ai}(hL:b9 l){rec:Int->ar->Option (aa×ar)}{g:Nat->PR aa}{K lv:Int}{nm:List UInt8}{ls:List (List UInt8)}{ks:List aa}(hr:oO l rec (Go.IntKind.wrap .i64 (lv+1)) g)
 (hls:ls.length<=1000) (hks:ks.length<=1000) {p:ar} {w:List UInt8} {k1:Nat} {b1:Bool} (hname:M.gJ p=some (w,ip l k1 b1)) (hk:k1<l.length):
 Out l (RB b1 k1 (oP l K g w k1)) (M.xz rec p K nm lv ls ks) fun v k' b'=>(ip l k' b',K,nm,lv,ls++[v.1],ks++v.2):=by
 unfold M.xz oP;simp only[hname,dL hls,al,aw,ak];have el:∀k b,ar.list (ip l k b)=l:=fun _ _=>rfl
 have ea:∀k b,ar.at_ (ip l k b)=(k:Int):=fun _ _=>rfl
 have eb:∀k b,ar.bad (ip l k b)=b:=fun _ _=>rfl
 have ep:∀(k:Nat) b,ar.mk l (k:Int) b=ip l k b:=fun _ _=>rfl
 cases h16:(K==(16:Int))
 ·cases h17:(K==(17:Int))
  ·
   simp only[aj,de,ak,ae];cases b1
   ·exact⟨hk,by simp⟩
   ·exact⟨hk,(w,[]),by simp⟩
  ·simp only[aj,ae,iU hL hk (cU 40 (by decide)) b1,al,aw,de,ak];cases hc:(!b1&&aH l [40] k1)
   ·simp only[aj,lH,dL hks,ak,ae,mg];cases b1
    ·have:aH l [40] k1=false:=by simpa using hc
     rw[this];exact⟨hk,rfl⟩
    ·exact⟨hk,(w,[dK]),rfl⟩
   ·rw[cC,fE]at hc;obtain⟨hb1,hc⟩:=hc;subst hb1;rw[hc];simp only[ae,el,ea,eb];have hk2:=cV hL hk hc;have cq:=qI (K:=K) (lv:=lv) (nm:=nm) (ls:=ls++[w]) (ks:=ks) hr hks hk2 false;rw[show RB false (k1+1) (g (k1+1))=g (k1+1)from rfl]at cq;rw[show ∀r:PR (List UInt8×List aa),RB false k1 r=r from fun _=>rfl];cases hg:g (k1+1)with
    |no k'=>
     rw[hg]at cq;obtain⟨h1,v,h2⟩:=cq;refine⟨h1,(w,[v]),?_⟩;simp only[h2,ep,fe hL h1 (cU 41 (by decide)) true,al,aw,ak,ae];rfl
    |ok v k'=>
     rw[hg]at cq;obtain⟨h1,h2⟩:=cq;simp only[h2,ep,fe hL h1 (cU 41 (by decide)) false,al,aw,ak,ae,PR.bind,cE];cases hn:aH l [41] k'
     ·exact⟨h1,(w,[v]),rfl⟩
     ·exact⟨cV hL h1 hn,rfl⟩
 ·simp only[ae,fe hL hk (cU 58 (by decide)) b1,al,aw];cases hc:(!b1&&aH l [58] k1)
  ·simp only[aj,el,ea,eb];have cq:=qI (K:=K) (lv:=lv) (nm:=nm) (ls:=ls++[w]) (ks:=ks) hr hks hk true;obtain⟨h1,v,h2⟩:=cq;have:RB b1 k1 ((cE l [58] k1).bind fun _ k2=>(g k2).bind fun t k3=>PR.ok (w,[t]) k3)=PR.no k1:=by
    cases b1
    ·have:aH l [58] k1=false:=by simpa using hc
     unfold cE;rw[this];rfl
    ·rfl
   rw[this];refine⟨hk,(w,[v]),?_⟩;simp only[h2,ep,al,aw,ak,ae]
  ·rw[cC,fE]at hc;obtain⟨hb1,hc⟩:=hc;subst hb1;have hk2:=cV hL hk hc;simp only[ae,el,ea,eb];have cq:=qI (K:=K) (lv:=lv) (nm:=nm) (ls:=ls++[w]) (ks:=ks) hr hks hk2 false;rw[show RB false (k1+1) (g (k1+1))=g (k1+1)from rfl]at cq;rw[show RB false k1 ((cE l [58] k1).bind fun _ k2=>(g k2).bind fun t k3=>PR.ok (w,[t]) k3)=(g (k1+1)).bind fun t k3=>PR.ok (w,[t]) k3 by unfold cE;rw[hc];rfl];cases hg:g (k1+1)with
   |no k'=>
    rw[hg]at cq;obtain⟨h1,v,h2⟩:=cq;refine⟨h1,(w,[v]),?_⟩;simp only[h2,ep,al,aw,ak,ae]
   |ok v k'=>
    rw[hg]at cq;obtain⟨h1,h2⟩:=cq;refine⟨h1,?_⟩;simp only[h2,ep,al,aw,ak,ae]
theorem ag9{l:List ai}(hL:b9 l)(hT:∀t∈l,t.Text.length<=30000){rec:Int->ar->Option (aa×ar)}{g:Nat->PR aa}{K lv:Int}{nm:List UInt8}{ls:List (List UInt8)}{ks:List aa}(hr:oO l rec (Go.IntKind.wrap .i64 (lv+1)) g)
 (hls:ls.length<=1000) (hks:ks.length<=1000) {k:Nat} (hk:k<l.length) (b:Bool):
 Out l (RB b k (gK l K g k)) (M.xz rec (ip l k b) K nm lv ls ks) fun v k' b'=>(ip l k' b',K,nm,lv,ls++[v.1],ks++v.2):=by
 have hn:=Ez hL hT hk b;cases hc:(!b&&gW l k)
 ·rw[hc]at hn;have h:=Rb hL (K:=K) (nm:=nm) hr hls hks hn hk;rw[EG];have:RB b k ((gX l k).bind (oP l K g))=PR.no k:=by
   cases b
   ·have:gW l k=false:=by simpa using hc
    unfold gX;rw[this];rfl
   ·rfl
  rw[this];exact h
 ·rw[hc]at hn;rw[cC,fE]at hc;obtain⟨hb,hc⟩:=hc;subst hb;have hk4:(l.getD k ai.zero).Kind≠4:=by
   unfold gW at hc;rw[cC,dJ]at hc;have:=hc.1;unfold bZ at this;rw[this];decide
  have h:=Rb hL (K:=K) (nm:=nm) hr hls hks hn (hL.next hk hk4);rw[EG];have:RB false k ((gX l k).bind (oP l K g))=RB false (k+1) (oP l K g (bZ l k).Text (k+1)):=by
   unfold gX;rw[hc];rfl
  rw[this];exact h
end M
namespace M
open Go.V (inB bS ad bA)
theorem aha{l:List ai}{K:Int}{g:Nat->PR aa}{w:List UInt8}{k k':Nat}{v:List UInt8×List aa}(h:oP l K g w k=.ok v k'):v.2.length<=1:=by
 unfold oP at h;cases h16:(K==(16:Int))<;>rw[h16]at h
 ·cases h17:(K==(17:Int))<;>rw[h17]at h
  ·cases h;simp
  ·simp only[aj,ae]at h;cases hc:aH l [40] k<;>rw[hc]at h
   ·cases h;simp
   ·simp only[ae]at h;cases hg:g (k+1)with
    |no q=>rw[hg]at h;cases h
    |ok t q=>
     rw[hg]at h;simp only[PR.bind,cE]at h;cases hn:aH l [41] q<;>rw[hn]at h<;>cases h;simp
 ·simp only[ae,cE]at h;cases hc:aH l [58] k<;>rw[hc]at h
  ·cases h
  ·simp only[ae,PR.bind]at h;cases hg:g (k+1)with
   |no q=>rw[hg]at h;cases h
   |ok t q=>rw[hg]at h;cases h;simp
theorem Re{l:List ai}{K:Int}{g:Nat->PR aa}{k k':Nat}{v:List UInt8×List aa}(h:gK l K g k=.ok v k'):v.2.length<=1:=by
 rw[EG]at h;unfold gX at h;cases hn:gW l k<;>rw[hn]at h
 ·cases h
 ·exact aha h
theorem K9{α β:Type}:∀(ps:List (α×List β)),(∀p∈ps,p.2.length<=1)->(ps.map (·.2)).flatten.length<=ps.length
 |[],_=>cw _
 |p::r,h=>by
  have h1:=h p (by simp);have h2:=K9 r fun q hq=>h q (by simp[hq])
  simp only[fy,List.flatten_cons,aM,aU];omega
theorem ahb{l:List ai}(hL:b9 l)(hT:∀t∈l,t.Text.length<=30000){rec:Int->ar->Option (aa×ar)}{g:Nat->PR aa}{K lv:Int}{nm:List UInt8}(hr:oO l rec (Go.IntKind.wrap .i64 (lv+1)) g)
 (most:Nat) (hm:most<=100):∀(f m:Nat)(ps:List (List UInt8×List aa))(k:Nat),m<f->k<l.length->ps.length+(m+1)<=most->(∀p∈ps,p.2.length<=1)->
 Out l (d4 l (gK l K g) m ps k) ((M.qK rec (most:Int) f ((most-m:Nat):Int) (ip l k false) K nm lv (ps.map (·.1)) (ps.map (·.2)).flatten).map fun r=>match r with
  |.inl x=>x
  |.inr x=>x) fun vs k' b'=>(l,(k':Int),b',K,nm,lv,vs.map (·.1),(vs.map (·.2)).flatten):=by
 intro f
 induction f with
 |zero=>intro m ks k h;omega
 |succ f ih=>
  intro m ps k hf hk hps An;rw[M.qK,d4];have eb:∀k b,ar.bad (ip l k b)=b:=fun _ _=>rfl
  have el:∀k b,ar.list (ip l k b)=l:=fun _ _=>rfl
  have ea:∀k b,ar.at_ (ip l k b)=(k:Int):=fun _ _=>rfl
  have ep:∀(k:Nat) b,ar.mk l (k:Int) b=ip l k b:=fun _ _=>rfl
  have hfl:=K9 ps An;have hlab:=ag9 hL hT (K:=K) (lv:=lv) (nm:=nm) (ls:=ps.map (·.1)) (ks:=(ps.map (·.2)).flatten) hr (by rw[dD];omega) (by omega) hk false;rw[show RB false k (gK l K g k)=gK l K g k from rfl]at hlab;have mA:∀v:List UInt8×List aa,ps.map (·.1)++[v.1]=(ps++[v]).map (·.1):=fun v=>by rw[lj];rfl
  have mB:∀v:List UInt8×List aa,(ps.map (·.2)).flatten++v.2=((ps++[v]).map (·.2)).flatten:=fun v=>by rw[lj,List.flatten_append];simp
  unfold M.EH;simp only[eb,el,ea,ep,bq,ae];cases hg:gK l K g k with
  |no k'=>
   rw[hg]at hlab;obtain⟨h1,v,h2⟩:=hlab;refine⟨h1,ps++[v],?_⟩;simp only[h2,al,aw,du,ae,ak,de,eb,el,ea,mA,mB];rfl
  |ok v k'=>
   have hv:=Re hg;rw[hg]at hlab;obtain⟨h1,h2⟩:=hlab;cases m with
   |zero=>
    have e:(((most-0:Nat):Int)==(most:Int))=true:=by rw[dJ];omega
    refine⟨h1,?_⟩;simp only[h2,e,al,aw,l6,ae,ak,de,eb,el,ea,mA,mB];rfl
   |succ m=>
    have e:(((most-(m+1):Nat):Int)==(most:Int))=false:=by rw[bE];omega
    have ht:=iU hL h1 (cU 44 (by decide)) false;simp only[h2,e,ep,ht,al,aw,l6,aj,ae,ak,de,bq,bu,eb,el,ea,mA,mB];cases hb:aH l [44] k'
    ·exact⟨h1,rfl⟩
    ·have hw:Go.IntKind.wrap .i64 (((most-(m+1):Nat):Int)+1)=((most-m:Nat):Int):=by rw[wrap_i64 (by omega) (by omega)];omega
     simp only[ae,cO,aj,hw];exact ih m (ps++[v]) (k'+1) (by omega) (cV hL h1 hb) (by rw[aM,List.length_singleton];omega) (fun p hp=>by
      rcases aQ.1 hp with q|q
      ·exact An p q
      ·rw[iE]at q;rw[q];exact hv)
theorem Rf{l:List ai}(hL:b9 l)(hT:∀t∈l,t.Text.length<=30000){rec:Int->ar->Option (aa×ar)}{g:Nat->PR aa}{K lv:Int}{nm:List UInt8}(hr:oO l rec (Go.IntKind.wrap .i64 (lv+1)) g)
 {k:Nat} (hk:k<l.length) (b:Bool):Out l (RB b k (d4 l (gK l K g) 15 [] k)) (M.xA rec 16 (ip l k b) K nm [] [] lv) fun vs k' b'=>(ip l k' b',K,nm,lv,vs.map (·.1),(vs.map (·.2)).flatten):=by
 cases b with
 |true=>
  refine⟨hk,[],?_⟩;obtain⟨n,hn⟩:∃n,ad=n+1:=⟨ad-1,by have:=bA;omega⟩;unfold M.xA;rw[hn,M.qK];rfl
 |false=>
  have e:=ahb hL hT (K:=K) (lv:=lv) (nm:=nm) hr 16 (by omega) ad 15 [] k (by have:=bA;omega) hk (by simp) (by simp);have hs:((16-15:Nat):Int)=1:=by decide
  rw[hs]at e;rw[show RB false k (d4 l (gK l K g) 15 [] k)=d4 l (gK l K g) 15 [] k from rfl];unfold M.xA;unfold Out at e⊢;have e16:((16:Nat):Int)=16:=rfl;have n1:List.map (fun x:List UInt8×List aa=>x.1) []=[]:=rfl;have n2:(List.map (fun x:List UInt8×List aa=>x.2) []).flatten=[]:=rfl;rw[e16,n1,n2]at e;cases hc:d4 l (gK l K g) 15 [] k with
  |ok v k'=>
   rw[hc]at e;obtain⟨h1,h2⟩:=e;refine⟨h1,?_⟩;cases ho:M.qK rec 16 ad 1 (ip l k false) K nm lv [] []with
   |none=>rw[ho]at h2;cases h2
   |some r=>
    rw[ho]at h2;cases r<;>(simp only[lx,ay]at h2;rw[h2];rfl)
  |no k'=>
   rw[hc]at e;obtain⟨h1,v,h2⟩:=e;refine⟨h1,v,?_⟩;cases ho:M.qK rec 16 ad 1 (ip l k false) K nm lv [] []with
   |none=>rw[ho]at h2;cases h2
   |some r=>
    rw[ho]at h2;cases r<;>(simp only[lx,ay]at h2;rw[h2];rfl)
theorem EI(K:Int)(nm:List UInt8)(ls:List (List UInt8))(ks:List aa)(h:ks.length<=2):M.lJ K nm ls ad ks=some (K,nm,ls,ks++List.replicate (2-ks.length) dK):=by
 have step:∀f (ks:List aa),ks.length<2->M.lJ K nm ls (f+1) ks=M.lJ K nm ls f (ks++[dK]):=fun f ks hk=>by
  rw[M.lJ,aO (show((ks.length:Nat):Int)<2 by omega)];simp only[lH,dL (show ks.length<=1000 by omega),ak,ae,mg];rfl
 have stop:∀f (ks:List aa),ks.length=2->M.lJ K nm ls (f+1) ks=some (K,nm,ls,ks):=fun f ks hk=>by
  rw[M.lJ,db (show ¬((ks.length:Nat):Int)<2 by omega)];rfl
 obtain⟨n,hn⟩:∃n,ad=n+3:=⟨ad-3,by have:=bA;omega⟩;rw[hn];have:ks.length=0\/ks.length=1\/ks.length=2:=by omega
 rcases this with q|q|q
 ·rw[step _ _ (by omega),step _ _ (by rw[aM,List.length_singleton];omega),stop _ _ (by simp[q]),q];simp[List.replicate]
 ·rw[step _ _ (by omega),stop _ _ (by simp[q]),q];rfl
 ·rw[stop _ _ q,q];simp
theorem ahc{l:List ai}(hL:b9 l){rec:Int->ar->Option (aa×ar)}{g:Nat->PR aa}{K lv:Int}{nm:List UInt8}{ls:List (List UInt8)}(hr:oO l rec (Go.IntKind.wrap .i64 (lv+1)) g)
 {k:Nat} (hk:k<l.length):Out l (nI l g k) (M.Ao rec (ip l k false) K nm lv ls []) fun ts k' b'=>(ip l k' b',K,nm,lv,ls,ts):=by
 have eb:∀k b,ar.bad (ip l k b)=b:=fun _ _=>rfl
 have el:∀k b,ar.list (ip l k b)=l:=fun _ _=>rfl
 have ea:∀k b,ar.at_ (ip l k b)=(k:Int):=fun _ _=>rfl
 have ep:∀(k:Nat) b,ar.mk l (k:Int) b=ip l k b:=fun _ _=>rfl
 have p0:=EI K nm ls [] (by simp);have pU:=EI K nm ls [dK] (by simp);have p1:=fun a:aa=>EI K nm ls [a] (by simp)
 have p2:=fun a b:aa=>EI K nm ls [a,b] (by simp)
 have s0:∀x y:aa,([]++[x]:List aa).set (Int.toNat ((([]:List aa).length:Nat):Int)) y=[y]:=fun x y=>rfl
 have i0:∀x:aa,inB ((([]:List aa).length:Nat):Int) ([]++[x]:List aa).length=true:=fun x=>lH [] x
 have c0:∀x:aa,decide ((([]:List aa).length)+[x].length<=1073741824)=true:=fun x=>by simp
 have r2:∀a b:aa,[a,b]++List.replicate (2-[a,b].length) dK=[a,b]:=fun a b=>rfl
 have r1:∀a:aa,[a]++List.replicate (2-[a].length) dK=[a,dK]:=fun a=>rfl
 have r0:([]:List aa)++List.replicate (2-([]:List aa).length) dK=[dK,dK]:=rfl;rw[r0]at p0;simp only[r1]at p1 pU;simp only[r2]at p2;unfold M.Ao nI;simp only[iU hL hk (cU 60 (by decide)) false,al,aw,bq,bu,ak];cases h60:aH l [60] k
 ·simp only[aj,p0,ae];exact⟨hk,rfl⟩
 ·have hk1:=cV hL hk h60;simp only[ae,iU hL hk1 (cU 95 (by decide)) false,al,aw,bq,bu,ak];cases h95:aH l [95] (k+1)
  ·simp only[aj,el,ea,eb];have cq:=qI (K:=K) (lv:=lv) (nm:=nm) (ls:=ls) (ks:=[]) hr (by simp) hk1 false;rw[show RB false (k+1) (g (k+1))=g (k+1)from rfl]at cq;cases hg:g (k+1)with
   |no k'=>
    rw[hg]at cq;obtain⟨h1,v,h2⟩:=cq;refine⟨h1,[v,dK],?_⟩;simp only[h2,ep,iU hL h1 (cU 44 (by decide)) true,fe hL h1 (cU 62 (by decide)) true,al,aw,cO,cr,aj,lp,p1,ak,ae]
   |ok a k'=>
    rw[hg]at cq;obtain⟨h1,h2⟩:=cq;simp only[h2,ep,iU hL h1 (cU 44 (by decide)) false,al,aw,bq,bu,lp,ak,PR.bind];cases iV:aH l [44] k'
    ·simp only[aj,p1,fe hL h1 (cU 62 (by decide)) false,al,aw,bq,bu,ak,ae,cE];cases eX:aH l [62] k'
     ·exact⟨h1,[a,dK],rfl⟩
     ·exact⟨cV hL h1 eX,rfl⟩
    ·have hk2:=cV hL h1 iV;simp only[ae,el,ea,eb];have nJ:=qI (K:=K) (lv:=lv) (nm:=nm) (ls:=ls) (ks:=[a]) hr (by simp) hk2 false;rw[show RB false (k'+1) (g (k'+1))=g (k'+1)from rfl]at nJ;cases hg2:g (k'+1)with
     |no k2=>
      rw[hg2]at nJ;obtain⟨q1,v,q2⟩:=nJ;refine⟨q1,[a,v],?_⟩;simp only[q2,ep,fe hL q1 (cU 62 (by decide)) true,al,aw,cO,cr,aj,List.singleton_append,p2,ak,ae]
     |ok c k2=>
      rw[hg2]at nJ;obtain⟨q1,q2⟩:=nJ;simp only[q2,ep,fe hL q1 (cU 62 (by decide)) false,al,aw,bq,bu,List.singleton_append,p2,ak,ae,cE];cases eX:aH l [62] k2
      ·exact⟨q1,[a,c],rfl⟩
      ·exact⟨cV hL q1 eX,rfl⟩
  ·have nK:=cV hL hk1 h95;simp only[ae,iU hL nK (cU 44 (by decide)) false,al,aw,bq,bu,ak,i0,c0,s0,PR.bind];rw[show aa.mk 1 [] [] []=dK from rfl,show k+1+1=k+2 from rfl]at*;cases iV:aH l [44] (k+2)
   ·simp only[aj,pU,fe hL nK (cU 62 (by decide)) false,al,aw,bq,bu,ak,ae,cE];cases eX:aH l [62] (k+2)
    ·exact⟨nK,[dK,dK],rfl⟩
    ·exact⟨cV hL nK eX,rfl⟩
   ·have hk2:=cV hL nK iV;simp only[ae,el,ea,eb];have nJ:=qI (K:=K) (lv:=lv) (nm:=nm) (ls:=ls) (ks:=[dK]) hr (by simp) hk2 false;rw[show RB false (k+2+1) (g (k+2+1))=g (k+2+1)from rfl]at nJ;cases hg2:g (k+2+1)with
    |no k2=>
     rw[hg2]at nJ;obtain⟨q1,v,q2⟩:=nJ;refine⟨q1,[dK,v],?_⟩;simp only[q2,ep,fe hL q1 (cU 62 (by decide)) true,al,aw,cO,cr,aj,List.singleton_append,p2,ak,ae]
    |ok c k2=>
     rw[hg2]at nJ;obtain⟨q1,q2⟩:=nJ;simp only[q2,ep,fe hL q1 (cU 62 (by decide)) false,al,aw,bq,bu,List.singleton_append,p2,ak,ae,cE];cases eX:aH l [62] k2
     ·exact⟨q1,[dK,c],rfl⟩
     ·exact⟨cV hL q1 eX,rfl⟩
end M
namespace M
open Go.V (inB bS ad bA)
theorem ahd:Option.getD M.fW Inhabited.default=[]::words:=by rw[EA];rfl
theorem ahe:Option.isSome M.fW=true:=by rw[EA];rfl
theorem xB{l:List ai}(hL:b9 l){k:Nat}(hk:k<l.length)(h:gW l k=true):k+1<l.length:=by
 refine hL.next hk ?_;unfold gW at h;rw[cC,dJ]at h;have:=h.1;unfold bZ at this;rw[this];decide
theorem EJ{l:List ai}(hL:b9 l){k:Nat}(hk:k<l.length)(h:mM l k=true):k+1<l.length:=by
 unfold mM at h;rw[cC]at h;exact xB hL hk h.1
theorem ahf(rec:Int->ar->Option (aa×ar)){l:List ai}(hL:b9 l)(hT:∀t∈l,t.Text.length<=30000)(lv:Int){k:Nat}(hk:k<l.length):
 ∃v,M.sB rec lv (ip l k true)=some (v,ip l k true):=by
 unfold M.sB;cases decide ((4:Int)<lv)
 ·have hn:=Ez hL hT hk true;have hr:M.qH []=some false:=by rw[ED,Ah];rfl
  refine⟨aa.mk 30 [] [] [],?_⟩;simp only[aj,hn,cO,cr,aw,al,hr,bq,ak,ae]
 ·exact⟨aa.mk 30 [] [] [],rfl⟩
theorem ahg{l:List ai}(hL:b9 l)(hT:∀t∈l,t.Text.length<=30000){rec:Int->ar->Option (aa×ar)}{lv:Int}{d:Nat}(hlv:lv<=4)(hr:oO l rec (Go.IntKind.wrap .i64 (lv+1)) (d5 l d))
 {k:Nat} (hk:k<l.length):Out l (d5 l (d+1) k) (M.sB rec lv (ip l k false)) fun v k' b'=>(v,ip l k' b'):=by
 have el:∀k b,ar.list (ip l k b)=l:=fun _ _=>rfl
 have ea:∀k b,ar.at_ (ip l k b)=(k:Int):=fun _ _=>rfl
 have eb:∀k b,ar.bad (ip l k b)=b:=fun _ _=>rfl
 have ep:∀(k:Nat) b,ar.mk l (k:Int) b=ip l k b:=fun _ _=>rfl
 have hn:=Ez hL hT hk false;unfold M.sB;rw[db (show ¬(4:Int)<lv by omega),aj,d5,hn];unfold gX;cases hnm:gW l k
 ·have hr:M.qH []=some false:=by rw[ED,Ah];rfl
  refine⟨hk,aa.mk 30 [] [] [],?_⟩;simp only[Bool.and_false,aj,aw,al,hr,bq,ak,ae]
 ·have hk1:=xB hL hk hnm;simp only[bq,ak,ae,aw,al,ED,PR.bind,ahd,ahe,Q8];generalize hw:(bZ l k).Text=w;have hbd:=EB w;by_cases h0:dO w=0
  ·rw[h0];exact⟨hk1,rfl⟩
  ·have hne:w≠[]:=fun q=>h0 (by rw[q];exact Ah)
   rw[gq hne,gq h0,aO (show 0<dO w by omega),show(dO w==0)=false from bE.2 h0];simp only[cO,aj];generalize dO w=K at*;have hb0:∀(x y:Bool),((true|| !x)&&(true||y))=true:=fun x y=>rfl
   by_cases hA:K=12\/K=13\/K=22\/K=23
   ·have c1:(bif K==12 then K==12 else bif K==13 then K==13 else bif K==22 then K==22 else K==23)=true:=by
     rcases hA with q|q|q|q<;>rw[q]<;>rfl
    have c2:((K==12)||((K==13)||((K==22)||(K==23))))=true:=by
     rcases hA with q|q|q|q<;>rw[q]<;>rfl
    rw[c1,c2];simp only[ae,fe hL hk1 (cU 60 (by decide)) false,al,aw,bq,bu,el,ea,eb,du,ak];unfold cE;cases h60:aH l [60] (k+1)
    ·simp only[aj,el,ea,eb];obtain⟨h1,v,h2⟩:=qI (K:=K) (lv:=lv) (nm:=[]) (ls:=[]) (ks:=[]) hr (by simp) hk1 true;refine⟨hk1,aa.mk K [] [] [v],?_⟩;simp only[h2,ep,fe hL hk1 (cU 62 (by decide)) true,al,aw,cO,cr,aj,du,ak,ae,lp]
    ·have hk2:=cV hL hk1 h60;simp only[ae,el,ea,eb];have cq:=qI (K:=K) (lv:=lv) (nm:=[]) (ls:=[]) (ks:=[]) hr (by simp) hk2 false;rw[show RB false (k+1+1) (d5 l d (k+1+1))=d5 l d (k+1+1)from rfl]at cq;cases hg:d5 l d (k+1+1)with
     |no k'=>
      rw[hg]at cq;obtain⟨h1,v,h2⟩:=cq;refine⟨h1,aa.mk K [] [] [v],?_⟩;simp only[h2,ep,fe hL h1 (cU 62 (by decide)) true,al,aw,cO,cr,aj,du,ak,ae,lp]
     |ok v k'=>
      rw[hg]at cq;obtain⟨h1,h2⟩:=cq;simp only[h2,ep,fe hL h1 (cU 62 (by decide)) false,al,aw,bq,bu,du,ak,ae,lp];cases eX:aH l [62] k'
      ·exact⟨h1,aa.mk K [] [] [v],rfl⟩
      ·exact⟨cV hL h1 eX,rfl⟩
   ·have c1:(bif K==12 then K==12 else bif K==13 then K==13 else bif K==22 then K==22 else K==23)=false:=by
     have e1:(K==12)=false:=by rw[bE];omega
     have e2:(K==13)=false:=by rw[bE];omega
     have e3:(K==22)=false:=by rw[bE];omega
     have e4:(K==23)=false:=by rw[bE];omega
     rw[e1,e2,e3,e4];rfl
    have c2:((K==12)||((K==13)||((K==22)||(K==23))))=false:=by
     have e1:(K==12)=false:=by rw[bE];omega
     have e2:(K==13)=false:=by rw[bE];omega
     have e3:(K==22)=false:=by rw[bE];omega
     have e4:(K==23)=false:=by rw[bE];omega
     rw[e1,e2,e3,e4];rfl
    rw[c1,c2];simp only[aj,du,ak];by_cases h15:K=15
    ·rw[h15];simp only[Int.reduceBEq,ae,fe hL hk1 (cU 60 (by decide)) false,al,aw,bq,bu,du,ak];unfold cE;cases h60:aH l [60] (k+1)
     ·simp only[aj];obtain⟨h1,v,h2⟩:=Q9 hL (K:=15) (lv:=lv) (nm:=[]) (ls:=[]) hr hk1 true;refine⟨hk1,aa.mk 15 [] [] v,?_⟩;simp only[h2,fe hL hk1 (cU 62 (by decide)) true,al,aw,cO,cr,aj,du,ak,ae]
     ·have hk2:=cV hL hk1 h60;simp only[ae];have cq:=Q9 hL (K:=15) (lv:=lv) (nm:=[]) (ls:=[]) hr hk2 false;rw[show RB false (k+1+1) (d4 l (d5 l d) 5 [] (k+1+1))=d4 l (d5 l d) 5 [] (k+1+1)from rfl]at cq;cases hg:d4 l (d5 l d) 5 [] (k+1+1)with
      |no k'=>
       rw[hg]at cq;obtain⟨h1,v,h2⟩:=cq;refine⟨h1,aa.mk 15 [] [] v,?_⟩;simp only[h2,fe hL h1 (cU 62 (by decide)) true,al,aw,cO,cr,aj,du,ak,ae]
      |ok v k'=>
       rw[hg]at cq;obtain⟨h1,h2⟩:=cq;simp only[h2,fe hL h1 (cU 62 (by decide)) false,al,aw,bq,bu,du,ak,ae];cases eX:aH l [62] k'
       ·exact⟨h1,aa.mk 15 [] [] v,rfl⟩
       ·exact⟨cV hL h1 eX,rfl⟩
    ·rw[show(K==15)=false from bE.2 h15];simp only[aj];by_cases hB:K=20\/K=21
     ·have c1:(bif K==20 then K==20 else K==21)=true:=by rcases hB with q|q<;>rw[q]<;>rfl
      have c2:((K==20)||(K==21))=true:=by rcases hB with q|q<;>rw[q]<;>rfl
      rw[c1,c2];simp only[ae,fe hL hk1 (cU 60 (by decide)) false,al,aw,bq,bu,du,ak];unfold cE mf;cases h60:aH l [60] (k+1)
      ·refine⟨hk1,aa.mk K [] [] [],?_⟩;simp only[aj,K7 hL hT hk1 true,fe hL hk1 (cU 62 (by decide)) true,al,aw,cO,cr,du,ak,ae]
      ·have hk2:=cV hL hk1 h60;simp only[ae,K7 hL hT hk2 false,al,aw,bq,bu,du,ak];cases hid:mM l (k+1+1)
       ·refine⟨hk2,aa.mk K [] [] [],?_⟩;simp only[aj,fe hL hk2 (cU 62 (by decide)) true,al,aw,cO,cr,du,ak,ae]
       ·have hk3:=EJ hL hk2 hid;simp only[ae,fe hL hk3 (cU 62 (by decide)) false,al,aw,bq,bu,du,ak];cases eX:aH l [62] (k+1+1+1)
        ·exact⟨hk3,aa.mk K (bZ l (k+1+1)).Text [] [],rfl⟩
        ·exact⟨cV hL hk3 eX,rfl⟩
     ·have c1:(bif K==20 then K==20 else K==21)=false:=by
       have e1:(K==20)=false:=by rw[bE];omega
       have e2:(K==21)=false:=by rw[bE];omega
       rw[e1,e2];rfl
      have c2:((K==20)||(K==21))=false:=by
       have e1:(K==20)=false:=by rw[bE];omega
       have e2:(K==21)=false:=by rw[bE];omega
       rw[e1,e2];rfl
      rw[c1,c2];simp only[aj];by_cases vd:K=14
      ·rw[vd];simp only[Int.reduceBEq,ae];have cq:=ahc hL (K:=14) (lv:=lv) (nm:=[]) (ls:=[]) hr hk1;cases hg:nI l (d5 l d) (k+1)with
       |no k'=>
        rw[hg]at cq;obtain⟨h1,v,h2⟩:=cq;refine⟨h1,aa.mk 14 [] [] v,?_⟩;simp only[h2,al,aw,du,ak,ae]
       |ok v k'=>
        rw[hg]at cq;obtain⟨h1,h2⟩:=cq;refine⟨h1,?_⟩;simp only[h2,al,aw,du,ak,ae]
      ·rw[show(K==14)=false from bE.2 vd];simp only[aj];by_cases hC:K=16\/K=17\/K=18\/K=19
       ·have c1:(bif K==16 then K==16 else bif K==17 then K==17 else bif K==18 then K==18 else K==19)=true:=by
         rcases hC with q|q|q|q<;>rw[q]<;>rfl
        have c2:((K==16)||((K==17)||((K==18)||(K==19))))=true:=by
         rcases hC with q|q|q|q<;>rw[q]<;>rfl
        rw[c1,c2];simp only[ae,fe hL hk1 (cU 123 (by decide)) false,al,aw,bq,bu,du,ak];unfold cE;cases h60:aH l [123] (k+1)
        ·simp only[aj];obtain⟨h1,v,h2⟩:=Rf hL hT (K:=K) (lv:=lv) (nm:=[]) hr hk1 true;refine⟨hk1,aa.mk K [] (v.map (·.1)) (v.map (·.2)).flatten,?_⟩;simp only[h2,fe hL hk1 (cU 125 (by decide)) true,al,aw,cO,cr,aj,du,ak,ae]
        ·have hk2:=cV hL hk1 h60;simp only[ae];have cq:=Rf hL hT (K:=K) (lv:=lv) (nm:=[]) hr hk2 false;rw[show ∀r:PR (List (List UInt8×List aa)),RB false (k+1+1) r=r from fun _=>rfl]at cq;cases hg:d4 l (gK l K (d5 l d)) 15 [] (k+1+1)with
         |no k'=>
          rw[hg]at cq;obtain⟨h1,v,h2⟩:=cq;refine⟨h1,aa.mk K [] (v.map (·.1)) (v.map (·.2)).flatten,?_⟩;simp only[h2,fe hL h1 (cU 125 (by decide)) true,al,aw,cO,cr,aj,du,ak,ae]
         |ok v k'=>
          rw[hg]at cq;obtain⟨h1,h2⟩:=cq;simp only[h2,fe hL h1 (cU 125 (by decide)) false,al,aw,bq,bu,du,ak,ae];cases eX:aH l [125] k'
          ·exact⟨h1,aa.mk K [] (v.map (·.1)) (v.map (·.2)).flatten,rfl⟩
          ·exact⟨cV hL h1 eX,rfl⟩
       ·have e1:(K==16)=false:=by rw[bE];omega
        have e2:(K==17)=false:=by rw[bE];omega
        have e3:(K==18)=false:=by rw[bE];omega
        have e4:(K==19)=false:=by rw[bE];omega
        rw[e1,e2,e3,e4];refine⟨hk1,?_⟩;simp only[aj,uy,du,ak,ae]
theorem Rh{l:List ai}(hL:b9 l)(hT:∀t∈l,t.Text.length<=30000):∀(n d:Nat)(lv:Int),d<n->d<=4->lv=5-(d:Int)->oO l (M.ve n) lv (d5 l d)
 |0,d,lv,h,_,_=>by omega
 |n+1,d,lv,h,h4,hlv=>fun k b hk=>by
  show Out l _ (M.sB (M.ve n) lv (ip l k b)) _
  cases b with
  |true=>
   obtain⟨v,e⟩:=ahf (M.ve n) hL hT lv hk;exact⟨hk,v,e⟩
  |false=>
   cases d with
   |zero=>
    refine⟨hk,aa.mk 30 [] [] [],?_⟩;unfold M.sB;rw[aO (show(4:Int)<lv by omega)];rfl
   |succ d=>
    have hw:Go.IntKind.wrap .i64 (lv+1)=5-(d:Int):=by rw[wrap_i64 (by omega) (by omega)];omega
    have hr:=Rh hL hT n d (Go.IntKind.wrap .i64 (lv+1)) (by omega) (by omega) hw;exact ahg hL hT (by omega) hr hk
end M
namespace M
open Go.V (inB bS ad bA)
def lK{α:Type}(l:List ai)(el:Nat->PR α)(close:List UInt8):Nat->List α->Nat->PR (List α)
 |m,acc,k=>match el k with
  |.no k'=>.no k'
  |.ok v k1=>bif aH l close k1 then .ok (acc++[v]) (k1+1)else match m with
    |0=>.no k1
    |m+1=>bif aH l [44] k1 then lK l el close m (acc++[v]) (k1+1)else .no k1
theorem ahh{l:List ai}{a b:List UInt8}(h:a≠b){k:Nat}(ha:aH l a k=true):aH l b k=false:=by
 unfold aH at ha⊢;rw[cC,dJ]at ha;rw[ha.2];have:(a==b)=false:=bE.2 h;rw[this,Bool.and_false]
theorem Ap{α:Type}(l:List ai)(el:Nat->PR α)(close:List UInt8)(hc:close≠[44]):∀(m:Nat)(acc:List α)(k:Nat),
 lK l el close m acc k=(d4 l el m acc k).bind fun vs k'=>(cE l close k').bind fun _ k''=>.ok vs k''
 |0,acc,k=>by
  rw[lK,d4];cases el k with
  |no k'=>rfl
  |ok v k1=>
   simp only[PR.bind,cE];cases aH l close k1<;>rfl
 |m+1,acc,k=>by
  rw[lK,d4];cases el k with
  |no k'=>rfl
  |ok v k1=>
   simp only;cases h:aH l close k1
   ·cases iV:aH l [44] k1
    ·simp only[aj,PR.bind,cE,h]
    ·simp only[aj,ae];exact Ap l el close hc m (acc++[v]) (k1+1)
   ·rw[ahh hc h];simp only[ae,aj,PR.bind,cE,h]
def vf(l:List ai)(rec:Int->aC->Option (aa×aC))(dp:Int)(g:Nat->PR aa):Prop:=
 ∀k b,k<l.length->Out l (RB b k (g k)) (rec dp (sp l k b)) fun v k' b'=>(v,sp l k' b')
theorem lL{l:List ai}(hL:b9 l){k:Nat}(hk:k<l.length)(n most:Int)(b:Bool):M.jQ n most (sp l k b)=some (bif decide (most<=n)then sp l k true else bif !b&&aH l [44] k then sp l (k+1) b else sp l k true):=by
 unfold M.jQ;rw[gI hL hk [44] b];cases decide (most<=n)
 ·cases (!b&&aH l [44] k)<;>rfl
 ·rfl
theorem ahi{l:List ai}(hL:b9 l){rec:Int->aC->Option (aa×aC)}{g:Nat->PR aa}{dp:Int}(hr:vf l rec (Go.IntKind.wrap .i64 (dp-1)) g)(a1:Int)(a2:List UInt8)(a3:Int)(a4:List UInt8)(a5:List (List UInt8))(a6:List aa)(a7:List (List UInt8)):
 ∀(f m:Nat)(ks:List aa)(k:Nat),m+1<f->k<l.length->ks.length+(m+1)=6->
 Out l (lK l g [62] m ks k) (M.qL rec dp a1 a2 a3 a4 a5 a6 a7 f (sp l k false) ks) fun vs k' b'=>(l,(k':Int),b',a1,a2,a3,a4,a5,a6,a7,vs):=by
 intro f
 induction f with
 |zero=>intro m ks k h;omega
 |succ f ih=>
  intro m ks k hf hk hks;obtain⟨f',rfl⟩:∃f',f=f'+1:=⟨f-1,by omega⟩;rw[M.qL,lK];have el:∀k b,aC.list (sp l k b)=l:=fun _ _=>rfl
  have ea:∀k b,aC.at_ (sp l k b)=(k:Int):=fun _ _=>rfl
  have eb:∀k b,aC.bad (sp l k b)=b:=fun _ _=>rfl
  have hend:∀(k:Nat)(xs:List aa),M.qL rec dp a1 a2 a3 a4 a5 a6 a7 (f'+1) (sp l k true) xs=some (l,(k:Int),true,a1,a2,a3,a4,a5,a6,a7,xs):=fun k xs=>by
   rw[M.qL];rfl
  have h:=hr k false hk;rw[show RB false k (g k)=g k from rfl]at h;simp only[eb,bq,ae];cases hg:g k with
  |no k'=>
   rw[hg]at h;obtain⟨h1,v,h2⟩:=h;refine⟨h1,ks++[v],?_⟩;simp only[h2,fq hL h1 [62] true,lL hL h1,aw,al,cO,cr,aj,lH,dL (show ks.length<=1000 by omega),ak,ae,mg,aa.aD];cases decide ((6:Int)<=(((ks++[v]).length:Nat):Int))<;>exact hend k' _
  |ok v k'=>
   rw[hg]at h;obtain⟨h1,h2⟩:=h;simp only[h2,fq hL h1 [62] false,lL hL h1,aw,al,bq,bu,lH,dL (show ks.length<=1000 by omega),ak,ae,mg,aa.aD];cases eX:aH l [62] k'
   ·simp only[aj,lL hL h1,aw,al,ak,ae,bq,bu];have hlen:(((ks++[v]).length:Nat):Int)=(6:Int)-(m:Int):=by rw[aM,List.length_singleton];omega
    cases m with
    |zero=>
     rw[aO (show(6:Int)<=(((ks++[v]).length:Nat):Int) by omega)];exact⟨h1,ks++[v],hend k' _⟩
    |succ m=>
     rw[db (show ¬(6:Int)<=(((ks++[v]).length:Nat):Int) by omega)];simp only[aj];cases iV:aH l [44] k'
     ·exact⟨h1,ks++[v],hend k' _⟩
     ·exact ih m (ks++[v]) (k'+1) (by omega) (cV hL h1 iV) (by rw[aM,List.length_singleton];omega)
   ·refine⟨cV hL h1 eX,?_⟩;simp only[ae,eb,el,ea]
theorem ahj{l:List ai}(hL:b9 l){rec:Int->aC->Option (aa×aC)}{g:Nat->PR aa}{dp:Int}(hr:vf l rec (Go.IntKind.wrap .i64 (dp-1)) g){k:Nat}(hk:k<l.length):
 Out l (nI l g k) (M.Aq rec dp (sp l k false)) fun ts k' b'=>(ts,sp l k' b'):=by
 have s0:∀a b x:aa,List.set [a,b] (Int.toNat 0) x=[x,b]:=fun _ _ _=>rfl
 have s1:∀a b x:aa,List.set [a,b] (Int.toNat 1) x=[a,x]:=fun _ _ _=>rfl
 have i0:∀a b:aa,inB 0 [a,b].length=true:=fun _ _=>rfl
 have i1:∀a b:aa,inB 1 [a,b].length=true:=fun _ _=>rfl
 have eU:aa.mk 1 [] [] []=dK:=rfl;unfold M.Aq nI;simp only[fq hL hk [60] false,al,aw,bq,bu,ak,eU,s0,s1,i0,i1];cases h60:aH l [60] k
 ·exact⟨hk,rfl⟩
 ·have hk1:=cV hL hk h60;simp only[ae,cO,aj,fq hL hk1 [95] false,al,aw,bq,bu,ak];cases h95:aH l [95] (k+1)
  ·simp only[aj,bq,ae];have h:=hr (k+1) false hk1;rw[show RB false (k+1) (g (k+1))=g (k+1)from rfl]at h;cases hg:g (k+1)with
   |no k'=>
    rw[hg]at h;obtain⟨h1,v,h2⟩:=h;refine⟨h1,[v,dK],?_⟩;simp only[h2,fq hL h1 [44] true,gI hL h1 [62] true,al,aw,cO,cr,aj,ak,ae,aa.aD]
   |ok a k'=>
    rw[hg]at h;obtain⟨h1,h2⟩:=h;simp only[h2,fq hL h1 [44] false,al,aw,bq,bu,ak,PR.bind,aa.aD];cases iV:aH l [44] k'
    ·simp only[aj,gI hL h1 [62] false,al,aw,bq,bu,ak,ae,cE];cases eX:aH l [62] k'
     ·exact⟨h1,[a,dK],rfl⟩
     ·exact⟨cV hL h1 eX,rfl⟩
    ·have hk2:=cV hL h1 iV;simp only[ae];have hb:=hr (k'+1) false hk2;rw[show RB false (k'+1) (g (k'+1))=g (k'+1)from rfl]at hb;cases hg2:g (k'+1)with
     |no k2=>
      rw[hg2]at hb;obtain⟨q1,v,q2⟩:=hb;refine⟨q1,[a,v],?_⟩;simp only[q2,gI hL q1 [62] true,al,aw,cO,cr,aj,ak,ae,aa.aD,s1,i1]
     |ok c k2=>
      rw[hg2]at hb;obtain⟨q1,q2⟩:=hb;simp only[q2,gI hL q1 [62] false,al,aw,bq,bu,ak,ae,cE,aa.aD,s1,i1];cases eX:aH l [62] k2
      ·exact⟨q1,[a,c],rfl⟩
      ·exact⟨cV hL q1 eX,rfl⟩
  ·have nK:=cV hL hk1 h95;simp only[ae,cO,aj,fq hL nK [44] false,al,aw,bq,bu,ak,PR.bind];rw[show k+1+1=k+2 from rfl]at*;cases iV:aH l [44] (k+2)
   ·simp only[aj,gI hL nK [62] false,al,aw,bq,bu,ak,ae,cE];cases eX:aH l [62] (k+2)
    ·exact⟨nK,[dK,dK],rfl⟩
    ·exact⟨cV hL nK eX,rfl⟩
   ·have hk2:=cV hL nK iV;simp only[ae];have hb:=hr (k+2+1) false hk2;rw[show RB false (k+2+1) (g (k+2+1))=g (k+2+1)from rfl]at hb;cases hg2:g (k+2+1)with
    |no k2=>
     rw[hg2]at hb;obtain⟨q1,v,q2⟩:=hb;refine⟨q1,[dK,v],?_⟩;simp only[q2,gI hL q1 [62] true,al,aw,cO,cr,aj,ak,ae,aa.aD]
    |ok c k2=>
     rw[hg2]at hb;obtain⟨q1,q2⟩:=hb;simp only[q2,gI hL q1 [62] false,al,aw,bq,bu,ak,ae,cE,aa.aD];cases eX:aH l [62] k2
     ·exact⟨q1,[dK,c],rfl⟩
     ·exact⟨cV hL q1 eX,rfl⟩
end M
namespace M
open Go.V (inB bS ad bA)
noncomputable def ki(l:List ai)(rec:Int->aC->Option (aa×aC))(dp K:Int)(t2:List UInt8)(f:Nat)(o4:List (List UInt8))(o5:List aa)(v:List UInt8×List aa)(k:Nat)(b:Bool):Option ((List M.ai)×Int×Bool×Int×(List UInt8)×(List (List UInt8))×(List M.aa)):=
 bif !b&&aH l [125] k then some (l,((k+1:Nat):Int),b,K,t2,o4++[v.1],o5++v.2)
 else M.jR rec dp K t2 f (bif decide ((16:Int)<=(((o4++[v.1]).length:Nat):Int))then sp l k true else bif !b&&aH l [44] k then sp l (k+1) b else sp l k true) (o4++[v.1]) (o5++v.2)
theorem Ri{l:List ai}(hL:b9 l){rec:Int->aC->Option (aa×aC)}{g:Nat->PR aa}{dp K:Int}{t2:List UInt8}{f:Nat}{o4:List (List UInt8)}{o5:List aa}(hr:vf l rec (Go.IntKind.wrap .i64 (dp-1)) g)
 (h4:o4.length<=1000) (h5:o5.length<=1000) {p:aC} (hb:aC.bad p=false) {w:List UInt8} {k1:Nat} {b1:Bool} (hname:M.gd p=some (w,sp l k1 b1)) (hk:k1<l.length):
 Out l (RB b1 k1 (oP l K g w k1)) (some (M.jR rec dp K t2 (f+1) p o4 o5)) fun v k' b'=>ki l rec dp K t2 f o4 o5 v k' b':=by
 have el:∀k b,aC.list (sp l k b)=l:=fun _ _=>rfl
 have ea:∀k b,aC.at_ (sp l k b)=(k:Int):=fun _ _=>rfl
 have eb:∀k b,aC.bad (sp l k b)=b:=fun _ _=>rfl
 have eu:aa.mk 1 [] [] []=dK:=rfl;rw[M.jR];unfold oP;simp only[hb,bq,ae,hname,al,aw,dL h4,ak,bu];cases h16:(K==(16:Int))
 ·cases h17:(K==(17:Int))
  ·simp only[aj,fq hL hk [125] b1,al,aw,de,ak,bu];have key:∀o,o=ki l rec dp K t2 f o4 o5 (w,[]) k1 b1->Out l (RB b1 k1 (PR.ok (w,[]) k1)) (some o) fun v k' b'=>ki l rec dp K t2 f o4 o5 v k' b':=fun o e=>by
    rw[e];cases b1
    ·exact⟨hk,rfl⟩
    ·exact⟨hk,_,rfl⟩
   apply key;unfold ki;cases hc:(!b1&&aH l [125] k1)
   ·simp only[aj,lL hL hk,al,aw,ak,ae,uE]
   ·simp only[ae,el,ea,eb,uE]
  ·simp only[aj,ae,fq hL hk [40] b1,al,aw,de,ak,bu];cases mL:(!b1&&aH l [40] k1)
   ·simp only[aj,fq hL hk [125] b1,al,aw,lH,dL h5,ak,bu,mg,eu];have key:∀o,o=ki l rec dp K t2 f o4 o5 (w,[dK]) k1 b1->Out l (RB b1 k1 (bif aH l [40] k1 then(g (k1+1)).bind fun t k3=>(cE l [41] k3).bind fun _ k4=>PR.ok (w,[t]) k4 else PR.ok (w,[dK]) k1)) (some o) fun v k' b'=>ki l rec dp K t2 f o4 o5 v k' b':=fun o e=>by
     rw[e];cases b1
     ·have:aH l [40] k1=false:=by simpa using mL
      rw[this];exact⟨hk,rfl⟩
     ·exact⟨hk,_,rfl⟩
    apply key;unfold ki;cases hc:(!b1&&aH l [125] k1)
    ·simp only[aj,lL hL hk,al,aw,ak,ae]
    ·simp only[ae,el,ea,eb]
   ·rw[cC,fE]at mL;obtain⟨hb1,mL⟩:=mL;subst hb1;rw[mL];have hk2:=cV hL hk mL;have cq:=hr (k1+1) false hk2;rw[show RB false (k1+1) (g (k1+1))=g (k1+1)from rfl]at cq;rw[show ∀r:PR (List UInt8×List aa),RB false k1 r=r from fun _=>rfl];simp only[ae];cases hg:g (k1+1)with
    |no k'=>
     rw[hg]at cq;obtain⟨h1,v,h2⟩:=cq;refine⟨h1,(w,[v]),ot some ?_⟩;simp only[h2,gI hL h1 [41] true,al,aw,cO,cr,aj,fq hL h1 [125] true,lL hL h1,lH,dL h5,ak,bu,mg,aa.aD,ae];unfold ki;simp only[cO,cr,aj]
    |ok v k'=>
     rw[hg]at cq;obtain⟨h1,h2⟩:=cq;simp only[h2,gI hL h1 [41] false,al,aw,bq,bu,PR.bind,cE];cases oQ:aH l [41] k'
     ·refine⟨h1,(w,[v]),ot some ?_⟩;simp only[aj,fq hL h1 [125] true,lL hL h1,al,aw,cO,cr,lH,dL h5,ak,bu,mg,aa.aD,ae];unfold ki;simp only[cO,cr,aj]
     ·have h1':=cV hL h1 oQ;refine⟨h1',ot some ?_⟩;simp only[ae,fq hL h1' [125] false,al,aw,bq,lH,dL h5,ak,bu,mg,aa.aD];unfold ki;simp only[bq,bu];cases hc:aH l [125] (k'+1)
      ·simp only[aj,lL hL h1',al,aw,ak,ae,bq,bu]
      ·simp only[ae,el,ea,eb]
 ·simp only[ae,gI hL hk [58] b1,al,aw];cases hc:(!b1&&aH l [58] k1)
  ·simp only[aj];have cq:=hr k1 true hk;obtain⟨h1,v,h2⟩:=cq;have:RB b1 k1 ((cE l [58] k1).bind fun _ k2=>(g k2).bind fun t k3=>PR.ok (w,[t]) k3)=PR.no k1:=by
    cases b1
    ·have:aH l [58] k1=false:=by simpa using hc
     unfold cE;rw[this];rfl
    ·rfl
   rw[this];refine⟨hk,(w,[v]),ot some ?_⟩;simp only[h2,fq hL hk [125] true,lL hL hk,al,aw,cO,cr,aj,lH,dL h5,ak,bu,mg,aa.aD,ae];unfold ki;simp only[cO,cr,aj]
  ·rw[cC,fE]at hc;obtain⟨hb1,hc⟩:=hc;subst hb1;have hk2:=cV hL hk hc;simp only[ae];have cq:=hr (k1+1) false hk2;rw[show RB false (k1+1) (g (k1+1))=g (k1+1)from rfl]at cq;rw[show RB false k1 ((cE l [58] k1).bind fun _ k2=>(g k2).bind fun t k3=>PR.ok (w,[t]) k3)=(g (k1+1)).bind fun t k3=>PR.ok (w,[t]) k3 by unfold cE;rw[hc];rfl];cases hg:g (k1+1)with
   |no k'=>
    rw[hg]at cq;obtain⟨h1,v,h2⟩:=cq;refine⟨h1,(w,[v]),ot some ?_⟩;simp only[h2,fq hL h1 [125] true,lL hL h1,al,aw,cO,cr,aj,lH,dL h5,ak,bu,mg,aa.aD,ae];unfold ki;simp only[cO,cr,aj]
   |ok v k'=>
    rw[hg]at cq;obtain⟨h1,h2⟩:=cq;refine⟨h1,ot some ?_⟩;simp only[h2,fq hL h1 [125] false,al,aw,bq,lH,dL h5,ak,bu,mg,aa.aD];unfold ki;simp only[bq,bu];cases hc:aH l [125] k'
    ·simp only[aj,lL hL h1,al,aw,ak,ae,bq,bu]
    ·simp only[ae,el,ea,eb]
theorem ahk{l:List ai}(hL:b9 l)(hT:∀t∈l,t.Text.length<=30000){rec:Int->aC->Option (aa×aC)}{g:Nat->PR aa}{dp K:Int}{t2:List UInt8}(hr:vf l rec (Go.IntKind.wrap .i64 (dp-1)) g):
 ∀(f m:Nat)(ps:List (List UInt8×List aa))(k:Nat),m+1<f->k<l.length->ps.length+(m+1)=16->(∀p∈ps,p.2.length<=1)->
 Out l (lK l (gK l K g) [125] m ps k) (M.jR rec dp K t2 f (sp l k false) (ps.map (·.1)) (ps.map (·.2)).flatten) fun vs k' b'=>(l,(k':Int),b',K,t2,vs.map (·.1),(vs.map (·.2)).flatten):=by
 intro f
 induction f with
 |zero=>intro m ks k h;omega
 |succ f ih=>
  intro m ps k hf hk hps An;obtain⟨f',rfl⟩:∃f',f=f'+1:=⟨f-1,by omega⟩;have hfl:=K9 ps An;have mA:∀v:List UInt8×List aa,ps.map (·.1)++[v.1]=(ps++[v]).map (·.1):=fun v=>by rw[lj];rfl
  have mB:∀v:List UInt8×List aa,(ps.map (·.2)).flatten++v.2=((ps++[v]).map (·.2)).flatten:=fun v=>by rw[lj,List.flatten_append];simp
  have hend:∀(k:Nat)(xs:List (List UInt8))(ys:List aa),M.jR rec dp K t2 (f'+1) (sp l k true) xs ys=some (l,(k:Int),true,K,t2,xs,ys):=fun k xs ys=>by
   rw[M.jR];rfl
  have hn:=xx hL hT hk false;rw[bq,bu]at hn;have h:Out l (gK l K g k) (some (M.jR rec dp K t2 (f'+1+1) (sp l k false) (ps.map (·.1)) (ps.map (·.2)).flatten)) fun v k' b'=>ki l rec dp K t2 (f'+1) (ps.map (·.1)) (ps.map (·.2)).flatten v k' b':=by
   rw[EG];unfold gX;cases hc:gW l k
   ·rw[hc]at hn;exact Ri hL (K:=K) (t2:=t2) (f:=f'+1) hr (by rw[dD];omega) (by omega) (show aC.bad (sp l k false)=false from rfl) hn hk
   ·rw[hc]at hn;exact Ri hL (K:=K) (t2:=t2) (f:=f'+1) hr (by rw[dD];omega) (by omega) (show aC.bad (sp l k false)=false from rfl) hn (xB hL hk hc)
  rw[lK];cases hg:gK l K g k with
  |no k'=>
   rw[hg]at h;obtain⟨h1,v,h2⟩:=h;refine⟨h1,ps++[v],?_⟩;rw[iP h2];unfold ki;simp only[cO,cr,aj,mA,mB];cases decide ((16:Int)<=((((ps++[v]).map (·.1)).length:Nat):Int))<;>exact hend k' _ _
  |ok v k'=>
   have hv:=Re hg;rw[hg]at h;obtain⟨h1,h2⟩:=h;simp only[iP h2];unfold ki;simp only[bq,bu,mA,mB];cases ahl:aH l [125] k'
   ·simp only[aj];have hlen:((((ps++[v]).map (·.1)).length:Nat):Int)=(16:Int)-(m:Int):=by rw[dD,aM,List.length_singleton];omega
    cases m with
    |zero=>
     rw[aO (show(16:Int)<=((((ps++[v]).map (·.1)).length:Nat):Int) by omega)];exact⟨h1,ps++[v],hend k' _ _⟩
    |succ m=>
     rw[db (show ¬(16:Int)<=((((ps++[v]).map (·.1)).length:Nat):Int) by omega)];simp only[aj];cases iV:aH l [44] k'
     ·exact⟨h1,ps++[v],hend k' _ _⟩
     ·refine ih m (ps++[v]) (k'+1) (by omega) (cV hL h1 iV) (by rw[aM,List.length_singleton];omega) ?_;intro p hp;rcases aQ.1 hp with q|q
      ·exact An p q
      ·rw[iE.1 q];exact hv
   ·exact⟨cV hL h1 ahl,rfl⟩
theorem ahm{l:List ai}(hL:b9 l)(hT:∀t∈l,t.Text.length<=30000){rec:Int->aC->Option (aa×aC)}{g:Nat->PR aa}{dp K:Int}(hr:vf l rec (Go.IntKind.wrap .i64 (dp-1)) g){k:Nat}(hk:k<l.length):
 Out l ((cE l [123] k).bind fun _ k2=>(d4 l (gK l K g) 15 [] k2).bind fun ps k3=>(cE l [125] k3).bind fun _ k4=>.ok ps k4) (M.mP rec dp (sp l k false) K [] [] []) fun vs k' b'=>(sp l k' b',K,[],vs.map (·.1),(vs.map (·.2)).flatten):=by
 unfold M.mP cE;simp only[gI hL hk [123] false,bq,bu,al,aw,ak,ae];cases EK:aH l [123] k
 ·obtain⟨n,hn⟩:∃n,ad=n+1:=⟨ad-1,by have:=bA;omega⟩;refine⟨hk,[],?_⟩;simp only[aj];rw[hn,M.jR];rfl
 ·have hk2:=cV hL hk EK;have e:=ahk hL hT (K:=K) (t2:=[]) hr ad 15 [] (k+1) (by have:=bA;omega) hk2 rfl (by simp);rw[Ap l _ [125] (by decide)]at e;simp only[ae];rw[show(([]:List (List UInt8×List aa)).map (·.1))=[]from rfl,show(([]:List (List UInt8×List aa)).map (·.2)).flatten=[]from rfl]at e;rw[show(PR.ok () (k+1)).bind (fun _ k2=>(d4 l (gK l K g) 15 [] k2).bind fun ps k3=>(bif aH l [125] k3 then PR.ok () (k3+1)else PR.no k3).bind fun _ k4=>PR.ok ps k4)=(d4 l (gK l K g) 15 [] (k+1)).bind fun ps k3=>(bif aH l [125] k3 then PR.ok () (k3+1)else PR.no k3).bind fun _ k4=>PR.ok ps k4 from rfl];unfold cE at e;unfold Out at e⊢;cases hc:(d4 l (gK l K g) 15 [] (k+1)).bind fun ps k3=>(bif aH l [125] k3 then PR.ok () (k3+1)else PR.no k3).bind fun _ k4=>PR.ok ps k4 with
  |ok v k'=>
   rw[hc]at e;obtain⟨h1,h2⟩:=e;refine⟨h1,?_⟩;rw[h2];rfl
  |no k'=>
   rw[hc]at e;obtain⟨h1,v,h2⟩:=e;refine⟨h1,v,?_⟩;rw[h2];rfl
end M
namespace M
open Go.V (inB bS ad bA)
theorem Rj(rec:Int->aC->Option (aa×aC)){l:List ai}(hL:b9 l)(hT:∀t∈l,t.Text.length<=30000)(dp:Int){k:Nat}(hk:k<l.length)(b:Bool)(h:b=true\/dp=0):
 ∃v,M.vg rec dp (sp l k b)=some (v,sp l k true):=by
 have hn:=xx hL hT hk true;have e:(b||(dp==(0:Int)))=true:=by rcases h with q|q<;>rw[q]<;>simp
 refine⟨aa.mk 0 [] [] [],?_⟩;unfold M.vg;rw[show(aC.mk (aC.list (sp l k b)) (aC.at_ (sp l k b)) ((aC.bad (sp l k b))||(dp==(0:Int))))=sp l k true by
  show aC.mk l (k:Int) (b||(dp==(0:Int)))=_
  rw[e];rfl]
 rw[hn];simp only[cO,cr,aj,aw,al,EC,Ah,ak,ae];rfl
theorem ahn{l:List ai}(hL:b9 l)(hT:∀t∈l,t.Text.length<=30000){rec:Int->aC->Option (aa×aC)}{dp:Int}{d:Nat}(hdp:dp≠0)(hr:vf l rec (Go.IntKind.wrap .i64 (dp-1)) (d5 l d))
 {k:Nat} (hk:k<l.length):Out l (d5 l (d+1) k) (M.vg rec dp (sp l k false)) fun v k' b'=>(v,sp l k' b'):=by
 have el:∀k b,aC.list (sp l k b)=l:=fun _ _=>rfl
 have ea:∀k b,aC.at_ (sp l k b)=(k:Int):=fun _ _=>rfl
 have eb:∀k b,aC.bad (sp l k b)=b:=fun _ _=>rfl
 have ep:∀(k:Nat) b,aC.mk l (k:Int) b=sp l k b:=fun _ _=>rfl
 have hn:=xx hL hT hk false;have e0:(dp==(0:Int))=false:=bE.2 hdp;unfold M.vg;rw[el,ea,eb,e0,uy,ep,d5,hn];unfold gX;cases hnm:gW l k
 ·refine⟨hk,aa.mk (dO []) [] [] [],?_⟩;simp only[Bool.and_false,aj,aw,al,eb,EC,ak,ae]
 ·have hk1:=xB hL hk hnm;simp only[bq,ak,ae,aw,al,EC,PR.bind,eb,aj];generalize hw:(bZ l k).Text=w;have hbd:=EB w;by_cases h0:dO w=0
  ·rw[h0];exact⟨hk1,rfl⟩
  ·rw[show(dO w==0)=false from bE.2 h0];simp only[aj];generalize dO w=K at*;by_cases hA:K=12\/K=13\/K=22\/K=23
   ·have c1:(bif K==12 then K==12 else bif K==13 then K==13 else bif K==22 then K==22 else K==23)=true:=by
     rcases hA with q|q|q|q<;>rw[q]<;>rfl
    have c2:((K==12)||((K==13)||((K==22)||(K==23))))=true:=by
     rcases hA with q|q|q|q<;>rw[q]<;>rfl
    rw[c1,c2];simp only[ae,gI hL hk1 [60] false,al,aw,bq,bu,du,ak];unfold cE;cases h60:aH l [60] (k+1)
    ·simp only[aj];obtain⟨h1,v,h2⟩:=hr (k+1) true hk1;refine⟨hk1,aa.mk K [] [] [v],?_⟩;simp only[h2,gI hL hk1 [62] true,al,aw,cO,cr,aj,du,bu,ak,ae,aa.aD]
    ·have hk2:=cV hL hk1 h60;simp only[ae];have cq:=hr (k+1+1) false hk2;rw[show RB false (k+1+1) (d5 l d (k+1+1))=d5 l d (k+1+1)from rfl]at cq;cases hg:d5 l d (k+1+1)with
     |no k'=>
      rw[hg]at cq;obtain⟨h1,v,h2⟩:=cq;refine⟨h1,aa.mk K [] [] [v],?_⟩;simp only[h2,gI hL h1 [62] true,al,aw,cO,cr,aj,du,bu,ak,ae,aa.aD]
     |ok v k'=>
      rw[hg]at cq;obtain⟨h1,h2⟩:=cq;simp only[h2,gI hL h1 [62] false,al,aw,bq,bu,du,ak,ae,aa.aD];cases eX:aH l [62] k'
      ·exact⟨h1,aa.mk K [] [] [v],rfl⟩
      ·exact⟨cV hL h1 eX,rfl⟩
   ·have e1:(K==12)=false:=by rw[bE];omega
    have e2:(K==13)=false:=by rw[bE];omega
    have e3:(K==22)=false:=by rw[bE];omega
    have e4:(K==23)=false:=by rw[bE];omega
    simp only[e1,e2,e3,e4,aj,uy];by_cases h15:K=15
    ·rw[h15];have n14:((15:Int)==14)=false:=rfl;simp only[n14,de,aj,ae,gI hL hk1 [60] false,al,aw,bq,bu,du,ak];unfold cE;cases h60:aH l [60] (k+1)
     ·obtain⟨n,hn⟩:∃n,ad=n+1:=⟨ad-1,by have:=bA;omega⟩;refine⟨hk1,aa.mk 15 [] [] [],?_⟩;simp only[aj];rw[hn,M.qL];rfl
     ·have hk2:=cV hL hk1 h60;simp only[ae];have e:=ahi hL hr 0 [] 15 [] [] [] [] ad 5 [] (k+1+1) (by have:=bA;omega) hk2 rfl;rw[Ap l _ [62] (by decide)]at e;unfold cE at e;cases hg:d4 l (d5 l d) 5 [] (k+1+1)with
      |no k'=>
       rw[hg]at e;obtain⟨h1,v,h2⟩:=e;refine⟨h1,aa.mk 15 [] [] v,?_⟩;simp only[h2];rfl
      |ok v k'=>
       rw[hg]at e;simp only[PR.bind]at e⊢;cases eX:aH l [62] k'
       ·rw[eX]at e;obtain⟨h1,v,h2⟩:=e;refine⟨h1,aa.mk 15 [] [] v,?_⟩;simp only[h2];rfl
       ·rw[eX]at e;obtain⟨h1,h2⟩:=e;refine⟨h1,?_⟩;simp only[h2];rfl
    ·have e15:(K==15)=false:=bE.2 h15;simp only[e15,aj];by_cases vd:K=14
     ·rw[vd];have m20:((14:Int)==20)=false:=rfl;have m21:((14:Int)==21)=false:=rfl;simp only[m20,m21,de,ae,aj,uy];have cq:=ahj hL hr hk1;cases hg:nI l (d5 l d) (k+1)with
      |no k'=>
       rw[hg]at cq;obtain⟨h1,v,h2⟩:=cq;refine⟨h1,aa.mk 14 [] [] v,?_⟩;simp only[h2,al,aw,du,bu,ak,ae]
      |ok v k'=>
       rw[hg]at cq;obtain⟨h1,h2⟩:=cq;refine⟨h1,?_⟩;simp only[h2,al,aw,du,bu,ak,ae]
     ·have e14:(K==14)=false:=bE.2 vd;simp only[e14,aj];by_cases hB:K=20\/K=21
      ·have c1:(bif K==20 then K==20 else K==21)=true:=by rcases hB with q|q<;>rw[q]<;>rfl
       have c2:((K==20)||(K==21))=true:=by rcases hB with q|q<;>rw[q]<;>rfl
       rw[c1,c2];simp only[ae,gI hL hk1 [60] false,al,aw,bq,bu,du,ak];unfold cE mf;cases h60:aH l [60] (k+1)
       ·refine⟨hk1,aa.mk K [] [] [],?_⟩;simp only[aj,K8 hL hT hk1 true,gI hL hk1 [62] true,al,aw,cO,cr,du,bu,ak,ae]
       ·have hk2:=cV hL hk1 h60;simp only[ae,K8 hL hT hk2 false,al,aw,bq,bu,du,ak];cases hid:mM l (k+1+1)
        ·refine⟨hk2,aa.mk K [] [] [],?_⟩;simp only[aj,gI hL hk2 [62] true,al,aw,cO,cr,du,bu,ak,ae]
        ·have hk3:=EJ hL hk2 hid;simp only[ae,gI hL hk3 [62] false,al,aw,bq,bu,du,ak];cases eX:aH l [62] (k+1+1+1)
         ·exact⟨hk3,aa.mk K (bZ l (k+1+1)).Text [] [],rfl⟩
         ·exact⟨cV hL hk3 eX,rfl⟩
      ·have f1:(K==20)=false:=by rw[bE];omega
       have f2:(K==21)=false:=by rw[bE];omega
       simp only[f1,f2,aj,uy];by_cases hC:K=16\/K=17\/K=18\/K=19
       ·have c1:(bif K==16 then K==16 else bif K==17 then K==17 else bif K==18 then K==18 else K==19)=true:=by
         rcases hC with q|q|q|q<;>rw[q]<;>rfl
        have c2:((K==16)||((K==17)||((K==18)||(K==19))))=true:=by
         rcases hC with q|q|q|q<;>rw[q]<;>rfl
        rw[c1,c2];simp only[ae];have e:=ahm hL hT (K:=K) hr hk1;have fin:∀(r:PR (List (List UInt8×List aa))),Out l r (M.mP rec dp (sp l (k+1) false) K [] [] []) (fun vs k' b'=>(sp l k' b',K,[],vs.map (·.1),(vs.map (·.2)).flatten))->
         Out l (r.bind fun ps k4=>PR.ok (aa.mk K [] (ps.map (·.1)) (ps.map (·.2)).flatten) k4) (bif(Option.isSome (M.mP rec dp (sp l (k+1) false) K [] [] []))then some (aa.mk (Option.getD (M.mP rec dp (sp l (k+1) false) K [] [] []) Inhabited.default).2.1 (Option.getD (M.mP rec dp (sp l (k+1) false) K [] [] []) Inhabited.default).2.2.1 (Option.getD (M.mP rec dp (sp l (k+1) false) K [] [] []) Inhabited.default).2.2.2.1 (Option.getD (M.mP rec dp (sp l (k+1) false) K [] [] []) Inhabited.default).2.2.2.2,(Option.getD (M.mP rec dp (sp l (k+1) false) K [] [] []) Inhabited.default).1)else none) fun v k' b'=>(v,sp l k' b'):=by
         intro r hr;cases r with
         |no k'=>
          obtain⟨h1,v,h2⟩:=hr;refine⟨h1,aa.mk K [] (v.map (·.1)) (v.map (·.2)).flatten,?_⟩;rw[h2];rfl
         |ok v k'=>
          obtain⟨h1,h2⟩:=hr;refine⟨h1,?_⟩;rw[h2];rfl
        have:=fin _ e;simp only[du,bu,eB,ak];unfold cE at this⊢;cases EK:aH l [123] (k+1)
        ·rw[EK]at this;exact this
        ·rw[EK]at this;simp only[ae,PR.bind]at this⊢;cases hg:d4 l (gK l K (d5 l d)) 15 [] (k+1+1)with
         |no k'=>rw[hg]at this;exact this
         |ok v k'=>
          rw[hg]at this;simp only at this⊢;cases eX:aH l [125] k'
          ·rw[eX]at this;exact this
          ·rw[eX]at this;exact this
       ·have g1:(K==16)=false:=by rw[bE];omega
        have g2:(K==17)=false:=by rw[bE];omega
        have g3:(K==18)=false:=by rw[bE];omega
        have g4:(K==19)=false:=by rw[bE];omega
        rw[g1,g2,g3,g4];refine⟨hk1,?_⟩;simp only[aj,uy,du,bu,ak,ae]
theorem Rk{l:List ai}(hL:b9 l)(hT:∀t∈l,t.Text.length<=30000):∀(n d:Nat),d<n->d<=4->vf l (M.sC n) (d:Int) (d5 l d)
 |0,d,h,_=>by omega
 |n+1,d,h,h4=>fun k b hk=>by
  show Out l _ (M.vg (M.sC n) (d:Int) (sp l k b)) _
  cases b with
  |true=>
   obtain⟨v,e⟩:=Rj (M.sC n) hL hT (d:Int) hk true (Or.inl rfl);exact⟨hk,v,e⟩
  |false=>
   cases d with
   |zero=>
    obtain⟨v,e⟩:=Rj (M.sC n) hL hT 0 hk false (Or.inr rfl);exact⟨hk,v,e⟩
   |succ d=>
    have hw:Go.IntKind.wrap .i64 (((d+1:Nat):Int)-1)=(d:Int):=by rw[wrap_i64 (by omega) (by omega)];omega
    have hr:=Rk hL hT n d (by omega) (by omega);rw[<-hw]at hr;exact ahn hL hT (by omega) hr hk
end M
namespace M
open Go.V (inB bS ad bA)
def At{α:Type}(r:PR α)(v:α)(k:Nat)(b:Bool):Prop:=(r=.ok v k/\b=false)\/(r=.no k/\b=true)
theorem Out.at{α β:Type}{l:List ai}{r:PR α}{o:Option β}{F:α->Nat->Bool->β}(h:Out l r o F):∃v k b,k<l.length/\At r v k b/\o=some (F v k b):=by
 cases r with
 |ok v k=>exact⟨v,k,false,h.1,Or.inl ⟨rfl,rfl⟩,h.2⟩
 |no k=>obtain⟨h1,v,h2⟩:=h;exact⟨v,k,true,h1,Or.inr ⟨rfl,rfl⟩,h2⟩
theorem At.out{α β:Type}{l:List ai}{r:PR α}{o:Option β}{F:α->Nat->Bool->β}{v:α}{k:Nat}{b:Bool}(hk:k<l.length)(h:At r v k b)(ho:o=some (F v k b)):Out l r o F:=by
 rcases h with⟨e1,e2⟩|⟨e1,e2⟩
 ·rw[e1];rw[e2]at ho;exact⟨hk,ho⟩
 ·rw[e1];rw[e2]at ho;exact⟨hk,v,ho⟩
theorem vh{α β:Type}(b:Bool)(k:Nat)(r:PR α)(f:α->Nat->PR β):RB b k (r.bind f)=(RB b k r).bind f:=by cases b<;>rfl
theorem At.bind{α β:Type}{r:PR α}{f:α->Nat->PR β}{v:α}{w:β}{k1 k2:Nat}{b1 b2:Bool}(h:At r v k1 b1)(h2:At (RB b1 k1 (f v k1)) w k2 b2):At (r.bind f) w k2 b2:=by
 rcases h with⟨e1,e2⟩|⟨e1,e2⟩
 ·rw[e1];rw[e2]at h2;exact h2
 ·rw[e1];rw[e2]at h2;exact h2
theorem At.bJ{α β:Type}{r:PR α}{f:α->Nat->PR β}{v:α}{w:β}{k k1 k2:Nat}{b b1 b2:Bool}(h:At (RB b k r) v k1 b1)(h2:At (RB b1 k1 (f v k1)) w k2 b2):At (RB b k (r.bind f)) w k2 b2:=by
 rw[vh];exact h.bind h2
theorem At.ret{α:Type}(v:α)(k:Nat)(b:Bool):At (RB b k (PR.ok v k)) v k b:=by
 cases b
 ·exact Or.inl ⟨rfl,rfl⟩
 ·exact Or.inr ⟨rfl,rfl⟩
theorem At.no{α:Type}(v:α)(k:Nat)(r:PR α):At (RB true k r) v k true:=Or.inr ⟨rfl,rfl⟩
theorem lM{α:Type}{l:List ai}{t:List UInt8}{k:Nat}{b:Bool}(h:(!b&&aH l t k)=true)(x y:PR α):RB b k (bif aH l t k then x else y)=x:=by
 rw[cC,fE]at h;rw[h.1,h.2];rfl
theorem mQ{α:Type}{l:List ai}{t:List UInt8}{k:Nat}{b:Bool}(h:(!b&&aH l t k)=false)(x y:PR α):RB b k (bif aH l t k then x else y)=RB b k y:=by
 cases b
 ·have:aH l t k=false:=by simpa using h
  rw[this];rfl
 ·rfl
theorem mR{l:List ai}(hL:b9 l){t:List UInt8}{k:Nat}{b:Bool}(hk:k<l.length)(h:(!b&&aH l t k)=true):k+1<l.length/\b=false:=by
 rw[cC,fE]at h;exact⟨cV hL hk h.2,h.1⟩
theorem lN(l:List ai)(k:Nat)(b:Bool):ar.mk l (k:Int) b=ip l k b:=rfl
theorem kQ(l:List ai)(k:Nat)(b:Bool):ar.list (ip l k b)=l:=rfl
theorem jS(l:List ai)(k:Nat)(b:Bool):ar.at_ (ip l k b)=(k:Int):=rfl
theorem ig(l:List ai)(k:Nat)(b:Bool):ar.bad (ip l k b)=b:=rfl
theorem kj(l:List ai)(k:Nat)(b:Bool):aC.mk l (k:Int) b=sp l k b:=rfl
theorem jc(l:List ai)(k:Nat)(b:Bool):aC.list (sp l k b)=l:=rfl
theorem jd(l:List ai)(k:Nat)(b:Bool):aC.at_ (sp l k b)=(k:Int):=rfl
theorem iw(l:List ai)(k:Nat)(b:Bool):aC.bad (sp l k b)=b:=rfl
theorem jB{l:List ai}(hL:b9 l){k:Nat}(hk:k<l.length){t:List UInt8}(hn:so t)(b:Bool):∃k' b',k'<l.length/\At (RB b k (cE l t k)) () k' b'/\M.dj t (ip l k b)=some (ip l k' b'):=by
 rw[fe hL hk hn b];unfold cE;cases h:(!b&&aH l t k)
 ·refine⟨k,true,hk,?_,rfl⟩;rw[mQ h];exact Or.inr ⟨by cases b<;>rfl,rfl⟩
 ·obtain⟨h1,h2⟩:=mR hL hk h;refine⟨k+1,b,h1,?_,rfl⟩;rw[lM h,h2];exact Or.inl ⟨rfl,rfl⟩
theorem km{l:List ai}(hL:b9 l){k:Nat}(hk:k<l.length)(t:List UInt8)(b:Bool):∃k' b',k'<l.length/\At (RB b k (cE l t k)) () k' b'/\M.dI t (sp l k b)=some (sp l k' b'):=by
 rw[gI hL hk t b];unfold cE;cases h:(!b&&aH l t k)
 ·refine⟨k,true,hk,?_,rfl⟩;rw[mQ h];exact Or.inr ⟨by cases b<;>rfl,rfl⟩
 ·obtain⟨h1,h2⟩:=mR hL hk h;refine⟨k+1,b,h1,?_,rfl⟩;rw[lM h,h2];exact Or.inl ⟨rfl,rfl⟩
theorem xC{l:List ai}{k:Nat}(hk:k<l.length){c:Bool}(hc:c=true->k+1<l.length)(w:List UInt8)(b:Bool){β:Type}(st:Nat->Bool->β):
 ∃v k' b',k'<l.length/\At (RB b k (bif c then PR.ok w (k+1)else PR.no k)) v k' b'/\(some (bif !b&&c then(w,st (k+1) b)else([],st k true)):Option (List UInt8×β))=some (v,st k' b')/\(b'=true->v=[]):=by
 cases b with
 |true=>exact⟨[],k,true,hk,Or.inr ⟨rfl,rfl⟩,rfl,fun _=>rfl⟩
 |false=>cases c with
  |true=>exact⟨w,k+1,false,hc rfl,Or.inl ⟨rfl,rfl⟩,rfl,fun h=>by cases h⟩
  |false=>exact⟨[],k,true,hk,Or.inr ⟨rfl,rfl⟩,rfl,fun _=>rfl⟩
theorem Rl{l:List ai}(hL:b9 l){k:Nat}(hk:k<l.length)(h:su l k=true):k+1<l.length:=by
 unfold su at h;rw[cC,dJ]at h;refine hL.next hk ?_;have:=h.1;unfold bZ at this;rw[this];decide
theorem vi{l:List ai}(hL:b9 l)(hT:∀t∈l,t.Text.length<=30000){k:Nat}(hk:k<l.length)(b:Bool):∃v k' b',k'<l.length/\At (RB b k (gX l k)) v k' b'/\M.gJ (ip l k b)=some (v,ip l k' b')/\(b'=true->v=[]):=by
 rw[Ez hL hT hk b];exact xC hk (xB hL hk) _ b fun k b=>ip l k b
theorem vj{l:List ai}(hL:b9 l)(hT:∀t∈l,t.Text.length<=30000){k:Nat}(hk:k<l.length)(b:Bool):∃v k' b',k'<l.length/\At (RB b k (gX l k)) v k' b'/\M.gd (sp l k b)=some (v,sp l k' b')/\(b'=true->v=[]):=by
 rw[xx hL hT hk b];exact xC hk (xB hL hk) _ b fun k b=>sp l k b
theorem EL{l:List ai}(hL:b9 l)(hT:∀t∈l,t.Text.length<=30000){k:Nat}(hk:k<l.length)(b:Bool):∃v k' b',k'<l.length/\At (RB b k (mf l k)) v k' b'/\M.mN (ip l k b)=some (v,ip l k' b')/\(b'=true->v=[]):=by
 rw[K7 hL hT hk b];exact xC hk (EJ hL hk) _ b fun k b=>ip l k b
theorem EM{l:List ai}(hL:b9 l)(hT:∀t∈l,t.Text.length<=30000){k:Nat}(hk:k<l.length)(b:Bool):∃v k' b',k'<l.length/\At (RB b k (mf l k)) v k' b'/\M.mO (sp l k b)=some (v,sp l k' b')/\(b'=true->v=[]):=by
 rw[K8 hL hT hk b];exact xC hk (EJ hL hk) _ b fun k b=>sp l k b
theorem Rm{l:List ai}(hL:b9 l)(hT:∀t∈l,t.Text.length<=30000){k:Nat}(hk:k<l.length)(b:Bool):∃v k' b',k'<l.length/\At (RB b k (EF l k)) v k' b'/\M.sx (ip l k b)=some (v,ip l k' b')/\(b'=true->v=[]):=by
 rw[ag4 hL hT hk b];exact xC hk (Rl hL hk) _ b fun k b=>ip l k b
theorem Rn{l:List ai}(hL:b9 l){k:Nat}(hk:k<l.length)(b:Bool):∃v k' b',k'<l.length/\At (RB b k (EF l k)) v k' b'/\M.sy (sp l k b)=some (v,sp l k' b')/\(b'=true->v=[]):=by
 rw[ag6 hL hk b];exact xC hk (Rl hL hk) _ b fun k b=>sp l k b
theorem EN{l:List ai}(hL:b9 l)(hT:∀t∈l,t.Text.length<=30000){k:Nat}(hk:k<l.length)(b:Bool):∃v k' b',k'<l.length/\At (RB b k (d5 l 4 k)) v k' b'/\M.qM 1 (ip l k b)=some (v,ip l k' b'):=
 (Rh hL hT ad 4 1 (by have:=bA;omega) (by omega) (by omega) k b hk).at
theorem La{l:List ai}(hL:b9 l)(hT:∀t∈l,t.Text.length<=30000){k:Nat}(hk:k<l.length)(b:Bool):∃v k' b',k'<l.length/\At (RB b k (d5 l 4 k)) v k' b'/\M.sD 4 (sp l k b)=some (v,sp l k' b'):=
 (Rk hL hT ad 4 (by have:=bA;omega) (by omega) k b hk).at
def oR(l:List ai)(k:Nat):PR bf:=(gX l k).bind fun a k1=>
 bif aH l [47] k1 then(gX l (k1+1)).bind fun b k2=>
  bif aH l [64] k2 then(EF l (k2+1)).bind fun v k3=>.ok (bf.mk a b v) k3 else .ok (bf.mk a b []) k2
 else .ok (bf.mk [] a []) k1
theorem Lc{l:List ai}(hL:b9 l)(hT:∀t∈l,t.Text.length<=30000){k:Nat}(hk:k<l.length)(b:Bool):∃v k' b',k'<l.length/\At (RB b k (oR l k)) v k' b'/\M.mS (ip l k b)=some (v,ip l k' b'):=by
 obtain⟨v1,k1,b1,h1,a1,e1,-⟩:=vi hL hT hk b;unfold M.mS oR;simp only[e1,iU hL h1 (cU 47 (by decide)) b1,aw,al,ak];cases h47:(!b1&&aH l [47] k1)
 ·refine⟨bf.mk [] v1 [],k1,b1,h1,a1.bJ ?_,rfl⟩;rw[mQ h47];exact At.ret _ _ _
 ·obtain⟨h2,hb⟩:=mR hL h1 h47;subst hb;obtain⟨v3,k3,b3,h3,a3,e3,-⟩:=vi hL hT h2 false;simp only[ae,e3,iU hL h3 (cU 64 (by decide)) b3,aw,al,ak];cases h64:(!b3&&aH l [64] k3)
  ·refine⟨bf.mk v1 v3 [],k3,b3,h3,a1.bJ ?_,rfl⟩;rw[lM h47];refine At.bind a3 ?_;rw[mQ h64];exact At.ret _ _ _
  ·obtain⟨h4,hb⟩:=mR hL h3 h64;subst hb;obtain⟨v5,k5,b5,h5,a5,e5,-⟩:=Rm hL hT h4 false;refine⟨bf.mk v1 v3 v5,k5,b5,h5,a1.bJ ?_,?_⟩
   ·rw[lM h47];refine At.bind a3 ?_;rw[lM h64];exact At.bind a5 (At.ret _ _ _)
   ·simp only[ae,e5,aw,al,ak]
theorem Ld{l:List ai}(hL:b9 l)(hT:∀t∈l,t.Text.length<=30000){k:Nat}(hk:k<l.length)(b:Bool):∃v k' b',k'<l.length/\At (RB b k (oR l k)) v k' b'/\M.lO (sp l k b)=some (v,sp l k' b'):=by
 obtain⟨v1,k1,b1,h1,a1,e1,-⟩:=vj hL hT hk b;unfold M.lO oR;simp only[e1,fq hL h1 [47] b1,aw,al,ak];cases h47:(!b1&&aH l [47] k1)
 ·refine⟨bf.mk [] v1 [],k1,b1,h1,a1.bJ ?_,rfl⟩;rw[mQ h47];exact At.ret _ _ _
 ·obtain⟨h2,hb⟩:=mR hL h1 h47;subst hb;obtain⟨v3,k3,b3,h3,a3,e3,-⟩:=vj hL hT h2 false;simp only[ae,e3,fq hL h3 [64] b3,aw,al,ak];cases h64:(!b3&&aH l [64] k3)
  ·refine⟨bf.mk v1 v3 [],k3,b3,h3,a1.bJ ?_,rfl⟩;rw[lM h47];refine At.bind a3 ?_;rw[mQ h64];exact At.ret _ _ _
  ·obtain⟨h4,hb⟩:=mR hL h3 h64;subst hb;obtain⟨v5,k5,b5,h5,a5,e5,-⟩:=Rn hL h4 false;refine⟨bf.mk v1 v3 v5,k5,b5,h5,a1.bJ ?_,?_⟩
   ·rw[lM h47];refine At.bind a3 ?_;rw[lM h64];exact At.bind a5 (At.ret _ _ _)
   ·simp only[ae,e5,aw,al,ak]
end M
namespace M
open Go.V (inB bS ad bA)
def kn(l:List ai)(k:Nat):PR ax:=(gX l k).bind fun w k1=>(cE l [58] k1).bind fun _ k2=>(d5 l 4 k2).bind fun t k3=>.ok (ax.mk w t) k3
def mh(l:List ai)(k:Nat):PR aK:=(mf l k).bind fun a k1=>
 bif aH l [97,115] k1 then(mf l (k1+1)).bind fun b k2=>.ok (aK.mk a b) k2 else .ok (aK.mk a []) k1
theorem aho:so [97,115]:=fun d r e=>by cases e;decide
theorem ahp{l:List ai}(hL:b9 l)(hT:∀t∈l,t.Text.length<=30000)(t1:Int)(t12:List UInt8)(t13:Int)(t14:List UInt8)(t15:Bool)(t16 t17 t18:List UInt8)(o3:List (List UInt8))(o4:List aa)(o5:List ax)(o6:List aK)
 (h5:o5.length<=1000) {k:Nat} (hk:k<l.length) (b:Bool):∃v k' b',k'<l.length/\At (RB b k (kn l k)) v k' b'/\
   M.Ar t1 t12 t13 t14 t15 t16 t17 t18 l (k:Int) b o3 o4 o5 o6=some (t1,t12,t13,t14,t15,t16,t17,t18,l,(k':Int),b',o3,o4,o5++[v],o6):=by
 obtain⟨v1,k1,b1,h1,a1,e1,-⟩:=vi hL hT hk b;obtain⟨k2,b2,h2,a2,e2⟩:=jB hL h1 (cU 58 (by decide)) b1;obtain⟨v3,k3,b3,h3,a3,e3⟩:=EN hL hT h2 b2;unfold M.Ar kn;refine⟨ax.mk v1 v3,k3,b3,h3,a1.bJ (a2.bJ (a3.bJ (At.ret _ _ _))),?_⟩;simp only[lN,e1,e2,e3,aw,al,dL h5,ak,ae,kQ,jS,ig,aa.aD]
theorem ahq{l:List ai}(hL:b9 l)(hT:∀t∈l,t.Text.length<=30000)(t1:Int)(t12:List UInt8)(t13:Int)(t14:List UInt8)(t15:Bool)(t16 t17 t18:List UInt8)(o3:List (List UInt8))(o4:List aa)(o5:List ax)(o6:List aK)
 (h6:o6.length<=1000) {k:Nat} (hk:k<l.length) (b:Bool):∃v k' b',k'<l.length/\At (RB b k (mh l k)) v k' b'/\
   M.Au t1 t12 t13 t14 t15 t16 t17 t18 l (k:Int) b o3 o4 o5 o6=some (t1,t12,t13,t14,t15,t16,t17,t18,l,(k':Int),b',o3,o4,o5,o6++[v]):=by
 obtain⟨v1,k1,b1,h1,a1,e1,-⟩:=EL hL hT hk b;unfold M.Au mh;simp only[lN,e1,iU hL h1 aho b1,aw,al,ak];cases h47:(!b1&&aH l [97,115] k1)
 ·refine⟨aK.mk v1 [],k1,b1,h1,a1.bJ ?_,?_⟩
  ·rw[mQ h47];exact At.ret _ _ _
  ·simp only[aj,dL h6,ak,ae,kQ,jS,ig]
 ·obtain⟨h2,hb⟩:=mR hL h1 h47;subst hb;obtain⟨v3,k3,b3,h3,a3,e3,-⟩:=EL hL hT h2 false;refine⟨aK.mk v1 v3,k3,b3,h3,a1.bJ ?_,?_⟩
  ·rw[lM h47];exact At.bind a3 (At.ret _ _ _)
  ·simp only[ae,e3,aw,al,dL h6,ak,kQ,jS,ig]
theorem ahr{l:List ai}(hL:b9 l)(hT:∀t∈l,t.Text.length<=30000)(o2:Int)(eQ:List UInt8)(fC:Int)(gi:List UInt8)(gj:Bool)(gk gm gn:List UInt8)(o7:List (List UInt8))(o8:List aa)(cX:List aK):
 ∀(f m:Nat)(ks:List ax)(k:Nat),m<f->k<l.length->ks.length+(m+1)<=6->∃vs k' b',k'<l.length/\At (d4 l (kn l) m ks k) vs k' b'/\
  ((M.sE 6 f ((6:Int)-(m:Int)) (ip l k false) o2 eQ fC gi gj gk gm gn o7 o8 ks cX).map fun r=>match r with
  |.inl x=>x
  |.inr x=>x)=some (l,(k':Int),b',o2,eQ,fC,gi,gj,gk,gm,gn,o7,o8,vs,cX):=by
 intro f
 induction f with
 |zero=>intro m ks k h;omega
 |succ f ih=>
  intro m ks k hf hk hks;obtain⟨v,k1,b1,h1,a1,e1⟩:=ahp hL hT o2 eQ fC gi gj gk gm gn o7 o8 ks cX (by omega) hk false;rw[M.sE,d4];simp only[ig,kQ,jS,bq,ae,e1,aw,al];rcases a1 with⟨q1,q2⟩|⟨q1,q2⟩
  ·rw[show RB false k (kn l k)=kn l k from rfl]at q1;rw[q1];subst q2;cases m with
   |zero=>
    have e:(((6:Int)-((0:Nat):Int))==6)=true:=by rw[dJ];omega
    refine⟨ks++[v],k1,false,h1,Or.inl ⟨rfl,rfl⟩,?_⟩;simp only[e,l6,ae,ak,de,lx]
   |succ m=>
    have e:(((6:Int)-((m+1:Nat):Int))==6)=false:=by rw[bE];omega
    simp only[e,lN,iU hL h1 (cU 44 (by decide)) false,al,aw,l6,aj,ak,de,bq,bu];cases hb:aH l [44] k1
    ·exact⟨ks++[v],k1,false,h1,Or.inl ⟨rfl,rfl⟩,rfl⟩
    ·have hw:Go.IntKind.wrap .i64 (((6:Int)-((m+1:Nat):Int))+1)=(6:Int)-(m:Int):=by rw[wrap_i64 (by omega) (by omega)];omega
     simp only[ae,cO,aj,hw];exact ih m (ks++[v]) (k1+1) (by omega) (cV hL h1 hb) (by rw[aM,List.length_singleton];omega)
  ·rw[show RB false k (kn l k)=kn l k from rfl]at q1;rw[q1];subst q2;refine⟨ks++[v],k1,true,h1,Or.inr ⟨rfl,rfl⟩,?_⟩;simp only[du,ae,ak,de,lx]
theorem ahs{l:List ai}(hL:b9 l)(hT:∀t∈l,t.Text.length<=30000)(o2:Int)(eQ:List UInt8)(fC:Int)(gi:List UInt8)(gj:Bool)(gk gm gn:List UInt8)(o7:List (List UInt8))(o8:List aa)(cX:List aK){k:Nat}(hk:k<l.length)(b:Bool):
 ∃vs k' b',k'<l.length/\At (RB b k (d4 l (kn l) 5 [] k)) vs k' b'/\
  M.xE 6 (ip l k b) o2 eQ fC gi gj gk gm gn o7 o8 [] cX=some (ip l k' b',o2,eQ,fC,gi,gj,gk,gm,gn,o7,o8,vs,cX):=by
 cases b with
 |true=>
  refine⟨[],k,true,hk,At.no _ _ _,?_⟩;obtain⟨n,hn⟩:∃n,ad=n+1:=⟨ad-1,by have:=bA;omega⟩;unfold M.xE;rw[hn,M.sE];rfl
 |false=>
  obtain⟨vs,k',b',h1,a1,e1⟩:=ahr hL hT o2 eQ fC gi gj gk gm gn o7 o8 cX ad 5 [] k (by have:=bA;omega) hk (by simp);refine⟨vs,k',b',h1,a1,?_⟩;unfold M.xE;rw[show(6:Int)-((5:Nat):Int)=1 from rfl]at e1;cases ho:M.sE 6 ad 1 (ip l k false) o2 eQ fC gi gj gk gm gn o7 o8 [] cX with
  |none=>rw[ho]at e1;cases e1
  |some r=>
   rw[ho]at e1;cases r<;>(simp only[lx,ay]at e1;rw[e1];rfl)
theorem aht{l:List ai}(hL:b9 l)(hT:∀t∈l,t.Text.length<=30000)(o2:Int)(eQ:List UInt8)(fC:Int)(gi:List UInt8)(gj:Bool)(gk gm gn:List UInt8)(o7:List (List UInt8))(o8:List aa)(o9:List ax):
 ∀(f m:Nat)(ks:List aK)(k:Nat),m<f->k<l.length->ks.length+(m+1)<=16->∃vs k' b',k'<l.length/\At (d4 l (mh l) m ks k) vs k' b'/\
  ((M.sF 16 f ((16:Int)-(m:Int)) (ip l k false) o2 eQ fC gi gj gk gm gn o7 o8 o9 ks).map fun r=>match r with
  |.inl x=>x
  |.inr x=>x)=some (l,(k':Int),b',o2,eQ,fC,gi,gj,gk,gm,gn,o7,o8,o9,vs):=by
 intro f
 induction f with
 |zero=>intro m ks k h;omega
 |succ f ih=>
  intro m ks k hf hk hks;obtain⟨v,k1,b1,h1,a1,e1⟩:=ahq hL hT o2 eQ fC gi gj gk gm gn o7 o8 o9 ks (by omega) hk false;rw[M.sF,d4];simp only[ig,kQ,jS,bq,ae,e1,aw,al];rcases a1 with⟨q1,q2⟩|⟨q1,q2⟩
  ·rw[show RB false k (mh l k)=mh l k from rfl]at q1;rw[q1];subst q2;cases m with
   |zero=>
    have e:(((16:Int)-((0:Nat):Int))==16)=true:=by rw[dJ];omega
    refine⟨ks++[v],k1,false,h1,Or.inl ⟨rfl,rfl⟩,?_⟩;simp only[e,l6,ae,ak,de,lx]
   |succ m=>
    have e:(((16:Int)-((m+1:Nat):Int))==16)=false:=by rw[bE];omega
    simp only[e,lN,iU hL h1 (cU 44 (by decide)) false,al,aw,l6,aj,ak,de,bq,bu];cases hb:aH l [44] k1
    ·exact⟨ks++[v],k1,false,h1,Or.inl ⟨rfl,rfl⟩,rfl⟩
    ·have hw:Go.IntKind.wrap .i64 (((16:Int)-((m+1:Nat):Int))+1)=(16:Int)-(m:Int):=by rw[wrap_i64 (by omega) (by omega)];omega
     simp only[ae,cO,aj,hw];exact ih m (ks++[v]) (k1+1) (by omega) (cV hL h1 hb) (by rw[aM,List.length_singleton];omega)
  ·rw[show RB false k (mh l k)=mh l k from rfl]at q1;rw[q1];subst q2;refine⟨ks++[v],k1,true,h1,Or.inr ⟨rfl,rfl⟩,?_⟩;simp only[du,ae,ak,de,lx]
theorem ahu{l:List ai}(hL:b9 l)(hT:∀t∈l,t.Text.length<=30000)(o2:Int)(eQ:List UInt8)(fC:Int)(gi:List UInt8)(gj:Bool)(gk gm gn:List UInt8)(o7:List (List UInt8))(o8:List aa)(o9:List ax){k:Nat}(hk:k<l.length)(b:Bool):
 ∃vs k' b',k'<l.length/\At (RB b k (d4 l (mh l) 15 [] k)) vs k' b'/\
  M.vk 16 (ip l k b) o2 eQ fC gi gj gk gm gn o7 o8 o9 []=some (ip l k' b',o2,eQ,fC,gi,gj,gk,gm,gn,o7,o8,o9,vs):=by
 cases b with
 |true=>
  refine⟨[],k,true,hk,At.no _ _ _,?_⟩;obtain⟨n,hn⟩:∃n,ad=n+1:=⟨ad-1,by have:=bA;omega⟩;unfold M.vk;rw[hn,M.sF];rfl
 |false=>
  obtain⟨vs,k',b',h1,a1,e1⟩:=aht hL hT o2 eQ fC gi gj gk gm gn o7 o8 o9 ad 15 [] k (by have:=bA;omega) hk (by simp);refine⟨vs,k',b',h1,a1,?_⟩;unfold M.vk;rw[show(16:Int)-((15:Nat):Int)=1 from rfl]at e1;cases ho:M.sF 16 ad 1 (ip l k false) o2 eQ fC gi gj gk gm gn o7 o8 o9 []with
  |none=>rw[ho]at e1;cases e1
  |some r=>
   rw[ho]at e1;cases r<;>(simp only[lx,ay]at e1;rw[e1];rfl)
theorem ahv{l:List ai}(hL:b9 l)(hT:∀t∈l,t.Text.length<=30000):∀(f m:Nat)(ks:List ax)(k:Nat),m+1<f->k<l.length->ks.length+(m+1)=6->
 ∃vs k' b',k'<l.length/\At (lK l (kn l) [41] m ks k) vs k' b'/\M.mT  f (sp l k false) ks=some (l,(k':Int),b',vs):=by
 intro f
 induction f with
 |zero=>intro m ks k h;omega
 |succ f ih=>
  intro m ks k hf hk hks;obtain⟨f',rfl⟩:∃f',f=f'+1:=⟨f-1,by omega⟩;have hend:∀(k:Nat)(xs:List ax),M.mT  (f'+1) (sp l k true) xs=some (l,(k:Int),true,xs):=fun k xs=>by
   rw[M.mT];rfl
  have fin:∀(v:ax)(k1:Nat)(b1:Bool),k1<l.length->At (kn l k) v k1 b1->
   M.mT  (f'+1+1) (sp l k false) ks=(bif !b1&&aH l [41] k1 then some (l,((k1+1:Nat):Int),b1,ks++[v])
     else M.mT  (f'+1) (bif decide ((6:Int)<=(((ks++[v]).length:Nat):Int))then sp l k1 true else bif !b1&&aH l [44] k1 then sp l (k1+1) b1 else sp l k1 true) (ks++[v]))->
   ∃vs k' b',k'<l.length/\At (lK l (kn l) [41] m ks k) vs k' b'/\M.mT  (f'+1+1) (sp l k false) ks=some (l,(k':Int),b',vs):=by
   intro v k1 b1 h1 a1 e1;rw[e1,lK];rcases a1 with⟨q1,q2⟩|⟨q1,q2⟩
   ·rw[q1];subst q2;simp only[bq,bu];cases hc:aH l [41] k1
    ·simp only[aj];have hlen:(((ks++[v]).length:Nat):Int)=(6:Int)-(m:Int):=by rw[aM,List.length_singleton];omega
     cases m with
     |zero=>
      rw[aO (show(6:Int)<=(((ks++[v]).length:Nat):Int) by omega)];exact⟨ks++[v],k1,true,h1,Or.inr ⟨rfl,rfl⟩,hend k1 _⟩
     |succ m=>
      rw[db (show ¬(6:Int)<=(((ks++[v]).length:Nat):Int) by omega)];simp only[aj];cases iV:aH l [44] k1
      ·exact⟨ks++[v],k1,true,h1,Or.inr ⟨rfl,rfl⟩,hend k1 _⟩
      ·exact ih m (ks++[v]) (k1+1) (by omega) (cV hL h1 iV) (by rw[aM,List.length_singleton];omega)
    ·exact⟨ks++[v],k1+1,false,cV hL h1 hc,Or.inl ⟨rfl,rfl⟩,rfl⟩
   ·rw[q1];subst q2;refine⟨ks++[v],k1,true,h1,Or.inr ⟨rfl,rfl⟩,?_⟩;simp only[cO,cr,aj];cases decide ((6:Int)<=(((ks++[v]).length:Nat):Int))<;>exact hend k1 _
  obtain⟨v1,k1,b1,h1,a1,e1,-⟩:=vj hL hT hk false;obtain⟨k2,b2,h2,a2,e2⟩:=km hL h1 [58] b1;obtain⟨v3,k3,b3,h3,a3,e3⟩:=La hL hT h2 b2;refine fin (ax.mk v1 v3) k3 b3 h3 (At.bind (r:=gX l k) a1 (a2.bJ (a3.bJ (At.ret _ _ _)))) ?_;rw[M.mT];simp only[iw,bq,ae,e1,e2,e3,fq hL h3 [41] b3,aw,al,dL (show ks.length<=1000 by omega),ak,bu,aa.aD];cases hc:(!b3&&aH l [41] k3)
  ·simp only[aj,lL hL h3,aw,al,ak,ae]
  ·simp only[ae,jc,jd,iw]
theorem ahw{l:List ai}(hL:b9 l)(hT:∀t∈l,t.Text.length<=30000)(P N V:List UInt8):∀(f m:Nat)(ks:List aK)(k:Nat),m+1<f->k<l.length->ks.length+(m+1)=16->
 ∃vs k' b',k'<l.length/\At (lK l (mh l) [125] m ks k) vs k' b'/\M.lP 0 [] 0 [] false [] [] [] 4 [] 0 [] false P N V [] [] [] [] [] [] [] f (sp l k false) ks=some (l,(k':Int),b',0,[],0,[],false,[],[],[],4,[],0,[],false,P,N,V,[],[],[],[],[],[],[],vs):=by
 intro f
 induction f with
 |zero=>intro m ks k h;omega
 |succ f ih=>
  intro m ks k hf hk hks;obtain⟨f',rfl⟩:∃f',f=f'+1:=⟨f-1,by omega⟩;have hend:∀(k:Nat)(xs:List aK),M.lP 0 [] 0 [] false [] [] [] 4 [] 0 [] false P N V [] [] [] [] [] [] [] (f'+1) (sp l k true) xs=some (l,(k:Int),true,0,[],0,[],false,[],[],[],4,[],0,[],false,P,N,V,[],[],[],[],[],[],[],xs):=fun k xs=>by
   rw[M.lP];rfl
  have fin:∀(v:aK)(k1:Nat)(b1:Bool),k1<l.length->At (mh l k) v k1 b1->
   M.lP 0 [] 0 [] false [] [] [] 4 [] 0 [] false P N V [] [] [] [] [] [] [] (f'+1+1) (sp l k false) ks=(bif !b1&&aH l [125] k1 then some (l,((k1+1:Nat):Int),b1,0,[],0,[],false,[],[],[],4,[],0,[],false,P,N,V,[],[],[],[],[],[],[],ks++[v])
     else M.lP 0 [] 0 [] false [] [] [] 4 [] 0 [] false P N V [] [] [] [] [] [] [] (f'+1) (bif decide ((16:Int)<=(((ks++[v]).length:Nat):Int))then sp l k1 true else bif !b1&&aH l [44] k1 then sp l (k1+1) b1 else sp l k1 true) (ks++[v]))->
   ∃vs k' b',k'<l.length/\At (lK l (mh l) [125] m ks k) vs k' b'/\M.lP 0 [] 0 [] false [] [] [] 4 [] 0 [] false P N V [] [] [] [] [] [] [] (f'+1+1) (sp l k false) ks=some (l,(k':Int),b',0,[],0,[],false,[],[],[],4,[],0,[],false,P,N,V,[],[],[],[],[],[],[],vs):=by
   intro v k1 b1 h1 a1 e1;rw[e1,lK];rcases a1 with⟨q1,q2⟩|⟨q1,q2⟩
   ·rw[q1];subst q2;simp only[bq,bu];cases hc:aH l [125] k1
    ·simp only[aj];have hlen:(((ks++[v]).length:Nat):Int)=(16:Int)-(m:Int):=by rw[aM,List.length_singleton];omega
     cases m with
     |zero=>
      rw[aO (show(16:Int)<=(((ks++[v]).length:Nat):Int) by omega)];exact⟨ks++[v],k1,true,h1,Or.inr ⟨rfl,rfl⟩,hend k1 _⟩
     |succ m=>
      rw[db (show ¬(16:Int)<=(((ks++[v]).length:Nat):Int) by omega)];simp only[aj];cases iV:aH l [44] k1
      ·exact⟨ks++[v],k1,true,h1,Or.inr ⟨rfl,rfl⟩,hend k1 _⟩
      ·exact ih m (ks++[v]) (k1+1) (by omega) (cV hL h1 iV) (by rw[aM,List.length_singleton];omega)
    ·exact⟨ks++[v],k1+1,false,cV hL h1 hc,Or.inl ⟨rfl,rfl⟩,rfl⟩
   ·rw[q1];subst q2;refine⟨ks++[v],k1,true,h1,Or.inr ⟨rfl,rfl⟩,?_⟩;simp only[cO,cr,aj];cases decide ((16:Int)<=(((ks++[v]).length:Nat):Int))<;>exact hend k1 _
  obtain⟨v1,k1,b1,h1,a1,e1,-⟩:=EM hL hT hk false;cases h47:(!b1&&aH l [97,115] k1)
  ·refine fin (aK.mk v1 []) k1 b1 h1 (At.bind (r:=mf l k) a1 ?_) ?_
   ·rw[mQ h47];exact At.ret _ _ _
   ·rw[M.lP];simp only[iw,bq,ae,e1,fq hL h1 [97,115] b1,h47,aj,fq hL h1 [125] b1,aw,al,dL (show ks.length<=1000 by omega),ak,bu];cases hc:(!b1&&aH l [125] k1)
    ·simp only[aj,lL hL h1,aw,al,ak,ae]
    ·simp only[ae,jc,jd,iw]
  ·obtain⟨h2,hb⟩:=mR hL h1 h47;subst hb;obtain⟨v3,k3,b3,h3,a3,e3,-⟩:=EM hL hT h2 false;refine fin (aK.mk v1 v3) k3 b3 h3 (At.bind (r:=mf l k) a1 ?_) ?_
   ·rw[lM h47];exact At.bind a3 (At.ret _ _ _)
   ·rw[M.lP];have ht:M.dN [97,115] (sp l k1 false)=some (true,sp l (k1+1) false):=by rw[fq hL h1,h47];rfl
    simp only[iw,bq,ae,e1,ht,e3,fq hL h3 [125] b3,aw,al,dL (show ks.length<=1000 by omega),ak,bu];cases hc:(!b3&&aH l [125] k3)
    ·simp only[aj,lL hL h3,aw,al,ak,ae]
    ·simp only[ae,jc,jd,iw]
end M
