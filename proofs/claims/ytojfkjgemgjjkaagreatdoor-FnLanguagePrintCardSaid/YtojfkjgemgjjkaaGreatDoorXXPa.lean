/-
  TOKENS: white space, words and numbers, as both lexers read them.
-/
import Derived.Test.YtojfkjgemgjjkaaGreatDoorXZQM
import Derived.Test.YtojfkjgemgjjkaaGreatDoorXXplA
import Derived.Test.YtojfkjgemgjjkaaGreatDoorXXTF
set_option linter.unusedVariables false
set_option linter.unusedSimpArgs false
namespace M
open Go.V (inB bS ae bf)
def ik(c:UInt8):Bool:=decide ((97:Int)<=(c.toNat:Int))&&decide ((c.toNat:Int)<=122)
def fB(c:UInt8):Bool:=decide ((48:Int)<=(c.toNat:Int))&&decide ((c.toNat:Int)<=57)
def hd(l:List UInt8):UInt8:=l.getD 0 0
def gd:List UInt8->Nat
 |[]=>0
 |c::r=>if(c.toNat:Int)=10 then 0 else gd r+1
def bm:Bool->List UInt8->Int->Nat×Int
 |_,[],l=>(0,l)
 |true,c::r,l=>if(c.toNat:Int)=10 then((bm false r (l+1)).1+1,(bm false r (l+1)).2)else((bm true r l).1+1,(bm true r l).2)
 |false,c::r,l=>if(c.toNat:Int)=10 then((bm false r (l+1)).1+1,(bm false r (l+1)).2)else if(c.toNat:Int)=32 then((bm false r l).1+1,(bm false r l).2)
   else if(c.toNat:Int)=47/\r≠[]/\((hd r).toNat:Int)=47 then((bm true r l).1+1,(bm true r l).2)else(0,l)
theorem KP:∀(l:List UInt8)(n:Int),bm true l n=((bm false (l.drop (gd l)) n).1+gd l,(bm false (l.drop (gd l)) n).2)
 |[],n=>rfl
 |c::r,n=>by
  unfold bm gd;by_cases h:(c.toNat:Int)=10
  ·rw[aT h,aT h,jj];simp only[bm,aT h,Nat.add_zero]
  ·rw[aP h,aP h,List.drop_succ_cons,KP r n];simp only[jk];cases r.drop (gd r)<;>rfl
theorem oU:∀(b:Bool)(l:List UInt8)(n:Int),(bm b l n).1<=l.length/\n<=(bm b l n).2/\(bm b l n).2<=n+(l.length:Int)
 |b,[],n=>by cases b<;>simp[bm]
 |true,c::r,n=>by
  unfold bm;have h1:=oU false r (n+1);have h2:=oU true r n;split
  ·simp only[aC];omega
  ·simp only[aC];omega
 |false,c::r,n=>by
  unfold bm;have h1:=oU false r (n+1);have h2:=oU true r n;have h3:=oU false r n;split
  ·simp only[aC];omega
  ·split
   ·simp only[aC];omega
   ·split
    ·simp only[aC];omega
    ·simp only[aC];omega
theorem KQ:∀l:List UInt8,gd l<=l.length
 |[]=>cu _
 |c::r=>by
  unfold gd;have:=KQ r;split
  ·omega
  ·simp only[aC];omega
theorem kQ{s:List UInt8}{a:Nat}(h:a<s.length):s.drop a=s[a]::s.drop (a+1):=xR h
theorem afe(s:List UInt8)(line:Int)(hs:s.length<=30000):∀f a,s.length-a<f->a<=s.length->M.xU s line f (a:Int)=some (s,((a+gd (s.drop a):Nat):Int),line):=by
 intro f
 induction f with
 |zero=>intro a h;omega
 |succ f ih=>
  intro a h1 h2;rw[M.xU];rcases cQ a s.length with h|h
  ·rw[kQ h];unfold gd;simp only[bN,getD_lt h,cZ,fY,h,eB,bj,bu,bM,da h (by omega:s.length<2^62)];by_cases c:(s[a].toNat:Int)=10
   ·rw[show((s[a].toNat:Int) !=10)=false by rw[bne_eq_false_iff_eq];exact c,aT c];rfl
   ·rw[show((s[a].toNat:Int) !=10)=true by rw[pE];exact c,aP c,ad,ad,ih (a+1) (by omega) (by omega)];congr 4;omega
  ·rw[List.drop_eq_nil_of_le h];have e:decide ((a:Int)<((s.length:Nat):Int))=false:=by rw[fE];omega
   simp only[e,cJ,al,ek,aj,ad,gd,Nat.add_zero,cr,b9,lT,bo,kF,cK];simp
def fR(s:List UInt8)(a:Nat)(line:Int):Int×Int:=(((a+(bm false (s.drop a) line).1:Nat):Int),(bm false (s.drop a) line).2)
theorem aff(s:List UInt8)(hs:s.length<=30000):∀(f a:Nat)(line:Int),s.length-a<f->a<=s.length->0<=line->line+(s.length-a:Nat)<=100000->
 M.rB f s (a:Int) line=some (.inl (fR s a line))\/M.rB f s (a:Int) line=some (.inr (fR s a line)):=by
 intro f
 induction f with
 |zero=>intro a l h;omega
 |succ f ih=>
  intro a line h1 h2 h3 h4;rw[M.rB];rcases cQ a s.length with h|h
  ·have w1:=da h (by omega:s.length<2^62);have w2:Go.IntKind.wrap .i64 (line+1)=line+1:=wrap_i64 (by omega) (by omega);unfold fR;rw[kQ h];unfold bm;simp only[bN,getD_lt h,cZ,fY,h,eB,bj,bu,bM,aj,ad,w1,w2];by_cases c10:(s[a].toNat:Int)=10
   ·rw[show((s[a].toNat:Int)==10)=true from cK.2 c10,aT c10,ad];have:=ih (a+1) (line+1) (by omega) (by omega) (by omega) (by omega);unfold fR at this;rw[show a+1+(bm false (s.drop (a+1)) (line+1)).1=a+((bm false (s.drop (a+1)) (line+1)).1+1) by omega]at this;exact this
   ·rw[show((s[a].toNat:Int)==10)=false from cL.2 c10,aP c10,al];by_cases c32:(s[a].toNat:Int)=32
    ·rw[show((s[a].toNat:Int)==32)=true from cK.2 c32,aT c32,ad];have:=ih (a+1) line (by omega) (by omega) (by omega) (by omega);unfold fR at this;rw[show a+1+(bm false (s.drop (a+1)) line).1=a+((bm false (s.drop (a+1)) line).1+1) by omega]at this;exact this
    ·rw[show((s[a].toNat:Int)==32)=false from cL.2 c32,aP c32,al];have hcond:((((s[a].toNat:Int)==47)&&decide (a+1<s.length))&&(((s.getD (a+1) 0).toNat:Int)==47))=decide ((s[a].toNat:Int)=47/\s.drop (a+1)≠[]/\((hd (s.drop (a+1))).toNat:Int)=47):=by
      have e1:hd (s.drop (a+1))=s.getD (a+1) 0:=by
       unfold hd;rcases cQ (a+1) s.length with q|q
       ·rw[kQ q,getD_lt q];rfl
       ·rw[List.drop_eq_nil_of_le q];simp[List.getD,lp q]
      have e2:(s.drop (a+1)≠[])↔a+1<s.length:=by
       rw[ne_eq,List.drop_eq_nil_iff];omega
      rw[e1,m9];simp only[bz,cK,ct,e2];constructor
      ·rintro ⟨⟨x,y⟩,z⟩;exact⟨x,y,z⟩
      ·rintro ⟨x,y,z⟩;exact⟨⟨x,y⟩,z⟩
     have hin:(decide (a+1<s.length)|| !((((s[a].toNat:Int)==47)&&decide (a+1<s.length))==true))=true:=by
      by_cases q:a+1<s.length
      ·simp[q]
      ·simp[q]
     rw[hcond];by_cases rC:(s[a].toNat:Int)=47/\s.drop (a+1)≠[]/\((hd (s.drop (a+1))).toNat:Int)=47
     ·rw[cN rC,aT rC,ad,afe s line hs ae a (by have:=bf;omega) h2];simp only[hin,ad];have hcl:=KQ (s.drop a);rw[List.length_drop]at hcl;have hc1:gd (s.drop a)=gd (s.drop (a+1))+1:=by
       rw[kQ h,gd,aP (by omega)]
      have:=ih (a+gd (s.drop a)) line (by omega) (by omega) h3 (by omega);have hk:fR s (a+gd (s.drop a)) line=(((a+((bm true (s.drop (a+1)) line).1+1):Nat):Int),(bm true (s.drop (a+1)) line).2):=by
       unfold fR;rw[KP,hc1,uX];rw[show a+(gd (s.drop (a+1))+1)=a+1+gd (s.drop (a+1)) by omega];congr 2;omega
      rw[hk]at this;exact this
     ·rw[cY rC,aP rC,al];simp only[hin,ad];exact .inl rfl
  ·unfold fR;rw[List.drop_eq_nil_of_le h,cY (show ¬(a:Int)<((s.length:Nat):Int) by omega)];exact .inr rfl
theorem Q9(s:List UInt8)(hs:s.length<=30000)(a:Nat)(line:Int)(h2:a<=s.length)(h3:0<=line)(h4:line+(s.length-a:Nat)<=100000):M.vF s (a:Int) line=some (fR s a line):=by
 unfold M.vF;rcases aff s hs ae a line (by have:=bf;omega) h2 h3 h4 with e|e<;>rw[e]
end M
namespace M
open Go.V (inB bS ae bf)
theorem afg(s:List UInt8)(line:Int)(o:List af)(hs:s.length<=30000):∀f a,s.length-a<f->a<=s.length->M.xW s line o f (a:Int)=some (s,((a+gd (s.drop a):Nat):Int),line,o):=by
 intro f
 induction f with
 |zero=>intro a h;omega
 |succ f ih=>
  intro a h1 h2;rw[M.xW];rcases cQ a s.length with h|h
  ·rw[kQ h];unfold gd;simp only[bN,getD_lt h,cZ,fY,h,eB,bj,bu,bM,da h (by omega:s.length<2^62)];by_cases c:(s[a].toNat:Int)=10
   ·rw[show((s[a].toNat:Int) !=10)=false by rw[bne_eq_false_iff_eq];exact c,aT c];rfl
   ·rw[show((s[a].toNat:Int) !=10)=true by rw[pE];exact c,aP c,ad,ad,ih (a+1) (by omega) (by omega)];congr 4;omega
  ·rw[List.drop_eq_nil_of_le h];have e:decide ((a:Int)<((s.length:Nat):Int))=false:=by rw[fE];omega
   simp only[e,cJ,al,ek,aj,ad,gd,Nat.add_zero,cr,b9,lT,bo,kF,cK];simp
theorem pre2(s:List UInt8)(hs:s.length<=30000)(a:Nat)(x y:UInt8)(h:a<s.length):
 M.strings_HasPrefix (List.drop a (List.take s.length s)) [x,y]=some (decide (s[a]=x/\s.drop (a+1)≠[]/\hd (s.drop (a+1))=y)):=by
 have e0:List.drop a (List.take s.length s)=s[a]::s.drop (a+1):=by
  rw[H4,kQ h]
 rw[e0];unfold M.strings_HasPrefix M.Eu;generalize s[a]=c;cases hd0:s.drop (a+1)with
 |nil=>simp[bS]
 |cons d r=>
  have e1:decide ((([x,y].length:Nat):Int)<=(((c::d::r).length:Nat):Int))=true:=by rw[ct];simp only[aC,aJ];omega
  have e2:bS 0 (([x,y].length:Nat):Int) (c::d::r).length=true:=by
   unfold bS;simp only[bz,ct];simp only[aC,aJ];omega
  simp only[e1,e2,bu,aj,ad,bj,an,ak];congr 1;rw[m9,cK,ct];show[c,d]=[x,y]↔_
  simp[hd]
theorem toNat_eq{a b:UInt8}:(a.toNat:Int)=(b.toNat:Int)↔a=b:=by
 rw[Int.ofNat_inj];exact UInt8.toNat_inj
theorem afh(s:List UInt8)(o:List af)(hs:s.length<=30000):∀(f a:Nat)(line:Int),s.length-a<f->a<=s.length->0<=line->line+(s.length-a:Nat)<=100000->
 M.rD f s (a:Int) line o=some (.inl (s,(fR s a line).1,(fR s a line).2,o))\/M.rD f s (a:Int) line o=some (.inr (s,(fR s a line).1,(fR s a line).2,o)):=by
 intro f
 induction f with
 |zero=>intro a l h;omega
 |succ f ih=>
  intro a line h1 h2 h3 h4;rw[M.rD];rcases cQ a s.length with h|h
  ·have w1:=da h (by omega:s.length<2^62);have w2:Go.IntKind.wrap .i64 (line+1)=line+1:=wrap_i64 (by omega) (by omega);have hp:=pre2 s hs a 47 47 h;have hsl:bS (a:Int) ((s.length:Nat):Int) s.length=true:=by unfold bS;simp only[bz,ct];omega
   unfold fR;rw[kQ h];unfold bm;simp only[hp,hsl,bN,getD_lt h,cZ,fY,h,eB,bj,bu,bM,aj,ad,w1,w2,ak,an];by_cases c10:(s[a].toNat:Int)=10
   ·rw[show((s[a].toNat:Int)==10)=true from cK.2 c10,aT c10,ad];have:=ih (a+1) (line+1) (by omega) (by omega) (by omega) (by omega);unfold fR at this;rw[show a+1+(bm false (s.drop (a+1)) (line+1)).1=a+((bm false (s.drop (a+1)) (line+1)).1+1) by omega]at this;exact this
   ·rw[show((s[a].toNat:Int)==10)=false from cL.2 c10,aP c10,al];by_cases c32:(s[a].toNat:Int)=32
    ·rw[show((s[a].toNat:Int)==32)=true from cK.2 c32,aT c32,ad];have:=ih (a+1) line (by omega) (by omega) (by omega) (by omega);unfold fR at this;rw[show a+1+(bm false (s.drop (a+1)) line).1=a+((bm false (s.drop (a+1)) line).1+1) by omega]at this;exact this
    ·rw[show((s[a].toNat:Int)==32)=false from cL.2 c32,aP c32,al];have hcond:decide (s[a]=47/\s.drop (a+1)≠[]/\hd (s.drop (a+1))=47)=decide ((s[a].toNat:Int)=47/\s.drop (a+1)≠[]/\((hd (s.drop (a+1))).toNat:Int)=47):=by
      rw[m8];have e1:((s[a].toNat:Int)=47)↔s[a]=47:=toNat_eq (b:=47);have e2:(((hd (s.drop (a+1))).toNat:Int)=47)↔hd (s.drop (a+1))=47:=toNat_eq (b:=47);rw[e1,e2]
     rw[hcond];by_cases rC:(s[a].toNat:Int)=47/\s.drop (a+1)≠[]/\((hd (s.drop (a+1))).toNat:Int)=47
     ·rw[cN rC,aT rC,ad,afg s line o hs ae a (by have:=bf;omega) h2];simp only[ad];have hcl:=KQ (s.drop a);rw[List.length_drop]at hcl;have hc1:gd (s.drop a)=gd (s.drop (a+1))+1:=by
       rw[kQ h,gd,aP (by omega)]
      have:=ih (a+gd (s.drop a)) line (by omega) (by omega) h3 (by omega);have hk:fR s (a+gd (s.drop a)) line=(((a+((bm true (s.drop (a+1)) line).1+1):Nat):Int),(bm true (s.drop (a+1)) line).2):=by
       unfold fR;rw[KP,hc1,uX];rw[show a+(gd (s.drop (a+1))+1)=a+1+gd (s.drop (a+1)) by omega];congr 2;omega
      rw[hk]at this;exact this
     ·rw[cY rC,aP rC,al];simp only[ad];exact .inl rfl
  ·unfold fR;rw[List.drop_eq_nil_of_le h,cY (show ¬(a:Int)<((s.length:Nat):Int) by omega)];exact .inr rfl
theorem Rb(s:List UInt8)(o:List af)(hs:s.length<=30000)(a:Nat)(line:Int)(h2:a<=s.length)(h3:0<=line)(h4:line+(s.length-a:Nat)<=100000):M.vG s (a:Int) line o=some (s,(fR s a line).1,(fR s a line).2,o):=by
 unfold M.vG;rcases afh s o hs ae a line (by have:=bf;omega) h2 h3 h4 with e|e<;>rw[e]
def il:List UInt8->Nat
 |[]=>0
 |c::r=>if(ik c||fB c)||((decide ((c.toNat:Int)=45)&&decide (r≠[]))&&(ik (hd r)||fB (hd r)))then il r+1 else 0
def gX:List UInt8->Nat
 |[]=>0
 |c::r=>if fB c||((decide ((c.toNat:Int)=46)&&decide (r≠[]))&&fB (hd r))then gX r+1 else 0
theorem KR:∀l:List UInt8,il l<=l.length
 |[]=>cu _
 |c::r=>by
  unfold il;have:=KR r;split
  ·simp only[aC];omega
  ·omega
theorem KU:∀l:List UInt8,gX l<=l.length
 |[]=>cu _
 |c::r=>by
  unfold gX;have:=KU r;split
  ·simp only[aC];omega
  ·omega
theorem Az(s:List UInt8)(a:Nat):hd (s.drop (a+1))=s.getD (a+1) 0:=by
 unfold hd;rcases cQ (a+1) s.length with q|q
 ·rw[kQ q,getD_lt q];rfl
 ·rw[List.drop_eq_nil_of_le q];simp[List.getD,lp q]
theorem Ew(s:List UInt8)(a:Nat):decide (s.drop (a+1)≠[])=decide (a+1<s.length):=by
 rw[m8,ne_eq,List.drop_eq_nil_iff];omega
theorem afi(s:List UInt8)(hs:s.length<=30000):∀(f a:Nat),s.length-a<f->a<=s.length->
 M.vH s f (a:Int)=some (.inl ((a+il (s.drop a):Nat):Int))\/M.vH s f (a:Int)=some (.inr ((a+il (s.drop a):Nat):Int)):=by
 intro f
 induction f with
 |zero=>intro a h;omega
 |succ f ih=>
  intro a h1 h2;rw[M.vH];rcases cQ a s.length with h|h
  ·have w1:=da h (by omega:s.length<2^62);rw[kQ h];unfold il;rw[Az,Ew];simp only[bN,getD_lt h,cZ,fY,h,eB,bj,bu,bM,aj,ad,w1];have eL:∀c:UInt8,(decide ((97:Int)<=(c.toNat:Int))&&decide ((c.toNat:Int)<=122))=ik c:=fun c=>rfl
   have eD:∀c:UInt8,(decide ((48:Int)<=(c.toNat:Int))&&decide ((c.toNat:Int)<=57))=fB c:=fun c=>rfl
   simp only[eL,eD];have e45:((s[a].toNat:Int)==45)=decide ((s[a].toNat:Int)=45):=by rw[m9,cK,ct]
   rw[e45];have ih':=ih (a+1) (by omega) (by omega);rw[show a+1+il (s.drop (a+1))=a+(il (s.drop (a+1))+1) by omega]at ih';generalize s.getD (a+1) 0=d;generalize decide (a+1<s.length)=b1;generalize decide ((s[a].toNat:Int)=45)=b2;cases ik s[a]<;>cases fB s[a]<;>cases b1<;>cases b2<;>cases ik d<;>cases fB d<;>first|exact ih'|exact .inl rfl
  ·rw[List.drop_eq_nil_of_le h,cY (show ¬(a:Int)<((s.length:Nat):Int) by omega)];exact .inr rfl
theorem afj(s:List UInt8)(hs:s.length<=30000):∀(f a:Nat),s.length-a<f->a<=s.length->
 M.vI s f (a:Int)=some (.inl ((a+gX (s.drop a):Nat):Int))\/M.vI s f (a:Int)=some (.inr ((a+gX (s.drop a):Nat):Int)):=by
 intro f
 induction f with
 |zero=>intro a h;omega
 |succ f ih=>
  intro a h1 h2;rw[M.vI];rcases cQ a s.length with h|h
  ·have w1:=da h (by omega:s.length<2^62);rw[kQ h];unfold gX;rw[Az,Ew];simp only[bN,getD_lt h,cZ,fY,h,eB,bj,bu,bM,aj,ad,w1];have eD:∀c:UInt8,(decide ((48:Int)<=(c.toNat:Int))&&decide ((c.toNat:Int)<=57))=fB c:=fun c=>rfl
   simp only[eD];have e45:((s[a].toNat:Int)==46)=decide ((s[a].toNat:Int)=46):=by rw[m9,cK,ct]
   rw[e45];have ih':=ih (a+1) (by omega) (by omega);rw[show a+1+gX (s.drop (a+1))=a+(gX (s.drop (a+1))+1) by omega]at ih';generalize s.getD (a+1) 0=d;generalize decide (a+1<s.length)=b1;generalize decide ((s[a].toNat:Int)=46)=b2;cases fB s[a]<;>cases b1<;>cases b2<;>cases fB d<;>first|exact ih'|exact .inl rfl
  ·rw[List.drop_eq_nil_of_le h,cY (show ¬(a:Int)<((s.length:Nat):Int) by omega)];exact .inr rfl
theorem afk(s:List UInt8)(hs:s.length<=30000)(a:Nat)(h2:a<=s.length):M.AA s (a:Int)=some ((a+il (s.drop a):Nat):Int):=by
 unfold M.AA;rcases afi s hs ae a (by have:=bf;omega) h2 with e|e<;>rw[e]
theorem afl(s:List UInt8)(hs:s.length<=30000)(a:Nat)(h2:a<=s.length):M.AB s (a:Int)=some ((a+gX (s.drop a):Nat):Int):=by
 unfold M.AB;rcases afj s hs ae a (by have:=bf;omega) h2 with e|e<;>rw[e]
end M
namespace M
open Go.V (inB bS ae bf)
theorem afm(s:List UInt8)(x2 x3:Int)(o:List af)(hs:s.length<=30000)(a:Nat):M.AD (iM.mk s x2 x3 o) (a:Int)=some ((s.getD a 0).toNat:Int):=by
 unfold M.AD;by_cases h:a<s.length
 ·have e:decide (((s.length:Nat):Int)<=(a:Int))=false:=by rw[fE];omega
  have e2:inB (a:Int) s.length=true:=by rw[cZ];simpa using h
  simp only[e,e2,al,aj,ad,bN]
 ·have e:decide (((s.length:Nat):Int)<=(a:Int))=true:=by rw[ct];omega
  rw[show s.getD a 0=0 by simp[List.getD,lp (Nat.le_of_not_lt h)]];simp only[e,ad];rfl
theorem afn:ik 0=false:=by decide
theorem afo:fB 0=false:=by decide
def xX(word:Bool)(l:List UInt8):Nat:=bif word then il l else gX l
theorem getD_none{s:List UInt8}{a:Nat}(h:¬a<s.length):s.getD a 0=0:=by simp[List.getD,lp (Nat.le_of_not_lt h)]
theorem afp(s:List UInt8)(x2 x3:Int)(o:List af)(word:Bool)(hs:s.length<=30000):∀(f a:Nat),s.length-a<f->a<=s.length->
 M.xY (iM.mk s x2 x3 o) word f (a:Int)=some ((a+xX word (s.drop a):Nat):Int):=by
 intro f
 induction f with
 |zero=>intro a h;omega
 |succ f ih=>
  intro a h1 h2;rw[M.xY];rcases cQ a s.length with h|h
  ·have w1:=da h (by omega:s.length<2^62);rw[kQ h];have ih':=ih (a+1) (by omega) (by omega);have eL:∀c:UInt8,(decide ((97:Int)<=(c.toNat:Int))&&decide ((c.toNat:Int)<=122))=ik c:=fun c=>rfl
   have eD:∀c:UInt8,(decide ((48:Int)<=(c.toNat:Int))&&decide ((c.toNat:Int)<=57))=fB c:=fun c=>rfl
   simp only[w1,afm s x2 x3 o hs,ak,an,bN,getD_lt h,cZ,fY,h,eB,bj,bM,aj,ad,eL,eD];have e45:((s[a].toNat:Int)==45)=decide ((s[a].toNat:Int)=45):=by rw[m9,cK,ct]
   have e46:((s[a].toNat:Int)==46)=decide ((s[a].toNat:Int)=46):=by rw[m9,cK,ct]
   rw[e45,e46];have hz:¬a+1<s.length->ik (s.getD (a+1) 0)=false/\fB (s.getD (a+1) 0)=false:=fun q=>by rw[getD_none q];exact⟨afn,afo⟩
   have hz1:decide (a+1<s.length)=false->ik (s.getD (a+1) 0)=false/\fB (s.getD (a+1) 0)=false:=fun q=>hz (by simpa using q)
   cases word
   ·simp only[xX,al]at ih'⊢;rw[show a+1+gX (s.drop (a+1))=a+(gX (s.drop (a+1))+1) by omega]at ih';unfold gX;rw[Az,Ew];generalize s.getD (a+1) 0=d at*;generalize decide (a+1<s.length)=b1 at*;generalize decide ((s[a].toNat:Int)=46)=b2;cases b1
    ·rw[(hz1 rfl).2];cases fB s[a]<;>cases b2<;>first|exact ih'|rfl
    ·cases fB s[a]<;>cases b2<;>cases fB d<;>first|exact ih'|rfl
   ·simp only[xX,ad]at ih'⊢;rw[show a+1+il (s.drop (a+1))=a+(il (s.drop (a+1))+1) by omega]at ih';unfold il;rw[Az,Ew];generalize s.getD (a+1) 0=d at*;generalize decide (a+1<s.length)=b1 at*;generalize decide ((s[a].toNat:Int)=45)=b2;cases b1
    ·rw[(hz1 rfl).1,(hz1 rfl).2];cases ik s[a]<;>cases fB s[a]<;>cases b2<;>first|exact ih'|rfl
    ·cases ik s[a]<;>cases fB s[a]<;>cases b2<;>cases ik d<;>cases fB d<;>first|exact ih'|rfl
  ·rw[List.drop_eq_nil_of_le h,cY (show ¬(a:Int)<((s.length:Nat):Int) by omega)];cases word<;>rfl
theorem afq(s:List UInt8)(x2 x3:Int)(o:List af)(hs:s.length<=30000)(a:Nat)(h:a<s.length):M.xZ (iM.mk s x2 x3 o) (a:Int)=some ((a+1+xX (ik s[a]) (s.drop (a+1)):Nat):Int):=by
 unfold M.xZ;have w1:=da h (by omega:s.length<2^62);have eL:(decide ((97:Int)<=(s[a].toNat:Int))&&decide ((s[a].toNat:Int)<=122))=ik s[a]:=rfl;have e:=afp s x2 x3 o (ik s[a]) hs ae (a+1) (by have:=bf;omega) (by omega);have hin:inB (a:Int) s.length=true:=by rw[cZ];simpa using h
 simp only[bN,getD_lt h,eL,w1,e,hin,aj,ad]
def tq:List UInt8:=[123,125,40,41,60,62,44,59,58,61,46,47,64,95]
def isS(c:UInt8):Bool:=tq.any fun x=>x==c
theorem Re:∀(l:List UInt8)(c:UInt8),decide ((0:Int)<=Go.Lib.indexByte l c)=l.any fun x=>x==c
 |[],c=>rfl
 |b::l,c=>by
  have ih:=Re l c;have hg:=Go.Lib.indexByte_ge l c;unfold Go.Lib.indexByte;rw[List.any_cons,<-ih];cases hb:(b==c)
  ·rw[aP (by simp),na];by_cases h:Go.Lib.indexByte l c= -1
   ·rw[aT (by rw[h];rfl),h]
   ·rw[aP (by rw[cK];exact h),cN (by omega),cN (by omega)]
  ·rw[aT rfl];rfl
theorem afr(c:UInt8):decide ((0:Int)<=M.Ax [(123:UInt8),(125:UInt8),(40:UInt8),(41:UInt8),(60:UInt8),(62:UInt8),(44:UInt8),(59:UInt8),(58:UInt8),(61:UInt8),(46:UInt8),(47:UInt8),(64:UInt8),(95:UInt8)] ((c.toNat:Nat):Int))=isS c:=by
 unfold M.Ax isS tq;rw[bN,show c.toNat.toUInt8=c from UInt8.ofNat_toNat];exact Re _ c
theorem afs(c:UInt8):M.AE ((c.toNat:Nat):Int)=some (isS c):=by
 have e:=KV (p:=fun x:UInt8=>x==c) (F:=M.tu ((c.toNat:Nat):Int) tq) (e:=()) (fun _=>true) tq (by decide) (fun f k hk=>by
  rw[M.tu];have hb:(((tq[k].toNat:Nat):Int)==((c.toNat:Nat):Int))=(tq[k]==c):=by
   rw[m9,cK,cK];exact toNat_eq
  simp only[getD_lt hk,bN,cZ,fY,hk,eB,ad,bM,hb,da hk (by decide:tq.length<2^62)]) (fun f=>by
  rw[M.tu];simp)
 unfold M.AE isS;rw[show M.tu ((c.toNat:Nat):Int) [(123:UInt8),(125:UInt8),(40:UInt8),(41:UInt8),(60:UInt8),(62:UInt8),(44:UInt8),(59:UInt8),(58:UInt8),(61:UInt8),(46:UInt8),(47:UInt8),(64:UInt8),(95:UInt8)] ae 0=_ from e,aft];cases tq.findIdx? (fun x=>x==c)<;>rfl
def du(c:UInt8)(r:List UInt8):Int×Nat:=
 bif ik c then(1,1+il r)else bif fB c then(2,1+gX r)else bif decide (c=45/\r≠[]/\hd r=62)then(3,2)else bif isS c then(3,1)else(0,0)
theorem Rf(c:UInt8)(r:List UInt8):(du c r).2<=1+r.length:=by
 unfold du;have h1:=KR r;have h2:=KU r;cases ik c
 ·cases fB c
  ·cases hc:decide (c=45/\r≠[]/\hd r=62)
   ·cases isS c<;>simp
   ·rw[ct]at hc;have:0<r.length:=List.length_pos_iff.2 hc.2.1;simp only[al,ad];omega
  ·simp only[al,ad];omega
 ·simp only[ad];omega
theorem x5(c:UInt8)(r:List UInt8)(h:(du c r).1≠0):1<=(du c r).2:=by
 unfold du at h⊢;cases h1:ik c
 ·cases h2:fB c
  ·cases hc:decide (c=45/\r≠[]/\hd r=62)
   ·cases hS:isS c
    ·rw[h1,h2,hc,hS]at h;exact(h rfl).elim
    ·simp
   ·simp
  ·simp
 ·simp
theorem afu(s:List UInt8)(x3:Int)(o:List af)(hs:s.length<=30000)(a:Nat)(h:a<s.length):
 M.AG (iM.mk s (a:Int) x3 o)=some ((du s[a] (s.drop (a+1))).1,bif(du s[a] (s.drop (a+1))).1==0 then 0 else((a+(du s[a] (s.drop (a+1))).2:Nat):Int)):=by
 unfold M.AG du;have eL:(decide ((97:Int)<=(s[a].toNat:Int))&&decide ((s[a].toNat:Int)<=122))=ik s[a]:=rfl;have eD:(decide ((48:Int)<=(s[a].toNat:Int))&&decide ((s[a].toNat:Int)<=57))=fB s[a]:=rfl;have hin:inB (a:Int) s.length=true:=by rw[cZ];simpa using h
 have hp:=pre2 s hs a 45 62 h;have hsl:bS (a:Int) ((s.length:Nat):Int) s.length=true:=by unfold bS;simp only[bz,ct];omega
 have w1:=da h (by omega:s.length<2^62);have w2:Go.IntKind.wrap .i64 ((a:Int)+2)=((a+2:Nat):Int):=by rw[wrap_i64 (by omega) (by omega)];omega
 simp only[bN,getD_lt h,eL,eD,afq s _ x3 o hs a h,hp,hsl,hin,w1,w2,afr,ak,an,aj,ad];cases hl:ik s[a]
 ·cases hd':fB s[a]
  ·simp only[al];cases decide (s[a]=45/\s.drop (a+1)≠[]/\hd (s.drop (a+1))=62)
   ·cases isS s[a]<;>rfl
   ·rfl
  ·simp only[al,ad,xX];rw[show a+1+gX (s.drop (a+1))=a+(1+gX (s.drop (a+1))) by omega];rfl
 ·simp only[ad,xX];rw[show a+1+il (s.drop (a+1))=a+(1+il (s.drop (a+1))) by omega];rfl
def nz(s:List UInt8)(a n:Nat):List UInt8:=(s.drop a).take n
theorem Ey(s:List UInt8)(a n:Nat):List.drop a (List.take (a+n) s)=nz s a n:=by
 unfold nz;rw[List.drop_take];congr 1;omega
theorem afv(s:List UInt8)(hs:s.length<=30000)(a:Nat)(h:a<s.length):
 M.AH s (a:Int)=some (bif(du s[a] (s.drop (a+1))).1==0 then(af.mk 0 [] 0,0)else(af.mk (du s[a] (s.drop (a+1))).1 (nz s a (du s[a] (s.drop (a+1))).2) 0,((a+(du s[a] (s.drop (a+1))).2:Nat):Int))):=by
 unfold M.AH du;have eL:(decide ((97:Int)<=(s[a].toNat:Int))&&decide ((s[a].toNat:Int)<=122))=ik s[a]:=rfl;have eD:(decide ((48:Int)<=(s[a].toNat:Int))&&decide ((s[a].toNat:Int)<=57))=fB s[a]:=rfl;have hin:inB (a:Int) s.length=true:=by rw[cZ];simpa using h
 have w1:=da h (by omega:s.length<2^62);have w2:Go.IntKind.wrap .i64 ((a:Int)+2)=((a+2:Nat):Int):=by rw[wrap_i64 (by omega) (by omega)];omega
 have hw:=afk s hs a (by omega);have hn:=afl s hs a (by omega);simp only[bN,getD_lt h,eL,eD,hin,hw,hn,w1,w2,afs,ak,an,aj,ad];have hlen:(s.drop (a+1)).length=s.length-(a+1):=List.length_drop;cases hl:ik s[a]
 ·cases hd':fB s[a]
  ·simp only[al];have hcond:(((((s[a].toNat:Nat):Int)==45)&&decide (((a+1:Nat):Int)<((s.length:Nat):Int)))&&((((s.getD (a+1) 0).toNat:Nat):Int)==62))=decide (s[a]=45/\s.drop (a+1)≠[]/\hd (s.drop (a+1))=62):=by
    have e1:((s[a].toNat:Int)=45)↔s[a]=45:=toNat_eq (b:=45);have e3:(((s.getD (a+1) 0).toNat:Int)=62)↔s.getD (a+1) 0=62:=toNat_eq (b:=62);have e2:(s.drop (a+1)≠[])↔a+1<s.length:=by
     rw[ne_eq,List.drop_eq_nil_iff];omega
    rw[Az,m9];simp only[bz,cK,ct,e1,e2,e3,fY];constructor
    ·rintro ⟨⟨x,y⟩,z⟩;exact⟨x,y,z⟩
    ·rintro ⟨x,y,z⟩;exact⟨⟨x,y⟩,z⟩
   have hin2:(inB ((a+1:Nat):Int) s.length|| !(((((s[a].toNat:Nat):Int)==45)&&decide (((a+1:Nat):Int)<((s.length:Nat):Int)))==true))=true:=by
    rw[cZ];by_cases q:a+1<s.length
    ·simp[q]
    ·have:decide (((a+1:Nat):Int)<(s.length:Int))=false:=by rw[fE];omega
     rw[this,Bool.and_false];simp
   have hsl1:bS (a:Int) ((a+1:Nat):Int) s.length=true:=by unfold bS;simp only[bz,ct];omega
   rw[hcond,hin2,hsl1];cases hc:decide (s[a]=45/\s.drop (a+1)≠[]/\hd (s.drop (a+1))=62)with
   |false=>
    cases isS s[a]
    ·rfl
    ·rw[Ey];rfl
   |true=>
    rw[ct]at hc;have hT:nz s a 2=[45,62]:=by
     unfold nz;rw[kQ h,hc.1];cases hq:s.drop (a+1)with
     |nil=>exact absurd hq hc.2.1
     |cons d r=>
      have:=hc.2.2;rw[hq]at this;show(45:UInt8)::[d]=[45,62]
      rw[show d=62 from this]
    simp only[ad,hT];rfl
  ·simp only[al,ad];have e:gX (s.drop a)=1+gX (s.drop (a+1)):=by
    rw[kQ h,gX,aT (by rw[hd',bu])];omega
   have hle:=KU (s.drop (a+1));have hsl:bS (a:Int) ((a+(1+gX (s.drop (a+1))):Nat):Int) s.length=true:=by unfold bS;simp only[bz,ct];omega
   rw[e,hsl,Ey];rfl
 ·simp only[ad];have e:il (s.drop a)=1+il (s.drop (a+1)):=by
   rw[kQ h,il,aT (by rw[hl,bu,bu])];omega
  have hle:=KR (s.drop (a+1));have hsl:bS (a:Int) ((a+(1+il (s.drop (a+1))):Nat):Int) s.length=true:=by unfold bS;simp only[bz,ct];omega
  rw[e,hsl,Ey];rfl
end M
namespace M
open Go.V (inB bS ae bf)
theorem vJ:∀(b:Bool)(l:List UInt8)(n:Int),(bm b l n).2<=n+((bm b l n).1:Int)
 |b,[],n=>by cases b<;>simp[bm]
 |true,c::r,n=>by
  unfold bm;have h1:=vJ false r (n+1);have h2:=vJ true r n;split
  ·simp only;omega
  ·simp only;omega
 |false,c::r,n=>by
  unfold bm;have h1:=vJ false r (n+1);have h2:=vJ true r n;have h3:=vJ false r n;split
  ·simp only;omega
  ·split
   ·simp only;omega
   ·split
    ·simp only;omega
    ·simp only;omega
def jc(s:List UInt8):Nat->Nat->Int->List af->(Int×Int)⊕(Int×List af)
 |0,_,_,_=>.inl (0,0)
 |n+1,a,line,out=>if a<s.length then
   if(du (s.getD a 0) (s.drop (a+1))).1=0 then .inl (line,6)else if out.length=4000 then .inl (line,4)
   else jc s n (a+(du (s.getD a 0) (s.drop (a+1))).2+(bm false (s.drop (a+(du (s.getD a 0) (s.drop (a+1))).2)) line).1) (bm false (s.drop (a+(du (s.getD a 0) (s.drop (a+1))).2)) line).2
    (out++[af.mk (du (s.getD a 0) (s.drop (a+1))).1 (nz s a (du (s.getD a 0) (s.drop (a+1))).2) line])
  else .inr (line,out)
theorem afw(s:List UInt8)(hs:s.length<=30000):∀(f a:Nat)(line:Int)(out:List af),s.length-a<f->a<=s.length->0<=line->line<=50000+(a:Int)->out.length<=4000->
 M.x6 s f (a:Int) line out=some (match jc s f a line out with
   |.inl x=>.inl (x.1,x.2,[])
   |.inr y=>.inr y):=by
 intro f
 induction f with
 |zero=>intro a l o h;omega
 |succ f ih=>
  intro a line out h1 h2 h3 h4 ho;rw[M.x6,jc];rcases cQ a s.length with h|h
  ·rw[aT h,cN (show(a:Int)<((s.length:Nat):Int) by omega),ad,afv s hs a h,getD_lt h];have hle:=Rf s[a] (s.drop (a+1));have hpos:=x5 s[a] (s.drop (a+1));rw[List.length_drop]at hle;generalize du s[a] (s.drop (a+1))=x at*;by_cases hx:x.1=0
   ·rw[aT hx,show(x.1==0)=true from cK.2 hx];rfl
   ·have hp:=hpos hx;have hne:(((a+x.2:Nat):Int)==0)=false:=by rw[cL];omega
    have hsk:=Q9 s hs (a+x.2) line (by omega) h3 (by omega);have hcl:=oU false (s.drop (a+x.2)) line;have hcn:=vJ false (s.drop (a+x.2)) line;rw[List.length_drop]at hcl;rw[aP hx,show(x.1==0)=false from cL.2 hx];simp only[al,ak,an,hne,aj,ad];by_cases nA:out.length=4000
    ·rw[aT nA,show(((out.length:Nat):Int)==4000)=true by rw[cK];omega];rfl
    ·rw[aP nA,show(((out.length:Nat):Int)==4000)=false by rw[cL];omega];have hc:∀t:af,decide (out.length+[t].length<=1073741824)=true:=fun t=>by rw[ct,List.length_singleton];omega
     simp only[al,hsk,hc,ak,an,aj,ad];unfold fR;exact ih _ _ _ (by omega) (by omega) (by omega) (by omega) (by rw[aE,List.length_singleton];omega)
  ·rw[aP (by omega),cY (show ¬(a:Int)<((s.length:Nat):Int) by omega)];rfl
theorem afx(s:List UInt8)(hs:s.length<=30000):∀(f a:Nat)(line:Int)(out:List af),s.length-a<f->a<=s.length->0<=line->line<=50000+(a:Int)->out.length<=4000->
 ∃a':Int,M.x7 s f s (a:Int) line out=some (match jc s f a line out with
  |.inl x=>.inl (x.1,x.2)
  |.inr y=>.inr (s,a',y.1,y.2)):=by
 intro f
 induction f with
 |zero=>intro a l o h;omega
 |succ f ih=>
  intro a line out h1 h2 h3 h4 ho;rw[M.x7,jc];rcases cQ a s.length with h|h
  ·rw[aT h,cN (show(a:Int)<((s.length:Nat):Int) by omega),ad,afu s line out hs a h,getD_lt h];have hle:=Rf s[a] (s.drop (a+1));have hpos:=x5 s[a] (s.drop (a+1));rw[List.length_drop]at hle;generalize du s[a] (s.drop (a+1))=x at*;by_cases hx:x.1=0
   ·rw[aT hx];simp only[ak,an,show(x.1==0)=true from cK.2 hx,ad,aj];exact⟨0,trivial⟩
   ·have hp:=hpos hx;have hsk:=Rb s (out++[af.mk x.1 (nz s a x.2) line]) hs (a+x.2) line (by omega) h3 (by omega);have hcl:=oU false (s.drop (a+x.2)) line;have hcn:=vJ false (s.drop (a+x.2)) line;rw[List.length_drop]at hcl;rw[aP hx];simp only[ak,an,show(x.1==0)=false from cL.2 hx,al,ad,aj];by_cases nA:out.length=4000
    ·rw[aT nA,show(((out.length:Nat):Int)==4000)=true by rw[cK];omega];exact⟨0,rfl⟩
    ·rw[aP nA,show(((out.length:Nat):Int)==4000)=false by rw[cL];omega];have hc:∀t:af,decide (out.length+[t].length<=1073741824)=true:=fun t=>by rw[ct,List.length_singleton];omega
     have hsl:bS (a:Int) ((a+x.2:Nat):Int) s.length=true:=by unfold bS;simp only[bz,ct];omega
     simp only[al,bN,Ey,hsk,hc,hsl,ak,an,aj,ad];unfold fR;exact ih _ _ _ (by omega) (by omega) (by omega) (by omega) (by rw[aE,List.length_singleton];omega)
  ·rw[aP (by omega),cY (show ¬(a:Int)<((s.length:Nat):Int) by omega)];exact⟨_,rfl⟩
theorem Ez(s:List UInt8):∀(f a:Nat)(line:Int)(out:List af)(y:Int×List af),out.length<=4000->jc s f a line out=.inr y->y.2.length<=4000
 |0,a,line,out,y,ho,h=>by cases h
 |f+1,a,line,out,y,ho,h=>by
  unfold jc at h;split at h
  ·split at h
   ·cases h
   ·split at h
    ·cases h
    ·exact Ez s f _ _ _ y (by rw[aE,List.length_singleton];omega) h
  ·cases h;exact ho
noncomputable def dr(s:List UInt8):List af×Int×Int:=
 if 30000<s.length then([],0,4)else match jc s ae (bm false s 1).1 (bm false s 1).2 []with
  |.inl x=>([],x.1,x.2)
  |.inr y=>(y.2++[af.mk 4 [] y.1],0,0)
theorem afy(s:List UInt8):M.AI s=some (dr s):=by
 unfold M.AI dr;by_cases h:30000<s.length
 ·rw[aT h,cN (show(30000:Int)<((s.length:Nat):Int) by omega)];rfl
 ·rw[aP h,cY (show ¬(30000:Int)<((s.length:Nat):Int) by omega)];have hsk:M.vF s 0 1=some (fR s 0 1):=Q9 s (by omega) 0 1 (cM _) (by omega) (by omega);have hcl:=oU false s 1;have e:fR s 0 1=((((bm false s 1).1:Nat):Int),(bm false s 1).2):=by unfold fR;rw[jj,dC]
  have ht:=afw s (by omega) ae (bm false s 1).1 (bm false s 1).2 [] (by have:=bf;omega) hcl.1 (by omega) (by omega) (by simp);have hlen:=Ez s ae (bm false s 1).1 (bm false s 1).2 [];rw[hsk,e];simp only[al,ak,an,ht,aj];generalize jc s ae (bm false s 1).1 (bm false s 1).2 []=r at*;cases r with
  |inl x=>rfl
  |inr y=>
   have:=hlen y (by simp) rfl;have hc:∀t:af,decide (y.2.length+[t].length<=1073741824)=true:=fun t=>by rw[ct,List.length_singleton];omega
   simp only[hc,aj,ad]
theorem afz(s:List UInt8):M.AK s=some (dr s):=by
 unfold M.AK dr;by_cases h:30000<s.length
 ·rw[aT h,cN (show(30000:Int)<((s.length:Nat):Int) by omega)];rfl
 ·rw[aP h,cY (show ¬(30000:Int)<((s.length:Nat):Int) by omega)];have hsk:M.vG s 0 1 []=some (s,(fR s 0 1).1,(fR s 0 1).2,[]):=Rb s [] (by omega) 0 1 (cM _) (by omega) (by omega);have hcl:=oU false s 1;have e:fR s 0 1=((((bm false s 1).1:Nat):Int),(bm false s 1).2):=by unfold fR;rw[jj,dC]
  obtain⟨a',ht⟩:=afx s (by omega) ae (bm false s 1).1 (bm false s 1).2 [] (by have:=bf;omega) hcl.1 (by omega) (by omega) (by simp);have hlen:=Ez s ae (bm false s 1).1 (bm false s 1).2 [];rw[hsk,e];simp only[al,ak,an,ht,aj];generalize jc s ae (bm false s 1).1 (bm false s 1).2 []=r at*;cases r with
  |inl x=>rfl
  |inr y=>
   have:=hlen y (by simp) rfl;have hc:∀t:af,decide (y.2.length+[t].length<=1073741824)=true:=fun t=>by rw[ct,List.length_singleton];omega
   simp only[hc,aj,ad]
def x8(t:af):Prop:=(t.Kind=1\/t.Kind=2\/t.Kind=3)/\(t.Kind=2->∃c r,t.Text=c::r/\fB c=true)
theorem afA(s:List UInt8)(a:Nat)(line:Int)(h:a<s.length)(hx:(du (s.getD a 0) (s.drop (a+1))).1≠0):
 x8 (af.mk (du (s.getD a 0) (s.drop (a+1))).1 (nz s a (du (s.getD a 0) (s.drop (a+1))).2) line):=by
 rw[getD_lt h]at hx⊢;unfold du at hx⊢;unfold x8;cases h1:ik s[a]
 ·cases h2:fB s[a]
  ·cases h3:decide (s[a]=45/\s.drop (a+1)≠[]/\hd (s.drop (a+1))=62)
   ·cases h4:isS s[a]
    ·rw[h1,h2,h3,h4]at hx;exact(hx rfl).elim
    ·exact⟨.inr (.inr rfl),fun q=>by cases q⟩
   ·exact⟨.inr (.inr rfl),fun q=>by cases q⟩
  ·refine⟨.inr (.inl rfl),fun _=>⟨s[a],(s.drop (a+1)).take (gX (s.drop (a+1))),?_,h2⟩⟩;simp only[al,ad];unfold nz;rw[kQ h,uY 1,List.take_succ_cons]
 ·exact⟨.inl rfl,fun q=>by cases q⟩
theorem Rh(s:List UInt8):∀(f a:Nat)(line:Int)(out:List af)(y:Int×List af),(∀t∈out,x8 t)->jc s f a line out=.inr y->∀t∈y.2,x8 t
 |0,a,line,out,y,ho,h=>by cases h
 |f+1,a,line,out,y,ho,h=>by
  unfold jc at h;split at h
  ·rename_i hl;split at h
   ·cases h
   ·rename_i hx;split at h
    ·cases h
    ·refine Rh s f _ _ _ y (fun t ht=>?_) h;rcases de.1 ht with q|q
     ·exact ho t q
     ·rw[eI]at q;rw[q];exact afA s a line hl hx
  ·cases h;exact ho
structure bW (l:List af):Prop where
 ex:∃o e,l=o++[e]/\e.Kind=4/\e.Text=[]/\(∀t∈o,x8 t)/\o.length<=4000
theorem EA(s:List UInt8)(h:(dr s).2.2=0):bW (dr s).1:=by
 unfold dr at h⊢;split at h
 ·cases h
 ·rename_i hl;rw[aP hl];have hlen:=Ez s ae (bm false s 1).1 (bm false s 1).2 [];have hok:=Rh s ae (bm false s 1).1 (bm false s 1).2 [];have hcode:∀(f a:Nat)(line:Int)(out:List af)(x:Int×Int),s.length-a<f->jc s f a line out=.inl x->x.2≠0:=fun f=>by
   induction f with
   |zero=>intro a line out x hf;omega
   |succ f ih=>
    intro a line out x hf hx;unfold jc at hx;split at hx
    ·rename_i ha;split at hx
     ·cases hx;intro q;cases q
     ·rename_i hx0;split at hx
      ·cases hx;intro q;cases q
      ·have hp:=x5 _ _ hx0;exact ih _ _ _ x (by omega) hx
    ·cases hx
  have hc:=hcode ae (bm false s 1).1 (bm false s 1).2 [];generalize jc s ae (bm false s 1).1 (bm false s 1).2 []=r at*;cases r with
  |inl x=>exact absurd h (hc x (by have:=bf;omega) rfl)
  |inr y=>exact⟨y.2,_,rfl,rfl,rfl,hok y (by simp) rfl,hlen y (by simp) rfl⟩
end M
namespace M
open Go.V (inB bS ae bf)
theorem bW.pos{l:List af}(h:bW l):0<l.length:=by
 obtain⟨o,e,rfl,-⟩:=h.ex;simp
theorem bW.len{l:List af}(h:bW l):l.length<=4001:=by
 obtain⟨o,e,rfl,-,-,-,h4⟩:=h.ex;simp;omega
theorem bW.mid{l:List af}(h:bW l){k:Nat}(hk:k+1<l.length):x8 (l.getD k af.zero):=by
 obtain⟨o,e,rfl,-,-,ho,-⟩:=h.ex;rw[aE,List.length_singleton]at hk;have hk':k<o.length:=by omega
 rw[getD_lt (show k<(o++[e]).length by rw[aE,List.length_singleton];omega),List.getElem_append_left hk'];exact ho _ (dt hk')
theorem bW.last{l:List af}(h:bW l){k:Nat}(hk:k+1=l.length):(l.getD k af.zero).Kind=4/\(l.getD k af.zero).Text=[]:=by
 obtain⟨o,e,rfl,h1,h2,-,-⟩:=h.ex;rw[aE,List.length_singleton]at hk;have:k=o.length:=by omega
 subst this;rw[getD_lt (show o.length<(o++[e]).length by simp)];simp[h1,h2]
theorem bW.next{l:List af}(h:bW l){k:Nat}(hk:k<l.length)(h4:(l.getD k af.zero).Kind≠4):k+1<l.length:=by
 rcases cQ (k+1) l.length with q|q
 ·exact q
 ·exact absurd (h.last (by omega)).1 h4
def bp(l:List af)(k:Nat):af:=l.getD k af.zero
def aA(l:List af)(text:List UInt8)(k:Nat):Bool:=((bp l k).Kind !=4)&&((bp l k).Text==text)
def tw(text:List UInt8):Prop:=∀c r,text=c::r->fB c=false
theorem afB{l:List af}(h:bW l){k:Nat}(hk:k<l.length){text:List UInt8}(hn:tw text):
 ((((bp l k).Kind==1)||((bp l k).Kind==3))&&((bp l k).Text==text))=aA l text k:=by
 unfold aA;by_cases hl:k+1<l.length
 ·obtain⟨h1,h2⟩:=h.mid hl;have e:(l.getD k af.zero)=bp l k:=rfl;rw[e]at h1 h2;rcases h1 with q|q|q
  ·rw[q];rfl
  ·rw[q];obtain⟨c,r,ht,hc⟩:=h2 q;have:((bp l k).Text==text)=false:=by
    rw[cL,ht];intro e;rw[hn c r e.symm]at hc;cases hc
   rw[this,Bool.and_false,Bool.and_false]
  ·rw[q];rfl
 ·have:=(h.last (k:=k) (by omega)).1;have e:(l.getD k af.zero)=bp l k:=rfl;rw[e]at this;rw[this];rfl
def ip(l:List af)(k:Nat)(b:Bool):au:=au.mk l (k:Int) b
def sp(l:List af)(k:Nat)(b:Bool):ay:=ay.mk l (k:Int) b
theorem kR{l:List af}{k:Nat}(hk:k<l.length):inB (k:Int) l.length=true:=by rw[cZ];simpa using hk
theorem AL{l:List af}(h:bW l){k:Nat}(hk:k<l.length){text:List UInt8}(hn:tw text)(b:Bool):M.mQ text (ip l k b)=some (!b&&aA l text k,ip l k b):=by
 unfold M.mQ ip;have e:=afB h hk hn;unfold bp at e;simp only[kR hk,aj,ad,bN,Bool.and_assoc];rw[<-e]
theorem js{l:List af}(h:bW l){k:Nat}(hk:k<l.length){text:List UInt8}(hn:tw text)(b:Bool):M.eG text (ip l k b)=some (bif !b&&aA l text k then(true,ip l (k+1) b)else(false,ip l k b)):=by
 unfold M.eG;rw[AL h hk hn b];have hlen:=h.len;have w:=da (k:=k) hk (by omega:l.length<2^62);cases hb:(!b&&aA l text k)
 ·rfl
 ·simp only[ak,an,b9,al,aj,ad];unfold ip;rw[w]
theorem fi{l:List af}(h:bW l){k:Nat}(hk:k<l.length){text:List UInt8}(hn:tw text)(b:Bool):M.di text (ip l k b)=some (bif !b&&aA l text k then ip l (k+1) b else ip l k true):=by
 unfold M.di;rw[js h hk hn b];cases (!b&&aA l text k)<;>rfl
theorem cU{l:List af}(h:bW l){k:Nat}(hk:k<l.length){text:List UInt8}(hb:aA l text k=true):k+1<l.length:=by
 unfold aA at hb;rw[bz,pE]at hb;exact h.next hk hb.1
theorem KW{l:List af}(h:bW l){k:Nat}(hk:k+1<l.length)(b:Bool):M.rE (sp l k b)=some (sp l (k+1) b):=by
 unfold M.rE sp;have hlen:=h.len;have w:=da (k:=k) (n:=l.length) (by omega) (by omega:l.length<2^62);simp only[w,cN (show((k+1:Nat):Int)<((l.length:Nat):Int) by omega),ad]
theorem l6{l:List af}{k:Nat}(hk:k<l.length)(b:Bool):M.lG (sp l k b)=some (bp l k,sp l k b):=by
 unfold M.lG sp bp;simp only[kR hk,aj,ad,bN]
theorem afC{l:List af}{k:Nat}(hk:k<l.length)(text:List UInt8)(b:Bool):M.AM text (sp l k b)=some (aA l text k,sp l k b):=by
 unfold M.AM;rw[l6 hk b];rfl
theorem fC{l:List af}(h:bW l){k:Nat}(hk:k<l.length)(text:List UInt8)(b:Bool):M.dJ text (sp l k b)=some (bif !b&&aA l text k then(true,sp l (k+1) b)else(false,sp l k b)):=by
 unfold M.dJ;have e:ay.bad (sp l k b)=b:=rfl;rw[e];cases b
 ·simp only[afC hk,ak,an,al,bo,bj];cases hb:aA l text k
  ·rfl
  ·simp only[KW h (cU h hk hb),ak,an];rfl
 ·rfl
theorem gY{l:List af}(h:bW l){k:Nat}(hk:k<l.length)(text:List UInt8)(b:Bool):M.dE text (sp l k b)=some (bif !b&&aA l text k then sp l (k+1) b else sp l k true):=by
 unfold M.dE;rw[fC h hk text b];cases (!b&&aA l text k)<;>rfl
def ef(l:List af)(k:Nat):Bool:=((bp l k).Kind==1)&&l7 (bp l k).Text
theorem EB{l:List af}(hT:∀t∈l,t.Text.length<=30000){k:Nat}(hk:k<l.length):(bp l k).Text.length<=1048576:=by
 have:=hT (bp l k) (by unfold bp;rw[getD_lt hk];exact dt hk);omega
theorem x9{l:List af}(h:bW l)(hT:∀t∈l,t.Text.length<=30000){k:Nat}(hk:k<l.length)(b:Bool):M.gh (sp l k b)=some (bif !b&&ef l k then((bp l k).Text,sp l (k+1) b)else([],sp l k true)):=by
 have hN:M.AN (bp l k).Text=some (l7 (bp l k).Text):=by
  unfold M.AN;rw[afD _ (EB hT hk)];rfl
 unfold M.gh ef;rw[l6 hk b];simp only[ak,an,hN,bu,aj,ad];have e:ay.bad (sp l k b)=b:=rfl;rw[e];cases b
 ·cases hk1:((bp l k).Kind==(1:Int))
  ·rw[show((bp l k).Kind !=(1:Int))=true by rw[bne,hk1];rfl];rfl
  ·rw[show((bp l k).Kind !=(1:Int))=false by rw[bne,hk1];rfl];cases l7 (bp l k).Text
   ·rfl
   ·have hn:k+1<l.length:=h.next hk (by
     have:(bp l k).Kind=1:=by simpa using hk1
     unfold bp at this;rw[this];decide)
    simp only[KW h hn,ak,an];rfl
 ·rfl
theorem EC{l:List af}(h:bW l)(hT:∀t∈l,t.Text.length<=30000){k:Nat}(hk:k<l.length)(b:Bool):M.gZ (ip l k b)=some (bif !b&&ef l k then((bp l k).Text,ip l (k+1) b)else([],ip l k true)):=by
 have hN:=Ri (bp l k).Text (EB hT hk);have hlen:=h.len;have w:=da (k:=k) hk (by omega:l.length<2^62);have e1:M.AO 1 (ip l k b)=some (bif !b&&ef l k then((bp l k).Text,ip l (k+1) b)else([],ip l k true)):=by
  unfold M.AO ef ip;have e:l.getD k af.zero=bp l k:=rfl;simp only[kR hk,bN,e,hN,w,ak,an];cases b
  ·cases hk1:((bp l k).Kind==(1:Int))
   ·rw[show((bp l k).Kind !=(1:Int))=true by rw[bne,hk1];rfl];rfl
   ·rw[show((bp l k).Kind !=(1:Int))=false by rw[bne,hk1];rfl];cases l7 (bp l k).Text<;>rfl
  ·rfl
 unfold M.gZ;rw[e1];rfl
end M
namespace M
open Go.V (inB bS ae bf)
def words:List (List UInt8):=M.jY.getD []++M.jZ.getD []
theorem AP:words.length=23:=by decide
theorem ED:M.f6=some ([]::words):=by decide
def dK(w:List UInt8):Int:=match words.findIdx? (fun x=>x==w)with
 |some i=>(i:Int)+1
 |none=>0
theorem EE(w:List UInt8):0<=dK w/\dK w<=23:=by
 unfold dK;cases h:words.findIdx? (fun x=>x==w)with
 |none=>simp
 |some i=>
  rw[List.findIdx?_eq_some_iff_getElem]at h;obtain⟨hi,-⟩:=h;rw[AP]at hi;simp only;omega
theorem AQ:dK []=0:=by decide
theorem EF(w:List UInt8):M.tz w=some (dK w):=by
 have e:=KV (p:=fun x:List UInt8=>x==w) (F:=M.tA w words) (e:=()) (fun k=>Go.IntKind.wrap .i64 (k+1)) words (by rw[AP];omega) (fun f k hk=>by
  rw[M.tA];simp only[getD_lt hk,bN,cZ,fY,hk,eB,ad,bM,da hk (by rw[AP];omega:words.length<2^62)]) (fun f=>by
  rw[M.tA];simp)
 unfold M.tz;rw[show M.tA w ((Option.getD M.jY Inhabited.default)++(Option.getD M.jZ Inhabited.default)) ae 0=_ from e];unfold dK;cases h:words.findIdx? (fun x=>x==w)with
 |none=>rfl
 |some i=>
  rw[List.findIdx?_eq_some_iff_getElem]at h;obtain⟨hi,-⟩:=h;have:=da hi (by rw[AP];omega:words.length<2^62);simp only[this];rw[show((i+1:Nat):Int)=(i:Int)+1 by omega]
theorem afE(w:List UInt8):M.AS w=some (decide (0<dK w)):=by
 unfold M.AS;rw[EF];rfl
theorem Rj(w:List UInt8):M.vK ([]::words) w=some (if w=[]then 0 else if dK w=0 then -1 else dK w):=by
 have hl:([]::words).length=24:=by rw[aC,AP]
 have e:=KV (p:=fun x:List UInt8=>w==x) (F:=M.vL ([]::words) w ((([]::words:List (List UInt8)).length:Nat):Int)) (e:=()) (fun k=>k) ([]::words) (by rw[hl];omega) (fun f k hk=>by
  rw[M.vL];simp only[getD_lt hk,bN,cZ,fY,hk,eB,ad,bM,da hk (by rw[hl];omega:([]::words).length<2^62)]) (fun f=>by
  rw[M.vL];simp)
 have hc:(fun x:List UInt8=>w==x)=fun x=>x==w:=funext fun x=>by rw[m9,cK,cK];exact eq_comm
 unfold M.vK;rw[e,hc,List.findIdx?_cons];by_cases h0:w=[]
 ·rw[h0,aT rfl];rfl
 ·rw[aP h0,aP (by rw[cK];exact fun q=>h0 q.symm)];unfold dK;cases h:words.findIdx? (fun x=>x==w)with
  |none=>rfl
  |some i=>
   simp only[iU];rw[aP (by omega)];congr 1
theorem EG(w:List UInt8):M.rF w=some (decide (0<dK w)):=by
 unfold M.rF M.EH;rw[ED];simp only[ak,an,Rj,bu,aj,ad];by_cases h0:w=[]
 ·rw[h0,AQ];rfl
 ·have hb:=EE w;rw[aP h0,show(w==[])=false from cL.2 h0,bo,bj];by_cases hk:dK w=0
  ·rw[aT hk,hk];rfl
  ·rw[aP hk,cN (by omega),cN (by omega)]
def jt(l:List af)(k:Nat):Bool:=ef l k&& !decide (0<dK (bp l k).Text)
def ka(l:List af)(k:Nat):Bool:=((bp l k).Kind==2)&&tB (bp l k).Text
theorem KX{l:List af}(h:bW l)(hT:∀t∈l,t.Text.length<=30000){k:Nat}(hk:k<l.length)(b:Bool):M.nB (ip l k b)=some (bif !b&&jt l k then((bp l k).Text,ip l (k+1) b)else([],ip l k true)):=by
 have hN:M.AT (bp l k).Text=some (l7 (bp l k).Text&& !decide (0<dK (bp l k).Text)):=by
  unfold M.AT;rw[EG,Ri _ (EB hT hk)];simp only[ak,an,bu,aj,ad]
 have hlen:=h.len;have w:=da (k:=k) hk (by omega:l.length<2^62);have e1:M.AU 1 (ip l k b)=some (bif !b&&jt l k then((bp l k).Text,ip l (k+1) b)else([],ip l k true)):=by
  unfold M.AU jt ef ip;have e:l.getD k af.zero=bp l k:=rfl;simp only[kR hk,bN,e,hN,w,ak,an,Bool.and_assoc];cases b
  ·cases hk1:((bp l k).Kind==(1:Int))
   ·rw[show((bp l k).Kind !=(1:Int))=true by rw[bne,hk1];rfl];rfl
   ·rw[show((bp l k).Kind !=(1:Int))=false by rw[bne,hk1];rfl];cases (l7 (bp l k).Text&& !decide (0<dK (bp l k).Text))<;>rfl
  ·rfl
 unfold M.nB;rw[e1];rfl
theorem KY{l:List af}(h:bW l)(hT:∀t∈l,t.Text.length<=30000){k:Nat}(hk:k<l.length)(b:Bool):M.nC (sp l k b)=some (bif !b&&jt l k then((bp l k).Text,sp l (k+1) b)else([],sp l k true)):=by
 unfold M.nC jt;rw[l6 hk b];simp only[ak,an,afE,aj];cases hr:decide (0<dK (bp l k).Text)
 ·simp only[al,x9 h hT hk b,ak,an,aj,ad,bo,bM]
 ·have e:ay.mk (ay.list (sp l k b)) (ay.at_ (sp l k b)) true=sp l k true:=rfl;simp only[ad,e,x9 h hT hk true,ak,an,aj,b9,cJ,Bool.and_false,al]
theorem afF{l:List af}(h:bW l)(hT:∀t∈l,t.Text.length<=30000){k:Nat}(hk:k<l.length)(b:Bool):M.tD (ip l k b)=some (bif !b&&ka l k then((bp l k).Text,ip l (k+1) b)else([],ip l k true)):=by
 have hN:=afG (bp l k).Text (EB hT hk);have hlen:=h.len;have w:=da (k:=k) hk (by omega:l.length<2^62);have e1:M.AW 2 (ip l k b)=some (bif !b&&ka l k then((bp l k).Text,ip l (k+1) b)else([],ip l k true)):=by
  unfold M.AW ka ip;have e:l.getD k af.zero=bp l k:=rfl;simp only[kR hk,bN,e,hN,w,ak,an];cases b
  ·cases hk1:((bp l k).Kind==(2:Int))
   ·rw[show((bp l k).Kind !=(2:Int))=true by rw[bne,hk1];rfl];rfl
   ·rw[show((bp l k).Kind !=(2:Int))=false by rw[bne,hk1];rfl];cases tB (bp l k).Text<;>rfl
  ·rfl
 unfold M.tD;rw[e1];rfl
theorem afH{l:List af}(h:bW l){k:Nat}(hk:k<l.length)(b:Bool):M.tG (sp l k b)=some (bif !b&&ka l k then((bp l k).Text,sp l (k+1) b)else([],sp l k true)):=by
 have hN:=afI (bp l k).Text;unfold M.tG ka;rw[l6 hk b];simp only[ak,an,hN,bu,aj,ad];have e:ay.bad (sp l k b)=b:=rfl;rw[e];cases b
 ·cases hk1:((bp l k).Kind==(2:Int))
  ·rw[show((bp l k).Kind !=(2:Int))=true by rw[bne,hk1];rfl];rfl
  ·rw[show((bp l k).Kind !=(2:Int))=false by rw[bne,hk1];rfl];cases tB (bp l k).Text
   ·rfl
   ·have hn:k+1<l.length:=h.next hk (by
     have:(bp l k).Kind=2:=by simpa using hk1
     unfold bp at this;rw[this];decide)
    simp only[KW h hn,ak,an];rfl
 ·rfl
end M
namespace M
open Go.V (inB bS ae bf)
inductive PR (α:Type) where
 |ok (v:α) (k:Nat)
 |no (k:Nat)
def PR.bind{α β:Type}(r:PR α)(f:α->Nat->PR β):PR β:=match r with
 |.ok v k=>f v k
 |.no k=>.no k
def cq(l:List af)(text:List UInt8)(k:Nat):PR Unit:=bif aA l text k then .ok () (k+1)else .no k
def gi(l:List af)(k:Nat):PR (List UInt8):=bif ef l k then .ok (bp l k).Text (k+1)else .no k
def kS(l:List af)(k:Nat):PR (List UInt8):=bif jt l k then .ok (bp l k).Text (k+1)else .no k
def tH(l:List af)(k:Nat):PR (List UInt8):=bif ka l k then .ok (bp l k).Text (k+1)else .no k
def dL{α:Type}(l:List af)(el:Nat->PR α):Nat->List α->Nat->PR (List α)
 |m,acc,k=>match el k with
  |.no k'=>.no k'
  |.ok v k1=>match m with
    |0=>.ok (acc++[v]) k1
    |m+1=>bif aA l [44] k1 then dL l el m (acc++[v]) (k1+1)else .ok (acc++[v]) k1
def dG:aa:=aa.mk 1 [] [] []
def gj(l:List af)(K:Int)(term:Nat->PR aa)(k:Nat):PR (List UInt8×List aa):=
 (gi l k).bind fun nm k1=>
   bif K==16 then(cq l [58] k1).bind fun _ k2=>(term k2).bind fun t k3=>.ok (nm,[t]) k3
   else bif K==17 then(bif aA l [40] k1 then(term (k1+1)).bind fun t k3=>(cq l [41] k3).bind fun _ k4=>.ok (nm,[t]) k4 else .ok (nm,[dG]) k1)
   else .ok (nm,[]) k1
def l8(l:List af)(term:Nat->PR aa)(k:Nat):PR (List aa):=
 bif aA l [60] k then
  (bif aA l [95] (k+1)then .ok dG (k+2)else term (k+1)).bind fun a k1=>
    (bif aA l [44] k1 then term (k1+1)else .ok dG k1).bind fun b k2=>(cq l [62] k2).bind fun _ k3=>.ok [a,b] k3
 else .ok [dG,dG] k
def dO(l:List af):Nat->Nat->PR aa
 |0,k=>.no k
 |d+1,k=>(gi l k).bind fun w k1=>
  bif dK w==0 then .ok (aa.mk 30 w [] []) k1
  else bif(dK w==12)||((dK w==13)||((dK w==22)||(dK w==23)))then(cq l [60] k1).bind fun _ k2=>(dO l d k2).bind fun t k3=>(cq l [62] k3).bind fun _ k4=>.ok (aa.mk (dK w) [] [] [t]) k4
  else bif dK w==15 then(cq l [60] k1).bind fun _ k2=>(dL l (dO l d) 5 [] k2).bind fun ts k3=>(cq l [62] k3).bind fun _ k4=>.ok (aa.mk (dK w) [] [] ts) k4
  else bif(dK w==20)||(dK w==21)then(cq l [60] k1).bind fun _ k2=>(kS l k2).bind fun nm k3=>(cq l [62] k3).bind fun _ k4=>.ok (aa.mk (dK w) nm [] []) k4
  else bif dK w==14 then(l8 l (dO l d) k1).bind fun ts k2=>.ok (aa.mk (dK w) [] [] ts) k2
  else bif(dK w==16)||((dK w==17)||((dK w==18)||(dK w==19)))then(cq l [123] k1).bind fun _ k2=>(dL l (gj l (dK w) (dO l d)) 15 [] k2).bind fun ps k3=>(cq l [125] k3).bind fun _ k4=>.ok (aa.mk (dK w) [] (ps.map (·.1)) (ps.map (·.2)).flatten) k4
  else .ok (aa.mk (dK w) [] [] []) k1
def Out{α β:Type}(l:List af)(r:PR α)(o:Option β)(F:α->Nat->Bool->β):Prop:=match r with
 |.ok v k=>k<l.length/\o=some (F v k false)
 |.no k=>k<l.length/\∃v,o=some (F v k true)
def RB{α:Type}(b:Bool)(k:Nat)(r:PR α):PR α:=bif b then .no k else r
theorem cT(c:UInt8)(h:fB c=false):tw [c]:=fun d r e=>by cases e;exact h
def pW(l:List af)(rec:Int->au->Option (aa×au))(lv:Int)(g:Nat->PR aa):Prop:=
 ∀k b,k<l.length->Out l (RB b k (g k)) (rec lv (ip l k b)) fun v k' b'=>(v,ip l k' b')
theorem mR{α:Type}(l:List α)(x y:α):(l++[x]).set (Int.toNat ((l.length:Nat):Int)) y=l++[y]:=by
 rw[bN,List.set_append_right _ _ (cu _),Dh];rfl
theorem l9{α:Type}(l:List α)(x:α):inB ((l.length:Nat):Int) (l++[x]).length=true:=by rw[cZ];simp
theorem dH{α:Type}{l:List α}{x:α}(h:l.length<=1000):decide (l.length+[x].length<=1073741824)=true:=by
 rw[ct,List.length_singleton];omega
theorem rG{l:List af}{rec:Int->au->Option (aa×au)}{g:Nat->PR aa}{K lv:Int}{nm:List UInt8}{ls:List (List UInt8)}{ks:List aa}(hr:pW l rec (Go.IntKind.wrap .i64 (lv+1)) g)
 (hks:ks.length<=1000) {k:Nat} (hk:k<l.length) (b:Bool):
 Out l (RB b k (g k)) (M.ma rec K nm lv ls ks l (k:Int) b) fun v k' b'=>(K,nm,lv,l,(k':Int),b',ls,ks++[v]):=by
 have h:=hr k b hk;unfold M.ma;have e:au.mk l (k:Int) b=ip l k b:=rfl;rw[e];unfold Out at h⊢;cases hg:RB b k (g k)with
 |ok v k'=>
  rw[hg]at h;obtain⟨h1,h2⟩:=h;refine⟨h1,?_⟩;simp only[h2,l9,dH hks,an,ak,aj,ad,mR,aa.bX];rfl
 |no k'=>
  rw[hg]at h;obtain⟨h1,v,h2⟩:=h;refine⟨h1,v,?_⟩;simp only[h2,l9,dH hks,an,ak,aj,ad,mR,aa.bX];rfl
theorem afJ{l:List af}(hL:bW l){rec:Int->au->Option (aa×au)}{g:Nat->PR aa}{K lv:Int}{nm:List UInt8}{ls:List (List UInt8)}(hr:pW l rec (Go.IntKind.wrap .i64 (lv+1)) g)
 (most:Nat) (hm:most<=100):∀(f m:Nat)(ks:List aa)(k:Nat),m<f->k<l.length->ks.length+(m+1)<=most->
 Out l (dL l g m ks k) ((M.rH rec (most:Int) f ((most-m:Nat):Int) (ip l k false) K nm lv ls ks).map fun r=>match r with
  |.inl x=>x
  |.inr x=>x) fun vs k' b'=>(l,(k':Int),b',K,nm,lv,ls,vs):=by
 intro f
 induction f with
 |zero=>intro m ks k h;omega
 |succ f ih=>
  intro m ks k hf hk hks;rw[M.rH,dL];have eb:au.bad (ip l k false)=false:=rfl;have el:au.list (ip l k false)=l:=rfl;have ea:au.at_ (ip l k false)=(k:Int):=rfl;simp only[eb,el,ea,bo,ad];have cn:=rG (K:=K) (lv:=lv) (nm:=nm) (ls:=ls) (ks:=ks) hr (by omega) hk false;unfold Out at cn;rw[show RB false k (g k)=g k from rfl]at cn;cases hg:g k with
  |no k'=>
   rw[hg]at cn;obtain⟨h1,v,h2⟩:=cn;refine⟨h1,ks++[v],?_⟩;simp only[h2,an,ak,bu,ad,aj,cr];rfl
  |ok v k'=>
   rw[hg]at cn;obtain⟨h1,h2⟩:=cn;cases m with
   |zero=>
    have e:(((most-0:Nat):Int)==(most:Int))=true:=by rw[cK];omega
    refine⟨h1,?_⟩;simp only[h2,e,an,ak,na,ad,aj,cr];rfl
   |succ m=>
    have e:(((most-(m+1):Nat):Int)==(most:Int))=false:=by rw[cL];omega
    have ht:=js hL h1 (cT 44 (by decide)) false;have ep:au.mk l (k':Int) false=ip l k' false:=rfl;simp only[h2,e,ep,ht,an,ak,na,al,ad,aj,cr,bo,bj];cases hb:aA l [44] k'
    ·exact⟨h1,rfl⟩
    ·have hw:Go.IntKind.wrap .i64 (((most-(m+1):Nat):Int)+1)=((most-m:Nat):Int):=by rw[wrap_i64 (by omega) (by omega)];omega
     simp only[ad,b9,al,hw];exact ih m (ks++[v]) (k'+1) (by omega) (cU hL h1 hb) (by rw[aE,List.length_singleton];omega)
theorem Rk{l:List af}(hL:bW l){rec:Int->au->Option (aa×au)}{g:Nat->PR aa}{K lv:Int}{nm:List UInt8}{ls:List (List UInt8)}(hr:pW l rec (Go.IntKind.wrap .i64 (lv+1)) g)
 {k:Nat} (hk:k<l.length) (b:Bool):Out l (RB b k (dL l g 5 [] k)) (M.ya rec 6 (ip l k b) K nm lv ls []) fun vs k' b'=>(ip l k' b',K,nm,lv,ls,vs):=by
 cases b with
 |true=>
  refine⟨hk,[],?_⟩;obtain⟨n,hn⟩:∃n,ae=n+1:=⟨ae-1,by have:=bf;omega⟩;unfold M.ya;rw[hn,M.rH];rfl
 |false=>
  have e:=afJ hL (K:=K) (lv:=lv) (nm:=nm) (ls:=ls) hr 6 (by omega) ae 5 [] k (by have:=bf;omega) hk (by simp);have hs:((6-5:Nat):Int)=1:=by decide
  rw[hs]at e;rw[show RB false k (dL l g 5 [] k)=dL l g 5 [] k from rfl];unfold M.ya;unfold Out at e⊢;cases hc:dL l g 5 [] k with
  |ok v k'=>
   rw[hc]at e;obtain⟨h1,h2⟩:=e;refine⟨h1,?_⟩;cases ho:M.rH rec 6 ae 1 (ip l k false) K nm lv ls []with
   |none=>rw[show((6:Nat):Int)=6 from rfl,ho]at h2;cases h2
   |some r=>
    rw[show((6:Nat):Int)=6 from rfl,ho]at h2;cases r<;>(simp only[iU,av]at h2;rw[h2];rfl)
  |no k'=>
   rw[hc]at e;obtain⟨h1,v,h2⟩:=e;refine⟨h1,v,?_⟩;cases ho:M.rH rec 6 ae 1 (ip l k false) K nm lv ls []with
   |none=>rw[show((6:Nat):Int)=6 from rfl,ho]at h2;cases h2
   |some r=>
    rw[show((6:Nat):Int)=6 from rfl,ho]at h2;cases r<;>(simp only[iU,av]at h2;rw[h2];rfl)
end M
namespace M
open Go.V (inB bS ae bf)
def pX(l:List af)(K:Int)(term:Nat->PR aa)(nm:List UInt8)(k1:Nat):PR (List UInt8×List aa):=
    bif K==16 then(cq l [58] k1).bind fun _ k2=>(term k2).bind fun t k3=>.ok (nm,[t]) k3
    else bif K==17 then(bif aA l [40] k1 then(term (k1+1)).bind fun t k3=>(cq l [41] k3).bind fun _ k4=>.ok (nm,[t]) k4 else .ok (nm,[dG]) k1)
    else .ok (nm,[]) k1
theorem EI(l:List af)(K:Int)(term:Nat->PR aa)(k:Nat):gj l K term k=(gi l k).bind (pX l K term):=rfl
theorem Rl{l:List af}(hL:bW l){rec:Int->au->Option (aa×au)}{g:Nat->PR aa}{K lv:Int}{nm:List UInt8}{ls:List (List UInt8)}{ks:List aa}(hr:pW l rec (Go.IntKind.wrap .i64 (lv+1)) g)
 (hls:ls.length<=1000) (hks:ks.length<=1000) {p:au} {w:List UInt8} {k1:Nat} {b1:Bool} (hname:M.gZ p=some (w,ip l k1 b1)) (hk:k1<l.length):
 Out l (RB b1 k1 (pX l K g w k1)) (M.yb rec p K nm lv ls ks) fun v k' b'=>(ip l k' b',K,nm,lv,ls++[v.1],ks++v.2):=by
 unfold M.yb pX;simp only[hname,dH hls,an,ak,aj];have el:∀k b,au.list (ip l k b)=l:=fun _ _=>rfl
 have ea:∀k b,au.at_ (ip l k b)=(k:Int):=fun _ _=>rfl
 have eb:∀k b,au.bad (ip l k b)=b:=fun _ _=>rfl
 have ep:∀(k:Nat) b,au.mk l (k:Int) b=ip l k b:=fun _ _=>rfl
 cases h16:(K==(16:Int))
 ·cases h17:(K==(17:Int))
  ·
   simp only[al,cr,aj,ad];cases b1
   ·exact⟨hk,by simp⟩
   ·exact⟨hk,(w,[]),by simp⟩
  ·simp only[al,ad,js hL hk (cT 40 (by decide)) b1,an,ak,cr,aj];cases hc:(!b1&&aA l [40] k1)
   ·simp only[al,l9,dH hks,aj,ad,mR];cases b1
    ·have:aA l [40] k1=false:=by simpa using hc
     rw[this];exact⟨hk,rfl⟩
    ·exact⟨hk,(w,[dG]),rfl⟩
   ·rw[bz,ga]at hc;obtain⟨hb1,hc⟩:=hc;subst hb1;rw[hc];simp only[ad,el,ea,eb];have hk2:=cU hL hk hc;have cn:=rG (K:=K) (lv:=lv) (nm:=nm) (ls:=ls++[w]) (ks:=ks) hr hks hk2 false;rw[show RB false (k1+1) (g (k1+1))=g (k1+1)from rfl]at cn;rw[show ∀r:PR (List UInt8×List aa),RB false k1 r=r from fun _=>rfl];cases hg:g (k1+1)with
    |no k'=>
     rw[hg]at cn;obtain⟨h1,v,h2⟩:=cn;refine⟨h1,(w,[v]),?_⟩;simp only[h2,ep,fi hL h1 (cT 41 (by decide)) true,an,ak,aj,ad];rfl
    |ok v k'=>
     rw[hg]at cn;obtain⟨h1,h2⟩:=cn;simp only[h2,ep,fi hL h1 (cT 41 (by decide)) false,an,ak,aj,ad,PR.bind,cq];cases hn:aA l [41] k'
     ·exact⟨h1,(w,[v]),rfl⟩
     ·exact⟨cU hL h1 hn,rfl⟩
 ·simp only[ad,fi hL hk (cT 58 (by decide)) b1,an,ak];cases hc:(!b1&&aA l [58] k1)
  ·simp only[al,el,ea,eb];have cn:=rG (K:=K) (lv:=lv) (nm:=nm) (ls:=ls++[w]) (ks:=ks) hr hks hk true;obtain⟨h1,v,h2⟩:=cn;have:RB b1 k1 ((cq l [58] k1).bind fun _ k2=>(g k2).bind fun t k3=>PR.ok (w,[t]) k3)=PR.no k1:=by
    cases b1
    ·have:aA l [58] k1=false:=by simpa using hc
     unfold cq;rw[this];rfl
    ·rfl
   rw[this];refine⟨hk,(w,[v]),?_⟩;simp only[h2,ep,an,ak,aj,ad]
  ·rw[bz,ga]at hc;obtain⟨hb1,hc⟩:=hc;subst hb1;have hk2:=cU hL hk hc;simp only[ad,el,ea,eb];have cn:=rG (K:=K) (lv:=lv) (nm:=nm) (ls:=ls++[w]) (ks:=ks) hr hks hk2 false;rw[show RB false (k1+1) (g (k1+1))=g (k1+1)from rfl]at cn;rw[show RB false k1 ((cq l [58] k1).bind fun _ k2=>(g k2).bind fun t k3=>PR.ok (w,[t]) k3)=(g (k1+1)).bind fun t k3=>PR.ok (w,[t]) k3 by unfold cq;rw[hc];rfl];cases hg:g (k1+1)with
   |no k'=>
    rw[hg]at cn;obtain⟨h1,v,h2⟩:=cn;refine⟨h1,(w,[v]),?_⟩;simp only[h2,ep,an,ak,aj,ad]
   |ok v k'=>
    rw[hg]at cn;obtain⟨h1,h2⟩:=cn;refine⟨h1,?_⟩;simp only[h2,ep,an,ak,aj,ad]
theorem afK{l:List af}(hL:bW l)(hT:∀t∈l,t.Text.length<=30000){rec:Int->au->Option (aa×au)}{g:Nat->PR aa}{K lv:Int}{nm:List UInt8}{ls:List (List UInt8)}{ks:List aa}(hr:pW l rec (Go.IntKind.wrap .i64 (lv+1)) g)
 (hls:ls.length<=1000) (hks:ks.length<=1000) {k:Nat} (hk:k<l.length) (b:Bool):
 Out l (RB b k (gj l K g k)) (M.yb rec (ip l k b) K nm lv ls ks) fun v k' b'=>(ip l k' b',K,nm,lv,ls++[v.1],ks++v.2):=by
 have hn:=EC hL hT hk b;cases hc:(!b&&ef l k)
 ·rw[hc]at hn;have h:=Rl hL (K:=K) (nm:=nm) hr hls hks hn hk;rw[EI];have:RB b k ((gi l k).bind (pX l K g))=PR.no k:=by
   cases b
   ·have:ef l k=false:=by simpa using hc
    unfold gi;rw[this];rfl
   ·rfl
  rw[this];exact h
 ·rw[hc]at hn;rw[bz,ga]at hc;obtain⟨hb,hc⟩:=hc;subst hb;have hk4:(l.getD k af.zero).Kind≠4:=by
   unfold ef at hc;rw[bz,cK]at hc;have:=hc.1;unfold bp at this;rw[this];decide
  have h:=Rl hL (K:=K) (nm:=nm) hr hls hks hn (hL.next hk hk4);rw[EI];have:RB false k ((gi l k).bind (pX l K g))=RB false (k+1) (pX l K g (bp l k).Text (k+1)):=by
   unfold gi;rw[hc];rfl
  rw[this];exact h
end M
namespace M
open Go.V (inB bS ae bf)
theorem afL{l:List af}{K:Int}{g:Nat->PR aa}{w:List UInt8}{k k':Nat}{v:List UInt8×List aa}(h:pX l K g w k=.ok v k'):v.2.length<=1:=by
 unfold pX at h;cases h16:(K==(16:Int))<;>rw[h16]at h
 ·cases h17:(K==(17:Int))<;>rw[h17]at h
  ·cases h;simp
  ·simp only[al,ad]at h;cases hc:aA l [40] k<;>rw[hc]at h
   ·cases h;simp
   ·simp only[ad]at h;cases hg:g (k+1)with
    |no q=>rw[hg]at h;cases h
    |ok t q=>
     rw[hg]at h;simp only[PR.bind,cq]at h;cases hn:aA l [41] q<;>rw[hn]at h<;>cases h;simp
 ·simp only[ad,cq]at h;cases hc:aA l [58] k<;>rw[hc]at h
  ·cases h
  ·simp only[ad,PR.bind]at h;cases hg:g (k+1)with
   |no q=>rw[hg]at h;cases h
   |ok t q=>rw[hg]at h;cases h;simp
theorem Rm{l:List af}{K:Int}{g:Nat->PR aa}{k k':Nat}{v:List UInt8×List aa}(h:gj l K g k=.ok v k'):v.2.length<=1:=by
 rw[EI]at h;unfold gi at h;cases hn:ef l k<;>rw[hn]at h
 ·cases h
 ·exact afL h
theorem KZ{α β:Type}:∀(ps:List (α×List β)),(∀p∈ps,p.2.length<=1)->(ps.map (·.2)).flatten.length<=ps.length
 |[],_=>cu _
 |p::r,h=>by
  have h1:=h p (by simp);have h2:=KZ r fun q hq=>h q (by simp[hq])
  simp only[eQ,List.flatten_cons,aE,aC];omega
theorem afM{l:List af}(hL:bW l)(hT:∀t∈l,t.Text.length<=30000){rec:Int->au->Option (aa×au)}{g:Nat->PR aa}{K lv:Int}{nm:List UInt8}(hr:pW l rec (Go.IntKind.wrap .i64 (lv+1)) g)
 (most:Nat) (hm:most<=100):∀(f m:Nat)(ps:List (List UInt8×List aa))(k:Nat),m<f->k<l.length->ps.length+(m+1)<=most->(∀p∈ps,p.2.length<=1)->
 Out l (dL l (gj l K g) m ps k) ((M.rI rec (most:Int) f ((most-m:Nat):Int) (ip l k false) K nm lv (ps.map (·.1)) (ps.map (·.2)).flatten).map fun r=>match r with
  |.inl x=>x
  |.inr x=>x) fun vs k' b'=>(l,(k':Int),b',K,nm,lv,vs.map (·.1),(vs.map (·.2)).flatten):=by
 intro f
 induction f with
 |zero=>intro m ks k h;omega
 |succ f ih=>
  intro m ps k hf hk hps AX;rw[M.rI,dL];have eb:∀k b,au.bad (ip l k b)=b:=fun _ _=>rfl
  have el:∀k b,au.list (ip l k b)=l:=fun _ _=>rfl
  have ea:∀k b,au.at_ (ip l k b)=(k:Int):=fun _ _=>rfl
  have ep:∀(k:Nat) b,au.mk l (k:Int) b=ip l k b:=fun _ _=>rfl
  have hfl:=KZ ps AX;have hlab:=afK hL hT (K:=K) (lv:=lv) (nm:=nm) (ls:=ps.map (·.1)) (ks:=(ps.map (·.2)).flatten) hr (by rw[eJ];omega) (by omega) hk false;rw[show RB false k (gj l K g k)=gj l K g k from rfl]at hlab;have mA:∀v:List UInt8×List aa,ps.map (·.1)++[v.1]=(ps++[v]).map (·.1):=fun v=>by rw[uW];rfl
  have mB:∀v:List UInt8×List aa,(ps.map (·.2)).flatten++v.2=((ps++[v]).map (·.2)).flatten:=fun v=>by rw[uW,List.flatten_append];simp
  unfold M.EJ;simp only[eb,el,ea,ep,bo,ad];cases hg:gj l K g k with
  |no k'=>
   rw[hg]at hlab;obtain⟨h1,v,h2⟩:=hlab;refine⟨h1,ps++[v],?_⟩;simp only[h2,an,ak,bu,ad,aj,cr,eb,el,ea,mA,mB];rfl
  |ok v k'=>
   have hv:=Rm hg;rw[hg]at hlab;obtain⟨h1,h2⟩:=hlab;cases m with
   |zero=>
    have e:(((most-0:Nat):Int)==(most:Int))=true:=by rw[cK];omega
    refine⟨h1,?_⟩;simp only[h2,e,an,ak,na,ad,aj,cr,eb,el,ea,mA,mB];rfl
   |succ m=>
    have e:(((most-(m+1):Nat):Int)==(most:Int))=false:=by rw[cL];omega
    have ht:=js hL h1 (cT 44 (by decide)) false;simp only[h2,e,ep,ht,an,ak,na,al,ad,aj,cr,bo,bj,eb,el,ea,mA,mB];cases hb:aA l [44] k'
    ·exact⟨h1,rfl⟩
    ·have hw:Go.IntKind.wrap .i64 (((most-(m+1):Nat):Int)+1)=((most-m:Nat):Int):=by rw[wrap_i64 (by omega) (by omega)];omega
     simp only[ad,b9,al,hw];exact ih m (ps++[v]) (k'+1) (by omega) (cU hL h1 hb) (by rw[aE,List.length_singleton];omega) (fun p hp=>by
      rcases de.1 hp with q|q
      ·exact AX p q
      ·rw[eI]at q;rw[q];exact hv)
theorem Rn{l:List af}(hL:bW l)(hT:∀t∈l,t.Text.length<=30000){rec:Int->au->Option (aa×au)}{g:Nat->PR aa}{K lv:Int}{nm:List UInt8}(hr:pW l rec (Go.IntKind.wrap .i64 (lv+1)) g)
 {k:Nat} (hk:k<l.length) (b:Bool):Out l (RB b k (dL l (gj l K g) 15 [] k)) (M.yc rec 16 (ip l k b) K nm [] [] lv) fun vs k' b'=>(ip l k' b',K,nm,lv,vs.map (·.1),(vs.map (·.2)).flatten):=by
 cases b with
 |true=>
  refine⟨hk,[],?_⟩;obtain⟨n,hn⟩:∃n,ae=n+1:=⟨ae-1,by have:=bf;omega⟩;unfold M.yc;rw[hn,M.rI];rfl
 |false=>
  have e:=afM hL hT (K:=K) (lv:=lv) (nm:=nm) hr 16 (by omega) ae 15 [] k (by have:=bf;omega) hk (by simp) (by simp);have hs:((16-15:Nat):Int)=1:=by decide
  rw[hs]at e;rw[show RB false k (dL l (gj l K g) 15 [] k)=dL l (gj l K g) 15 [] k from rfl];unfold M.yc;unfold Out at e⊢;have e16:((16:Nat):Int)=16:=rfl;have n1:List.map (fun x:List UInt8×List aa=>x.1) []=[]:=rfl;have n2:(List.map (fun x:List UInt8×List aa=>x.2) []).flatten=[]:=rfl;rw[e16,n1,n2]at e;cases hc:dL l (gj l K g) 15 [] k with
  |ok v k'=>
   rw[hc]at e;obtain⟨h1,h2⟩:=e;refine⟨h1,?_⟩;cases ho:M.rI rec 16 ae 1 (ip l k false) K nm lv [] []with
   |none=>rw[ho]at h2;cases h2
   |some r=>
    rw[ho]at h2;cases r<;>(simp only[iU,av]at h2;rw[h2];rfl)
  |no k'=>
   rw[hc]at e;obtain⟨h1,v,h2⟩:=e;refine⟨h1,v,?_⟩;cases ho:M.rI rec 16 ae 1 (ip l k false) K nm lv [] []with
   |none=>rw[ho]at h2;cases h2
   |some r=>
    rw[ho]at h2;cases r<;>(simp only[iU,av]at h2;rw[h2];rfl)
theorem EK(K:Int)(nm:List UInt8)(ls:List (List UInt8))(ks:List aa)(h:ks.length<=2):M.mc K nm ls ae ks=some (K,nm,ls,ks++List.replicate (2-ks.length) dG):=by
 have step:∀f (ks:List aa),ks.length<2->M.mc K nm ls (f+1) ks=M.mc K nm ls f (ks++[dG]):=fun f ks hk=>by
  rw[M.mc,cN (show((ks.length:Nat):Int)<2 by omega)];simp only[l9,dH (show ks.length<=1000 by omega),aj,ad,mR];rfl
 have stop:∀f (ks:List aa),ks.length=2->M.mc K nm ls (f+1) ks=some (K,nm,ls,ks):=fun f ks hk=>by
  rw[M.mc,cY (show ¬((ks.length:Nat):Int)<2 by omega)];rfl
 obtain⟨n,hn⟩:∃n,ae=n+3:=⟨ae-3,by have:=bf;omega⟩;rw[hn];have:ks.length=0\/ks.length=1\/ks.length=2:=by omega
 rcases this with q|q|q
 ·rw[step _ _ (by omega),step _ _ (by rw[aE,List.length_singleton];omega),stop _ _ (by simp[q]),q];simp[List.replicate]
 ·rw[step _ _ (by omega),stop _ _ (by simp[q]),q];rfl
 ·rw[stop _ _ q,q];simp
theorem afN{l:List af}(hL:bW l){rec:Int->au->Option (aa×au)}{g:Nat->PR aa}{K lv:Int}{nm:List UInt8}{ls:List (List UInt8)}(hr:pW l rec (Go.IntKind.wrap .i64 (lv+1)) g)
 {k:Nat} (hk:k<l.length):Out l (l8 l g k) (M.AY rec (ip l k false) K nm lv ls []) fun ts k' b'=>(ip l k' b',K,nm,lv,ls,ts):=by
 have eb:∀k b,au.bad (ip l k b)=b:=fun _ _=>rfl
 have el:∀k b,au.list (ip l k b)=l:=fun _ _=>rfl
 have ea:∀k b,au.at_ (ip l k b)=(k:Int):=fun _ _=>rfl
 have ep:∀(k:Nat) b,au.mk l (k:Int) b=ip l k b:=fun _ _=>rfl
 have p0:=EK K nm ls [] (by simp);have pU:=EK K nm ls [dG] (by simp);have p1:=fun a:aa=>EK K nm ls [a] (by simp)
 have p2:=fun a b:aa=>EK K nm ls [a,b] (by simp)
 have s0:∀x y:aa,([]++[x]:List aa).set (Int.toNat ((([]:List aa).length:Nat):Int)) y=[y]:=fun x y=>rfl
 have i0:∀x:aa,inB ((([]:List aa).length:Nat):Int) ([]++[x]:List aa).length=true:=fun x=>l9 [] x
 have c0:∀x:aa,decide ((([]:List aa).length)+[x].length<=1073741824)=true:=fun x=>by simp
 have r2:∀a b:aa,[a,b]++List.replicate (2-[a,b].length) dG=[a,b]:=fun a b=>rfl
 have r1:∀a:aa,[a]++List.replicate (2-[a].length) dG=[a,dG]:=fun a=>rfl
 have r0:([]:List aa)++List.replicate (2-([]:List aa).length) dG=[dG,dG]:=rfl;rw[r0]at p0;simp only[r1]at p1 pU;simp only[r2]at p2;unfold M.AY l8;simp only[js hL hk (cT 60 (by decide)) false,an,ak,bo,bj,aj];cases h60:aA l [60] k
 ·simp only[al,p0,ad];exact⟨hk,rfl⟩
 ·have hk1:=cU hL hk h60;simp only[ad,js hL hk1 (cT 95 (by decide)) false,an,ak,bo,bj,aj];cases h95:aA l [95] (k+1)
  ·simp only[al,el,ea,eb];have cn:=rG (K:=K) (lv:=lv) (nm:=nm) (ls:=ls) (ks:=[]) hr (by simp) hk1 false;rw[show RB false (k+1) (g (k+1))=g (k+1)from rfl]at cn;cases hg:g (k+1)with
   |no k'=>
    rw[hg]at cn;obtain⟨h1,v,h2⟩:=cn;refine⟨h1,[v,dG],?_⟩;simp only[h2,ep,js hL h1 (cT 44 (by decide)) true,fi hL h1 (cT 62 (by decide)) true,an,ak,b9,cJ,al,eP,p1,aj,ad]
   |ok a k'=>
    rw[hg]at cn;obtain⟨h1,h2⟩:=cn;simp only[h2,ep,js hL h1 (cT 44 (by decide)) false,an,ak,bo,bj,eP,aj,PR.bind];cases ju:aA l [44] k'
    ·simp only[al,p1,fi hL h1 (cT 62 (by decide)) false,an,ak,bo,bj,aj,ad,cq];cases fb:aA l [62] k'
     ·exact⟨h1,[a,dG],rfl⟩
     ·exact⟨cU hL h1 fb,rfl⟩
    ·have hk2:=cU hL h1 ju;simp only[ad,el,ea,eb];have oV:=rG (K:=K) (lv:=lv) (nm:=nm) (ls:=ls) (ks:=[a]) hr (by simp) hk2 false;rw[show RB false (k'+1) (g (k'+1))=g (k'+1)from rfl]at oV;cases hg2:g (k'+1)with
     |no k2=>
      rw[hg2]at oV;obtain⟨q1,v,q2⟩:=oV;refine⟨q1,[a,v],?_⟩;simp only[q2,ep,fi hL q1 (cT 62 (by decide)) true,an,ak,b9,cJ,al,List.singleton_append,p2,aj,ad]
     |ok c k2=>
      rw[hg2]at oV;obtain⟨q1,q2⟩:=oV;simp only[q2,ep,fi hL q1 (cT 62 (by decide)) false,an,ak,bo,bj,List.singleton_append,p2,aj,ad,cq];cases fb:aA l [62] k2
      ·exact⟨q1,[a,c],rfl⟩
      ·exact⟨cU hL q1 fb,rfl⟩
  ·have oW:=cU hL hk1 h95;simp only[ad,js hL oW (cT 44 (by decide)) false,an,ak,bo,bj,aj,i0,c0,s0,PR.bind];rw[show aa.mk 1 [] [] []=dG from rfl,show k+1+1=k+2 from rfl]at*;cases ju:aA l [44] (k+2)
   ·simp only[al,pU,fi hL oW (cT 62 (by decide)) false,an,ak,bo,bj,aj,ad,cq];cases fb:aA l [62] (k+2)
    ·exact⟨oW,[dG,dG],rfl⟩
    ·exact⟨cU hL oW fb,rfl⟩
   ·have hk2:=cU hL oW ju;simp only[ad,el,ea,eb];have oV:=rG (K:=K) (lv:=lv) (nm:=nm) (ls:=ls) (ks:=[dG]) hr (by simp) hk2 false;rw[show RB false (k+2+1) (g (k+2+1))=g (k+2+1)from rfl]at oV;cases hg2:g (k+2+1)with
    |no k2=>
     rw[hg2]at oV;obtain⟨q1,v,q2⟩:=oV;refine⟨q1,[dG,v],?_⟩;simp only[q2,ep,fi hL q1 (cT 62 (by decide)) true,an,ak,b9,cJ,al,List.singleton_append,p2,aj,ad]
    |ok c k2=>
     rw[hg2]at oV;obtain⟨q1,q2⟩:=oV;simp only[q2,ep,fi hL q1 (cT 62 (by decide)) false,an,ak,bo,bj,List.singleton_append,p2,aj,ad,cq];cases fb:aA l [62] k2
     ·exact⟨q1,[dG,c],rfl⟩
     ·exact⟨cU hL q1 fb,rfl⟩
end M
namespace M
open Go.V (inB bS ae bf)
theorem afO:Option.getD M.f6 Inhabited.default=[]::words:=by rw[ED];rfl
theorem afP:Option.isSome M.f6=true:=by rw[ED];rfl
theorem yd{l:List af}(hL:bW l){k:Nat}(hk:k<l.length)(h:ef l k=true):k+1<l.length:=by
 refine hL.next hk ?_;unfold ef at h;rw[bz,cK]at h;have:=h.1;unfold bp at this;rw[this];decide
theorem EL{l:List af}(hL:bW l){k:Nat}(hk:k<l.length)(h:jt l k=true):k+1<l.length:=by
 unfold jt at h;rw[bz]at h;exact yd hL hk h.1
theorem afQ(rec:Int->au->Option (aa×au)){l:List af}(hL:bW l)(hT:∀t∈l,t.Text.length<=30000)(lv:Int){k:Nat}(hk:k<l.length):
 ∃v,M.tJ rec lv (ip l k true)=some (v,ip l k true):=by
 unfold M.tJ;cases decide ((4:Int)<lv)
 ·have hn:=EC hL hT hk true;have hr:M.rF []=some false:=by rw[EG,AQ];rfl
  refine⟨aa.mk 30 [] [] [],?_⟩;simp only[al,hn,b9,cJ,ak,an,hr,bo,aj,ad]
 ·exact⟨aa.mk 30 [] [] [],rfl⟩
theorem afR{l:List af}(hL:bW l)(hT:∀t∈l,t.Text.length<=30000){rec:Int->au->Option (aa×au)}{lv:Int}{d:Nat}(hlv:lv<=4)(hr:pW l rec (Go.IntKind.wrap .i64 (lv+1)) (dO l d))
 {k:Nat} (hk:k<l.length):Out l (dO l (d+1) k) (M.tJ rec lv (ip l k false)) fun v k' b'=>(v,ip l k' b'):=by
 have el:∀k b,au.list (ip l k b)=l:=fun _ _=>rfl
 have ea:∀k b,au.at_ (ip l k b)=(k:Int):=fun _ _=>rfl
 have eb:∀k b,au.bad (ip l k b)=b:=fun _ _=>rfl
 have ep:∀(k:Nat) b,au.mk l (k:Int) b=ip l k b:=fun _ _=>rfl
 have hn:=EC hL hT hk false;unfold M.tJ;rw[cY (show ¬(4:Int)<lv by omega),al,dO,hn];unfold gi;cases hnm:ef l k
 ·have hr:M.rF []=some false:=by rw[EG,AQ];rfl
  refine⟨hk,aa.mk 30 [] [] [],?_⟩;simp only[Bool.and_false,al,ak,an,hr,bo,aj,ad]
 ·have hk1:=yd hL hk hnm;simp only[bo,aj,ad,ak,an,EG,PR.bind,afO,afP,Rj];generalize hw:(bp l k).Text=w;have hbd:=EE w;by_cases h0:dK w=0
  ·rw[h0];exact⟨hk1,rfl⟩
  ·have hne:w≠[]:=fun q=>h0 (by rw[q];exact AQ)
   rw[aP hne,aP h0,cN (show 0<dK w by omega),show(dK w==0)=false from cL.2 h0];simp only[b9,al];generalize dK w=K at*;have hb0:∀(x y:Bool),((true|| !x)&&(true||y))=true:=fun x y=>rfl
   by_cases hA:K=12\/K=13\/K=22\/K=23
   ·have c1:(bif K==12 then K==12 else bif K==13 then K==13 else bif K==22 then K==22 else K==23)=true:=by
     rcases hA with q|q|q|q<;>rw[q]<;>rfl
    have c2:((K==12)||((K==13)||((K==22)||(K==23))))=true:=by
     rcases hA with q|q|q|q<;>rw[q]<;>rfl
    rw[c1,c2];simp only[ad,fi hL hk1 (cT 60 (by decide)) false,an,ak,bo,bj,el,ea,eb,bu,aj];unfold cq;cases h60:aA l [60] (k+1)
    ·simp only[al,el,ea,eb];obtain⟨h1,v,h2⟩:=rG (K:=K) (lv:=lv) (nm:=[]) (ls:=[]) (ks:=[]) hr (by simp) hk1 true;refine⟨hk1,aa.mk K [] [] [v],?_⟩;simp only[h2,ep,fi hL hk1 (cT 62 (by decide)) true,an,ak,b9,cJ,al,bu,aj,ad,eP]
    ·have hk2:=cU hL hk1 h60;simp only[ad,el,ea,eb];have cn:=rG (K:=K) (lv:=lv) (nm:=[]) (ls:=[]) (ks:=[]) hr (by simp) hk2 false;rw[show RB false (k+1+1) (dO l d (k+1+1))=dO l d (k+1+1)from rfl]at cn;cases hg:dO l d (k+1+1)with
     |no k'=>
      rw[hg]at cn;obtain⟨h1,v,h2⟩:=cn;refine⟨h1,aa.mk K [] [] [v],?_⟩;simp only[h2,ep,fi hL h1 (cT 62 (by decide)) true,an,ak,b9,cJ,al,bu,aj,ad,eP]
     |ok v k'=>
      rw[hg]at cn;obtain⟨h1,h2⟩:=cn;simp only[h2,ep,fi hL h1 (cT 62 (by decide)) false,an,ak,bo,bj,bu,aj,ad,eP];cases fb:aA l [62] k'
      ·exact⟨h1,aa.mk K [] [] [v],rfl⟩
      ·exact⟨cU hL h1 fb,rfl⟩
   ·have c1:(bif K==12 then K==12 else bif K==13 then K==13 else bif K==22 then K==22 else K==23)=false:=by
     have e1:(K==12)=false:=by rw[cL];omega
     have e2:(K==13)=false:=by rw[cL];omega
     have e3:(K==22)=false:=by rw[cL];omega
     have e4:(K==23)=false:=by rw[cL];omega
     rw[e1,e2,e3,e4];rfl
    have c2:((K==12)||((K==13)||((K==22)||(K==23))))=false:=by
     have e1:(K==12)=false:=by rw[cL];omega
     have e2:(K==13)=false:=by rw[cL];omega
     have e3:(K==22)=false:=by rw[cL];omega
     have e4:(K==23)=false:=by rw[cL];omega
     rw[e1,e2,e3,e4];rfl
    rw[c1,c2];simp only[al,bu,aj];by_cases h15:K=15
    ·rw[h15];simp only[Int.reduceBEq,ad,fi hL hk1 (cT 60 (by decide)) false,an,ak,bo,bj,bu,aj];unfold cq;cases h60:aA l [60] (k+1)
     ·simp only[al];obtain⟨h1,v,h2⟩:=Rk hL (K:=15) (lv:=lv) (nm:=[]) (ls:=[]) hr hk1 true;refine⟨hk1,aa.mk 15 [] [] v,?_⟩;simp only[h2,fi hL hk1 (cT 62 (by decide)) true,an,ak,b9,cJ,al,bu,aj,ad]
     ·have hk2:=cU hL hk1 h60;simp only[ad];have cn:=Rk hL (K:=15) (lv:=lv) (nm:=[]) (ls:=[]) hr hk2 false;rw[show RB false (k+1+1) (dL l (dO l d) 5 [] (k+1+1))=dL l (dO l d) 5 [] (k+1+1)from rfl]at cn;cases hg:dL l (dO l d) 5 [] (k+1+1)with
      |no k'=>
       rw[hg]at cn;obtain⟨h1,v,h2⟩:=cn;refine⟨h1,aa.mk 15 [] [] v,?_⟩;simp only[h2,fi hL h1 (cT 62 (by decide)) true,an,ak,b9,cJ,al,bu,aj,ad]
      |ok v k'=>
       rw[hg]at cn;obtain⟨h1,h2⟩:=cn;simp only[h2,fi hL h1 (cT 62 (by decide)) false,an,ak,bo,bj,bu,aj,ad];cases fb:aA l [62] k'
       ·exact⟨h1,aa.mk 15 [] [] v,rfl⟩
       ·exact⟨cU hL h1 fb,rfl⟩
    ·rw[show(K==15)=false from cL.2 h15];simp only[al];by_cases hB:K=20\/K=21
     ·have c1:(bif K==20 then K==20 else K==21)=true:=by rcases hB with q|q<;>rw[q]<;>rfl
      have c2:((K==20)||(K==21))=true:=by rcases hB with q|q<;>rw[q]<;>rfl
      rw[c1,c2];simp only[ad,fi hL hk1 (cT 60 (by decide)) false,an,ak,bo,bj,bu,aj];unfold cq kS;cases h60:aA l [60] (k+1)
      ·refine⟨hk1,aa.mk K [] [] [],?_⟩;simp only[al,KX hL hT hk1 true,fi hL hk1 (cT 62 (by decide)) true,an,ak,b9,cJ,bu,aj,ad]
      ·have hk2:=cU hL hk1 h60;simp only[ad,KX hL hT hk2 false,an,ak,bo,bj,bu,aj];cases hid:jt l (k+1+1)
       ·refine⟨hk2,aa.mk K [] [] [],?_⟩;simp only[al,fi hL hk2 (cT 62 (by decide)) true,an,ak,b9,cJ,bu,aj,ad]
       ·have hk3:=EL hL hk2 hid;simp only[ad,fi hL hk3 (cT 62 (by decide)) false,an,ak,bo,bj,bu,aj];cases fb:aA l [62] (k+1+1+1)
        ·exact⟨hk3,aa.mk K (bp l (k+1+1)).Text [] [],rfl⟩
        ·exact⟨cU hL hk3 fb,rfl⟩
     ·have c1:(bif K==20 then K==20 else K==21)=false:=by
       have e1:(K==20)=false:=by rw[cL];omega
       have e2:(K==21)=false:=by rw[cL];omega
       rw[e1,e2];rfl
      have c2:((K==20)||(K==21))=false:=by
       have e1:(K==20)=false:=by rw[cL];omega
       have e2:(K==21)=false:=by rw[cL];omega
       rw[e1,e2];rfl
      rw[c1,c2];simp only[al];by_cases pY:K=14
      ·rw[pY];simp only[Int.reduceBEq,ad];have cn:=afN hL (K:=14) (lv:=lv) (nm:=[]) (ls:=[]) hr hk1;cases hg:l8 l (dO l d) (k+1)with
       |no k'=>
        rw[hg]at cn;obtain⟨h1,v,h2⟩:=cn;refine⟨h1,aa.mk 14 [] [] v,?_⟩;simp only[h2,an,ak,bu,aj,ad]
       |ok v k'=>
        rw[hg]at cn;obtain⟨h1,h2⟩:=cn;refine⟨h1,?_⟩;simp only[h2,an,ak,bu,aj,ad]
      ·rw[show(K==14)=false from cL.2 pY];simp only[al];by_cases hC:K=16\/K=17\/K=18\/K=19
       ·have c1:(bif K==16 then K==16 else bif K==17 then K==17 else bif K==18 then K==18 else K==19)=true:=by
         rcases hC with q|q|q|q<;>rw[q]<;>rfl
        have c2:((K==16)||((K==17)||((K==18)||(K==19))))=true:=by
         rcases hC with q|q|q|q<;>rw[q]<;>rfl
        rw[c1,c2];simp only[ad,fi hL hk1 (cT 123 (by decide)) false,an,ak,bo,bj,bu,aj];unfold cq;cases h60:aA l [123] (k+1)
        ·simp only[al];obtain⟨h1,v,h2⟩:=Rn hL hT (K:=K) (lv:=lv) (nm:=[]) hr hk1 true;refine⟨hk1,aa.mk K [] (v.map (·.1)) (v.map (·.2)).flatten,?_⟩;simp only[h2,fi hL hk1 (cT 125 (by decide)) true,an,ak,b9,cJ,al,bu,aj,ad]
        ·have hk2:=cU hL hk1 h60;simp only[ad];have cn:=Rn hL hT (K:=K) (lv:=lv) (nm:=[]) hr hk2 false;rw[show ∀r:PR (List (List UInt8×List aa)),RB false (k+1+1) r=r from fun _=>rfl]at cn;cases hg:dL l (gj l K (dO l d)) 15 [] (k+1+1)with
         |no k'=>
          rw[hg]at cn;obtain⟨h1,v,h2⟩:=cn;refine⟨h1,aa.mk K [] (v.map (·.1)) (v.map (·.2)).flatten,?_⟩;simp only[h2,fi hL h1 (cT 125 (by decide)) true,an,ak,b9,cJ,al,bu,aj,ad]
         |ok v k'=>
          rw[hg]at cn;obtain⟨h1,h2⟩:=cn;simp only[h2,fi hL h1 (cT 125 (by decide)) false,an,ak,bo,bj,bu,aj,ad];cases fb:aA l [125] k'
          ·exact⟨h1,aa.mk K [] (v.map (·.1)) (v.map (·.2)).flatten,rfl⟩
          ·exact⟨cU hL h1 fb,rfl⟩
       ·have e1:(K==16)=false:=by rw[cL];omega
        have e2:(K==17)=false:=by rw[cL];omega
        have e3:(K==18)=false:=by rw[cL];omega
        have e4:(K==19)=false:=by rw[cL];omega
        rw[e1,e2,e3,e4];refine⟨hk1,?_⟩;simp only[al,pD,bu,aj,ad]
theorem Ro{l:List af}(hL:bW l)(hT:∀t∈l,t.Text.length<=30000):∀(n d:Nat)(lv:Int),d<n->d<=4->lv=5-(d:Int)->pW l (M.vM n) lv (dO l d)
 |0,d,lv,h,_,_=>by omega
 |n+1,d,lv,h,h4,hlv=>fun k b hk=>by
  show Out l _ (M.tJ (M.vM n) lv (ip l k b)) _
  cases b with
  |true=>
   obtain⟨v,e⟩:=afQ (M.vM n) hL hT lv hk;exact⟨hk,v,e⟩
  |false=>
   cases d with
   |zero=>
    refine⟨hk,aa.mk 30 [] [] [],?_⟩;unfold M.tJ;rw[cN (show(4:Int)<lv by omega)];rfl
   |succ d=>
    have hw:Go.IntKind.wrap .i64 (lv+1)=5-(d:Int):=by rw[wrap_i64 (by omega) (by omega)];omega
    have hr:=Ro hL hT n d (Go.IntKind.wrap .i64 (lv+1)) (by omega) (by omega) hw;exact afR hL hT (by omega) hr hk
end M
namespace M
open Go.V (inB bS ae bf)
def md{α:Type}(l:List af)(el:Nat->PR α)(close:List UInt8):Nat->List α->Nat->PR (List α)
 |m,acc,k=>match el k with
  |.no k'=>.no k'
  |.ok v k1=>bif aA l close k1 then .ok (acc++[v]) (k1+1)else match m with
    |0=>.no k1
    |m+1=>bif aA l [44] k1 then md l el close m (acc++[v]) (k1+1)else .no k1
theorem afS{l:List af}{a b:List UInt8}(h:a≠b){k:Nat}(ha:aA l a k=true):aA l b k=false:=by
 unfold aA at ha⊢;rw[bz,cK]at ha;rw[ha.2];have:(a==b)=false:=cL.2 h;rw[this,Bool.and_false]
theorem AZ{α:Type}(l:List af)(el:Nat->PR α)(close:List UInt8)(hc:close≠[44]):∀(m:Nat)(acc:List α)(k:Nat),
 md l el close m acc k=(dL l el m acc k).bind fun vs k'=>(cq l close k').bind fun _ k''=>.ok vs k''
 |0,acc,k=>by
  rw[md,dL];cases el k with
  |no k'=>rfl
  |ok v k1=>
   simp only[PR.bind,cq];cases aA l close k1<;>rfl
 |m+1,acc,k=>by
  rw[md,dL];cases el k with
  |no k'=>rfl
  |ok v k1=>
   simp only;cases h:aA l close k1
   ·cases ju:aA l [44] k1
    ·simp only[al,PR.bind,cq,h]
    ·simp only[al,ad];exact AZ l el close hc m (acc++[v]) (k1+1)
   ·rw[afS hc h];simp only[ad,al,PR.bind,cq,h]
def vN(l:List af)(rec:Int->ay->Option (aa×ay))(dp:Int)(g:Nat->PR aa):Prop:=
 ∀k b,k<l.length->Out l (RB b k (g k)) (rec dp (sp l k b)) fun v k' b'=>(v,sp l k' b')
theorem me{l:List af}(hL:bW l){k:Nat}(hk:k<l.length)(n most:Int)(b:Bool):M.ko n most (sp l k b)=some (bif decide (most<=n)then sp l k true else bif !b&&aA l [44] k then sp l (k+1) b else sp l k true):=by
 unfold M.ko;rw[gY hL hk [44] b];cases decide (most<=n)
 ·cases (!b&&aA l [44] k)<;>rfl
 ·rfl
theorem afT{l:List af}(hL:bW l){rec:Int->ay->Option (aa×ay)}{g:Nat->PR aa}{dp:Int}(hr:vN l rec (Go.IntKind.wrap .i64 (dp-1)) g)(a1:Int)(a2:List UInt8)(a3:Int)(a4:List UInt8)(a5:List (List UInt8))(a6:List aa)(a7:List (List UInt8)):
 ∀(f m:Nat)(ks:List aa)(k:Nat),m+1<f->k<l.length->ks.length+(m+1)=6->
 Out l (md l g [62] m ks k) (M.rJ rec dp a1 a2 a3 a4 a5 a6 a7 f (sp l k false) ks) fun vs k' b'=>(l,(k':Int),b',a1,a2,a3,a4,a5,a6,a7,vs):=by
 intro f
 induction f with
 |zero=>intro m ks k h;omega
 |succ f ih=>
  intro m ks k hf hk hks;obtain⟨f',rfl⟩:∃f',f=f'+1:=⟨f-1,by omega⟩;rw[M.rJ,md];have el:∀k b,ay.list (sp l k b)=l:=fun _ _=>rfl
  have ea:∀k b,ay.at_ (sp l k b)=(k:Int):=fun _ _=>rfl
  have eb:∀k b,ay.bad (sp l k b)=b:=fun _ _=>rfl
  have hend:∀(k:Nat)(xs:List aa),M.rJ rec dp a1 a2 a3 a4 a5 a6 a7 (f'+1) (sp l k true) xs=some (l,(k:Int),true,a1,a2,a3,a4,a5,a6,a7,xs):=fun k xs=>by
   rw[M.rJ];rfl
  have h:=hr k false hk;rw[show RB false k (g k)=g k from rfl]at h;simp only[eb,bo,ad];cases hg:g k with
  |no k'=>
   rw[hg]at h;obtain⟨h1,v,h2⟩:=h;refine⟨h1,ks++[v],?_⟩;simp only[h2,fC hL h1 [62] true,me hL h1,ak,an,b9,cJ,al,l9,dH (show ks.length<=1000 by omega),aj,ad,mR,aa.bX];cases decide ((6:Int)<=(((ks++[v]).length:Nat):Int))<;>exact hend k' _
  |ok v k'=>
   rw[hg]at h;obtain⟨h1,h2⟩:=h;simp only[h2,fC hL h1 [62] false,me hL h1,ak,an,bo,bj,l9,dH (show ks.length<=1000 by omega),aj,ad,mR,aa.bX];cases fb:aA l [62] k'
   ·simp only[al,me hL h1,ak,an,aj,ad,bo,bj];have hlen:(((ks++[v]).length:Nat):Int)=(6:Int)-(m:Int):=by rw[aE,List.length_singleton];omega
    cases m with
    |zero=>
     rw[cN (show(6:Int)<=(((ks++[v]).length:Nat):Int) by omega)];exact⟨h1,ks++[v],hend k' _⟩
    |succ m=>
     rw[cY (show ¬(6:Int)<=(((ks++[v]).length:Nat):Int) by omega)];simp only[al];cases ju:aA l [44] k'
     ·exact⟨h1,ks++[v],hend k' _⟩
     ·exact ih m (ks++[v]) (k'+1) (by omega) (cU hL h1 ju) (by rw[aE,List.length_singleton];omega)
   ·refine⟨cU hL h1 fb,?_⟩;simp only[ad,eb,el,ea]
theorem afU{l:List af}(hL:bW l){rec:Int->ay->Option (aa×ay)}{g:Nat->PR aa}{dp:Int}(hr:vN l rec (Go.IntKind.wrap .i64 (dp-1)) g){k:Nat}(hk:k<l.length):
 Out l (l8 l g k) (M.A2 rec dp (sp l k false)) fun ts k' b'=>(ts,sp l k' b'):=by
 have s0:∀a b x:aa,List.set [a,b] (Int.toNat 0) x=[x,b]:=fun _ _ _=>rfl
 have s1:∀a b x:aa,List.set [a,b] (Int.toNat 1) x=[a,x]:=fun _ _ _=>rfl
 have i0:∀a b:aa,inB 0 [a,b].length=true:=fun _ _=>rfl
 have i1:∀a b:aa,inB 1 [a,b].length=true:=fun _ _=>rfl
 have eU:aa.mk 1 [] [] []=dG:=rfl;unfold M.A2 l8;simp only[fC hL hk [60] false,an,ak,bo,bj,aj,eU,s0,s1,i0,i1];cases h60:aA l [60] k
 ·exact⟨hk,rfl⟩
 ·have hk1:=cU hL hk h60;simp only[ad,b9,al,fC hL hk1 [95] false,an,ak,bo,bj,aj];cases h95:aA l [95] (k+1)
  ·simp only[al,bo,ad];have h:=hr (k+1) false hk1;rw[show RB false (k+1) (g (k+1))=g (k+1)from rfl]at h;cases hg:g (k+1)with
   |no k'=>
    rw[hg]at h;obtain⟨h1,v,h2⟩:=h;refine⟨h1,[v,dG],?_⟩;simp only[h2,fC hL h1 [44] true,gY hL h1 [62] true,an,ak,b9,cJ,al,aj,ad,aa.bX]
   |ok a k'=>
    rw[hg]at h;obtain⟨h1,h2⟩:=h;simp only[h2,fC hL h1 [44] false,an,ak,bo,bj,aj,PR.bind,aa.bX];cases ju:aA l [44] k'
    ·simp only[al,gY hL h1 [62] false,an,ak,bo,bj,aj,ad,cq];cases fb:aA l [62] k'
     ·exact⟨h1,[a,dG],rfl⟩
     ·exact⟨cU hL h1 fb,rfl⟩
    ·have hk2:=cU hL h1 ju;simp only[ad];have hb:=hr (k'+1) false hk2;rw[show RB false (k'+1) (g (k'+1))=g (k'+1)from rfl]at hb;cases hg2:g (k'+1)with
     |no k2=>
      rw[hg2]at hb;obtain⟨q1,v,q2⟩:=hb;refine⟨q1,[a,v],?_⟩;simp only[q2,gY hL q1 [62] true,an,ak,b9,cJ,al,aj,ad,aa.bX,s1,i1]
     |ok c k2=>
      rw[hg2]at hb;obtain⟨q1,q2⟩:=hb;simp only[q2,gY hL q1 [62] false,an,ak,bo,bj,aj,ad,cq,aa.bX,s1,i1];cases fb:aA l [62] k2
      ·exact⟨q1,[a,c],rfl⟩
      ·exact⟨cU hL q1 fb,rfl⟩
  ·have oW:=cU hL hk1 h95;simp only[ad,b9,al,fC hL oW [44] false,an,ak,bo,bj,aj,PR.bind];rw[show k+1+1=k+2 from rfl]at*;cases ju:aA l [44] (k+2)
   ·simp only[al,gY hL oW [62] false,an,ak,bo,bj,aj,ad,cq];cases fb:aA l [62] (k+2)
    ·exact⟨oW,[dG,dG],rfl⟩
    ·exact⟨cU hL oW fb,rfl⟩
   ·have hk2:=cU hL oW ju;simp only[ad];have hb:=hr (k+2+1) false hk2;rw[show RB false (k+2+1) (g (k+2+1))=g (k+2+1)from rfl]at hb;cases hg2:g (k+2+1)with
    |no k2=>
     rw[hg2]at hb;obtain⟨q1,v,q2⟩:=hb;refine⟨q1,[dG,v],?_⟩;simp only[q2,gY hL q1 [62] true,an,ak,b9,cJ,al,aj,ad,aa.bX]
    |ok c k2=>
     rw[hg2]at hb;obtain⟨q1,q2⟩:=hb;simp only[q2,gY hL q1 [62] false,an,ak,bo,bj,aj,ad,cq,aa.bX];cases fb:aA l [62] k2
     ·exact⟨q1,[dG,c],rfl⟩
     ·exact⟨cU hL q1 fb,rfl⟩
end M
namespace M
open Go.V (inB bS ae bf)
noncomputable def kT(l:List af)(rec:Int->ay->Option (aa×ay))(dp K:Int)(t2:List UInt8)(f:Nat)(o4:List (List UInt8))(o5:List aa)(v:List UInt8×List aa)(k:Nat)(b:Bool):Option ((List M.af)×Int×Bool×Int×(List UInt8)×(List (List UInt8))×(List M.aa)):=
 bif !b&&aA l [125] k then some (l,((k+1:Nat):Int),b,K,t2,o4++[v.1],o5++v.2)
 else M.kq rec dp K t2 f (bif decide ((16:Int)<=(((o4++[v.1]).length:Nat):Int))then sp l k true else bif !b&&aA l [44] k then sp l (k+1) b else sp l k true) (o4++[v.1]) (o5++v.2)
theorem Rq{l:List af}(hL:bW l){rec:Int->ay->Option (aa×ay)}{g:Nat->PR aa}{dp K:Int}{t2:List UInt8}{f:Nat}{o4:List (List UInt8)}{o5:List aa}(hr:vN l rec (Go.IntKind.wrap .i64 (dp-1)) g)
 (h4:o4.length<=1000) (h5:o5.length<=1000) {p:ay} (hb:ay.bad p=false) {w:List UInt8} {k1:Nat} {b1:Bool} (hname:M.gh p=some (w,sp l k1 b1)) (hk:k1<l.length):
 Out l (RB b1 k1 (pX l K g w k1)) (some (M.kq rec dp K t2 (f+1) p o4 o5)) fun v k' b'=>kT l rec dp K t2 f o4 o5 v k' b':=by
 have el:∀k b,ay.list (sp l k b)=l:=fun _ _=>rfl
 have ea:∀k b,ay.at_ (sp l k b)=(k:Int):=fun _ _=>rfl
 have eb:∀k b,ay.bad (sp l k b)=b:=fun _ _=>rfl
 have eu:aa.mk 1 [] [] []=dG:=rfl;rw[M.kq];unfold pX;simp only[hb,bo,ad,hname,an,ak,dH h4,aj,bj];cases h16:(K==(16:Int))
 ·cases h17:(K==(17:Int))
  ·simp only[al,fC hL hk [125] b1,an,ak,cr,aj,bj];have key:∀o,o=kT l rec dp K t2 f o4 o5 (w,[]) k1 b1->Out l (RB b1 k1 (PR.ok (w,[]) k1)) (some o) fun v k' b'=>kT l rec dp K t2 f o4 o5 v k' b':=fun o e=>by
    rw[e];cases b1
    ·exact⟨hk,rfl⟩
    ·exact⟨hk,_,rfl⟩
   apply key;unfold kT;cases hc:(!b1&&aA l [125] k1)
   ·simp only[al,me hL hk,an,ak,aj,ad,sJ]
   ·simp only[ad,el,ea,eb,sJ]
  ·simp only[al,ad,fC hL hk [40] b1,an,ak,cr,aj,bj];cases nA:(!b1&&aA l [40] k1)
   ·simp only[al,fC hL hk [125] b1,an,ak,l9,dH h5,aj,bj,mR,eu];have key:∀o,o=kT l rec dp K t2 f o4 o5 (w,[dG]) k1 b1->Out l (RB b1 k1 (bif aA l [40] k1 then(g (k1+1)).bind fun t k3=>(cq l [41] k3).bind fun _ k4=>PR.ok (w,[t]) k4 else PR.ok (w,[dG]) k1)) (some o) fun v k' b'=>kT l rec dp K t2 f o4 o5 v k' b':=fun o e=>by
     rw[e];cases b1
     ·have:aA l [40] k1=false:=by simpa using nA
      rw[this];exact⟨hk,rfl⟩
     ·exact⟨hk,_,rfl⟩
    apply key;unfold kT;cases hc:(!b1&&aA l [125] k1)
    ·simp only[al,me hL hk,an,ak,aj,ad]
    ·simp only[ad,el,ea,eb]
   ·rw[bz,ga]at nA;obtain⟨hb1,nA⟩:=nA;subst hb1;rw[nA];have hk2:=cU hL hk nA;have cn:=hr (k1+1) false hk2;rw[show RB false (k1+1) (g (k1+1))=g (k1+1)from rfl]at cn;rw[show ∀r:PR (List UInt8×List aa),RB false k1 r=r from fun _=>rfl];simp only[ad];cases hg:g (k1+1)with
    |no k'=>
     rw[hg]at cn;obtain⟨h1,v,h2⟩:=cn;refine⟨h1,(w,[v]),ib some ?_⟩;simp only[h2,gY hL h1 [41] true,an,ak,b9,cJ,al,fC hL h1 [125] true,me hL h1,l9,dH h5,aj,bj,mR,aa.bX,ad];unfold kT;simp only[b9,cJ,al]
    |ok v k'=>
     rw[hg]at cn;obtain⟨h1,h2⟩:=cn;simp only[h2,gY hL h1 [41] false,an,ak,bo,bj,PR.bind,cq];cases pZ:aA l [41] k'
     ·refine⟨h1,(w,[v]),ib some ?_⟩;simp only[al,fC hL h1 [125] true,me hL h1,an,ak,b9,cJ,l9,dH h5,aj,bj,mR,aa.bX,ad];unfold kT;simp only[b9,cJ,al]
     ·have h1':=cU hL h1 pZ;refine⟨h1',ib some ?_⟩;simp only[ad,fC hL h1' [125] false,an,ak,bo,l9,dH h5,aj,bj,mR,aa.bX];unfold kT;simp only[bo,bj];cases hc:aA l [125] (k'+1)
      ·simp only[al,me hL h1',an,ak,aj,ad,bo,bj]
      ·simp only[ad,el,ea,eb]
 ·simp only[ad,gY hL hk [58] b1,an,ak];cases hc:(!b1&&aA l [58] k1)
  ·simp only[al];have cn:=hr k1 true hk;obtain⟨h1,v,h2⟩:=cn;have:RB b1 k1 ((cq l [58] k1).bind fun _ k2=>(g k2).bind fun t k3=>PR.ok (w,[t]) k3)=PR.no k1:=by
    cases b1
    ·have:aA l [58] k1=false:=by simpa using hc
     unfold cq;rw[this];rfl
    ·rfl
   rw[this];refine⟨hk,(w,[v]),ib some ?_⟩;simp only[h2,fC hL hk [125] true,me hL hk,an,ak,b9,cJ,al,l9,dH h5,aj,bj,mR,aa.bX,ad];unfold kT;simp only[b9,cJ,al]
  ·rw[bz,ga]at hc;obtain⟨hb1,hc⟩:=hc;subst hb1;have hk2:=cU hL hk hc;simp only[ad];have cn:=hr (k1+1) false hk2;rw[show RB false (k1+1) (g (k1+1))=g (k1+1)from rfl]at cn;rw[show RB false k1 ((cq l [58] k1).bind fun _ k2=>(g k2).bind fun t k3=>PR.ok (w,[t]) k3)=(g (k1+1)).bind fun t k3=>PR.ok (w,[t]) k3 by unfold cq;rw[hc];rfl];cases hg:g (k1+1)with
   |no k'=>
    rw[hg]at cn;obtain⟨h1,v,h2⟩:=cn;refine⟨h1,(w,[v]),ib some ?_⟩;simp only[h2,fC hL h1 [125] true,me hL h1,an,ak,b9,cJ,al,l9,dH h5,aj,bj,mR,aa.bX,ad];unfold kT;simp only[b9,cJ,al]
   |ok v k'=>
    rw[hg]at cn;obtain⟨h1,h2⟩:=cn;refine⟨h1,ib some ?_⟩;simp only[h2,fC hL h1 [125] false,an,ak,bo,l9,dH h5,aj,bj,mR,aa.bX];unfold kT;simp only[bo,bj];cases hc:aA l [125] k'
    ·simp only[al,me hL h1,an,ak,aj,ad,bo,bj]
    ·simp only[ad,el,ea,eb]
theorem afV{l:List af}(hL:bW l)(hT:∀t∈l,t.Text.length<=30000){rec:Int->ay->Option (aa×ay)}{g:Nat->PR aa}{dp K:Int}{t2:List UInt8}(hr:vN l rec (Go.IntKind.wrap .i64 (dp-1)) g):
 ∀(f m:Nat)(ps:List (List UInt8×List aa))(k:Nat),m+1<f->k<l.length->ps.length+(m+1)=16->(∀p∈ps,p.2.length<=1)->
 Out l (md l (gj l K g) [125] m ps k) (M.kq rec dp K t2 f (sp l k false) (ps.map (·.1)) (ps.map (·.2)).flatten) fun vs k' b'=>(l,(k':Int),b',K,t2,vs.map (·.1),(vs.map (·.2)).flatten):=by
 intro f
 induction f with
 |zero=>intro m ks k h;omega
 |succ f ih=>
  intro m ps k hf hk hps AX;obtain⟨f',rfl⟩:∃f',f=f'+1:=⟨f-1,by omega⟩;have hfl:=KZ ps AX;have mA:∀v:List UInt8×List aa,ps.map (·.1)++[v.1]=(ps++[v]).map (·.1):=fun v=>by rw[uW];rfl
  have mB:∀v:List UInt8×List aa,(ps.map (·.2)).flatten++v.2=((ps++[v]).map (·.2)).flatten:=fun v=>by rw[uW,List.flatten_append];simp
  have hend:∀(k:Nat)(xs:List (List UInt8))(ys:List aa),M.kq rec dp K t2 (f'+1) (sp l k true) xs ys=some (l,(k:Int),true,K,t2,xs,ys):=fun k xs ys=>by
   rw[M.kq];rfl
  have hn:=x9 hL hT hk false;rw[bo,bj]at hn;have h:Out l (gj l K g k) (some (M.kq rec dp K t2 (f'+1+1) (sp l k false) (ps.map (·.1)) (ps.map (·.2)).flatten)) fun v k' b'=>kT l rec dp K t2 (f'+1) (ps.map (·.1)) (ps.map (·.2)).flatten v k' b':=by
   rw[EI];unfold gi;cases hc:ef l k
   ·rw[hc]at hn;exact Rq hL (K:=K) (t2:=t2) (f:=f'+1) hr (by rw[eJ];omega) (by omega) (show ay.bad (sp l k false)=false from rfl) hn hk
   ·rw[hc]at hn;exact Rq hL (K:=K) (t2:=t2) (f:=f'+1) hr (by rw[eJ];omega) (by omega) (show ay.bad (sp l k false)=false from rfl) hn (yd hL hk hc)
  rw[md];cases hg:gj l K g k with
  |no k'=>
   rw[hg]at h;obtain⟨h1,v,h2⟩:=h;refine⟨h1,ps++[v],?_⟩;rw[iv h2];unfold kT;simp only[b9,cJ,al,mA,mB];cases decide ((16:Int)<=((((ps++[v]).map (·.1)).length:Nat):Int))<;>exact hend k' _ _
  |ok v k'=>
   have hv:=Rm hg;rw[hg]at h;obtain⟨h1,h2⟩:=h;simp only[iv h2];unfold kT;simp only[bo,bj,mA,mB];cases afW:aA l [125] k'
   ·simp only[al];have hlen:((((ps++[v]).map (·.1)).length:Nat):Int)=(16:Int)-(m:Int):=by rw[eJ,aE,List.length_singleton];omega
    cases m with
    |zero=>
     rw[cN (show(16:Int)<=((((ps++[v]).map (·.1)).length:Nat):Int) by omega)];exact⟨h1,ps++[v],hend k' _ _⟩
    |succ m=>
     rw[cY (show ¬(16:Int)<=((((ps++[v]).map (·.1)).length:Nat):Int) by omega)];simp only[al];cases ju:aA l [44] k'
     ·exact⟨h1,ps++[v],hend k' _ _⟩
     ·refine ih m (ps++[v]) (k'+1) (by omega) (cU hL h1 ju) (by rw[aE,List.length_singleton];omega) ?_;intro p hp;rcases de.1 hp with q|q
      ·exact AX p q
      ·rw[eI.1 q];exact hv
   ·exact⟨cU hL h1 afW,rfl⟩
theorem afX{l:List af}(hL:bW l)(hT:∀t∈l,t.Text.length<=30000){rec:Int->ay->Option (aa×ay)}{g:Nat->PR aa}{dp K:Int}(hr:vN l rec (Go.IntKind.wrap .i64 (dp-1)) g){k:Nat}(hk:k<l.length):
 Out l ((cq l [123] k).bind fun _ k2=>(dL l (gj l K g) 15 [] k2).bind fun ps k3=>(cq l [125] k3).bind fun _ k4=>.ok ps k4) (M.nD rec dp (sp l k false) K [] [] []) fun vs k' b'=>(sp l k' b',K,[],vs.map (·.1),(vs.map (·.2)).flatten):=by
 unfold M.nD cq;simp only[gY hL hk [123] false,bo,bj,an,ak,aj,ad];cases EM:aA l [123] k
 ·obtain⟨n,hn⟩:∃n,ae=n+1:=⟨ae-1,by have:=bf;omega⟩;refine⟨hk,[],?_⟩;simp only[al];rw[hn,M.kq];rfl
 ·have hk2:=cU hL hk EM;have e:=afV hL hT (K:=K) (t2:=[]) hr ae 15 [] (k+1) (by have:=bf;omega) hk2 rfl (by simp);rw[AZ l _ [125] (by decide)]at e;simp only[ad];rw[show(([]:List (List UInt8×List aa)).map (·.1))=[]from rfl,show(([]:List (List UInt8×List aa)).map (·.2)).flatten=[]from rfl]at e;rw[show(PR.ok () (k+1)).bind (fun _ k2=>(dL l (gj l K g) 15 [] k2).bind fun ps k3=>(bif aA l [125] k3 then PR.ok () (k3+1)else PR.no k3).bind fun _ k4=>PR.ok ps k4)=(dL l (gj l K g) 15 [] (k+1)).bind fun ps k3=>(bif aA l [125] k3 then PR.ok () (k3+1)else PR.no k3).bind fun _ k4=>PR.ok ps k4 from rfl];unfold cq at e;unfold Out at e⊢;cases hc:(dL l (gj l K g) 15 [] (k+1)).bind fun ps k3=>(bif aA l [125] k3 then PR.ok () (k3+1)else PR.no k3).bind fun _ k4=>PR.ok ps k4 with
  |ok v k'=>
   rw[hc]at e;obtain⟨h1,h2⟩:=e;refine⟨h1,?_⟩;rw[h2];rfl
  |no k'=>
   rw[hc]at e;obtain⟨h1,v,h2⟩:=e;refine⟨h1,v,?_⟩;rw[h2];rfl
end M
namespace M
open Go.V (inB bS ae bf)
theorem Rr(rec:Int->ay->Option (aa×ay)){l:List af}(hL:bW l)(hT:∀t∈l,t.Text.length<=30000)(dp:Int){k:Nat}(hk:k<l.length)(b:Bool)(h:b=true\/dp=0):
 ∃v,M.vO rec dp (sp l k b)=some (v,sp l k true):=by
 have hn:=x9 hL hT hk true;have e:(b||(dp==(0:Int)))=true:=by rcases h with q|q<;>rw[q]<;>simp
 refine⟨aa.mk 0 [] [] [],?_⟩;unfold M.vO;rw[show(ay.mk (ay.list (sp l k b)) (ay.at_ (sp l k b)) ((ay.bad (sp l k b))||(dp==(0:Int))))=sp l k true by
  show ay.mk l (k:Int) (b||(dp==(0:Int)))=_
  rw[e];rfl]
 rw[hn];simp only[b9,cJ,al,ak,an,EF,AQ,aj,ad];rfl
theorem afY{l:List af}(hL:bW l)(hT:∀t∈l,t.Text.length<=30000){rec:Int->ay->Option (aa×ay)}{dp:Int}{d:Nat}(hdp:dp≠0)(hr:vN l rec (Go.IntKind.wrap .i64 (dp-1)) (dO l d))
 {k:Nat} (hk:k<l.length):Out l (dO l (d+1) k) (M.vO rec dp (sp l k false)) fun v k' b'=>(v,sp l k' b'):=by
 have el:∀k b,ay.list (sp l k b)=l:=fun _ _=>rfl
 have ea:∀k b,ay.at_ (sp l k b)=(k:Int):=fun _ _=>rfl
 have eb:∀k b,ay.bad (sp l k b)=b:=fun _ _=>rfl
 have ep:∀(k:Nat) b,ay.mk l (k:Int) b=sp l k b:=fun _ _=>rfl
 have hn:=x9 hL hT hk false;have e0:(dp==(0:Int))=false:=cL.2 hdp;unfold M.vO;rw[el,ea,eb,e0,pD,ep,dO,hn];unfold gi;cases hnm:ef l k
 ·refine⟨hk,aa.mk (dK []) [] [] [],?_⟩;simp only[Bool.and_false,al,ak,an,eb,EF,aj,ad]
 ·have hk1:=yd hL hk hnm;simp only[bo,aj,ad,ak,an,EF,PR.bind,eb,al];generalize hw:(bp l k).Text=w;have hbd:=EE w;by_cases h0:dK w=0
  ·rw[h0];exact⟨hk1,rfl⟩
  ·rw[show(dK w==0)=false from cL.2 h0];simp only[al];generalize dK w=K at*;by_cases hA:K=12\/K=13\/K=22\/K=23
   ·have c1:(bif K==12 then K==12 else bif K==13 then K==13 else bif K==22 then K==22 else K==23)=true:=by
     rcases hA with q|q|q|q<;>rw[q]<;>rfl
    have c2:((K==12)||((K==13)||((K==22)||(K==23))))=true:=by
     rcases hA with q|q|q|q<;>rw[q]<;>rfl
    rw[c1,c2];simp only[ad,gY hL hk1 [60] false,an,ak,bo,bj,bu,aj];unfold cq;cases h60:aA l [60] (k+1)
    ·simp only[al];obtain⟨h1,v,h2⟩:=hr (k+1) true hk1;refine⟨hk1,aa.mk K [] [] [v],?_⟩;simp only[h2,gY hL hk1 [62] true,an,ak,b9,cJ,al,bu,bj,aj,ad,aa.bX]
    ·have hk2:=cU hL hk1 h60;simp only[ad];have cn:=hr (k+1+1) false hk2;rw[show RB false (k+1+1) (dO l d (k+1+1))=dO l d (k+1+1)from rfl]at cn;cases hg:dO l d (k+1+1)with
     |no k'=>
      rw[hg]at cn;obtain⟨h1,v,h2⟩:=cn;refine⟨h1,aa.mk K [] [] [v],?_⟩;simp only[h2,gY hL h1 [62] true,an,ak,b9,cJ,al,bu,bj,aj,ad,aa.bX]
     |ok v k'=>
      rw[hg]at cn;obtain⟨h1,h2⟩:=cn;simp only[h2,gY hL h1 [62] false,an,ak,bo,bj,bu,aj,ad,aa.bX];cases fb:aA l [62] k'
      ·exact⟨h1,aa.mk K [] [] [v],rfl⟩
      ·exact⟨cU hL h1 fb,rfl⟩
   ·have e1:(K==12)=false:=by rw[cL];omega
    have e2:(K==13)=false:=by rw[cL];omega
    have e3:(K==22)=false:=by rw[cL];omega
    have e4:(K==23)=false:=by rw[cL];omega
    simp only[e1,e2,e3,e4,al,pD];by_cases h15:K=15
    ·rw[h15];have n14:((15:Int)==14)=false:=rfl;simp only[n14,cr,al,ad,gY hL hk1 [60] false,an,ak,bo,bj,bu,aj];unfold cq;cases h60:aA l [60] (k+1)
     ·obtain⟨n,hn⟩:∃n,ae=n+1:=⟨ae-1,by have:=bf;omega⟩;refine⟨hk1,aa.mk 15 [] [] [],?_⟩;simp only[al];rw[hn,M.rJ];rfl
     ·have hk2:=cU hL hk1 h60;simp only[ad];have e:=afT hL hr 0 [] 15 [] [] [] [] ae 5 [] (k+1+1) (by have:=bf;omega) hk2 rfl;rw[AZ l _ [62] (by decide)]at e;unfold cq at e;cases hg:dL l (dO l d) 5 [] (k+1+1)with
      |no k'=>
       rw[hg]at e;obtain⟨h1,v,h2⟩:=e;refine⟨h1,aa.mk 15 [] [] v,?_⟩;simp only[h2];rfl
      |ok v k'=>
       rw[hg]at e;simp only[PR.bind]at e⊢;cases fb:aA l [62] k'
       ·rw[fb]at e;obtain⟨h1,v,h2⟩:=e;refine⟨h1,aa.mk 15 [] [] v,?_⟩;simp only[h2];rfl
       ·rw[fb]at e;obtain⟨h1,h2⟩:=e;refine⟨h1,?_⟩;simp only[h2];rfl
    ·have e15:(K==15)=false:=cL.2 h15;simp only[e15,al];by_cases pY:K=14
     ·rw[pY];have m20:((14:Int)==20)=false:=rfl;have m21:((14:Int)==21)=false:=rfl;simp only[m20,m21,cr,ad,al,pD];have cn:=afU hL hr hk1;cases hg:l8 l (dO l d) (k+1)with
      |no k'=>
       rw[hg]at cn;obtain⟨h1,v,h2⟩:=cn;refine⟨h1,aa.mk 14 [] [] v,?_⟩;simp only[h2,an,ak,bu,bj,aj,ad]
      |ok v k'=>
       rw[hg]at cn;obtain⟨h1,h2⟩:=cn;refine⟨h1,?_⟩;simp only[h2,an,ak,bu,bj,aj,ad]
     ·have e14:(K==14)=false:=cL.2 pY;simp only[e14,al];by_cases hB:K=20\/K=21
      ·have c1:(bif K==20 then K==20 else K==21)=true:=by rcases hB with q|q<;>rw[q]<;>rfl
       have c2:((K==20)||(K==21))=true:=by rcases hB with q|q<;>rw[q]<;>rfl
       rw[c1,c2];simp only[ad,gY hL hk1 [60] false,an,ak,bo,bj,bu,aj];unfold cq kS;cases h60:aA l [60] (k+1)
       ·refine⟨hk1,aa.mk K [] [] [],?_⟩;simp only[al,KY hL hT hk1 true,gY hL hk1 [62] true,an,ak,b9,cJ,bu,bj,aj,ad]
       ·have hk2:=cU hL hk1 h60;simp only[ad,KY hL hT hk2 false,an,ak,bo,bj,bu,aj];cases hid:jt l (k+1+1)
        ·refine⟨hk2,aa.mk K [] [] [],?_⟩;simp only[al,gY hL hk2 [62] true,an,ak,b9,cJ,bu,bj,aj,ad]
        ·have hk3:=EL hL hk2 hid;simp only[ad,gY hL hk3 [62] false,an,ak,bo,bj,bu,aj];cases fb:aA l [62] (k+1+1+1)
         ·exact⟨hk3,aa.mk K (bp l (k+1+1)).Text [] [],rfl⟩
         ·exact⟨cU hL hk3 fb,rfl⟩
      ·have f1:(K==20)=false:=by rw[cL];omega
       have f2:(K==21)=false:=by rw[cL];omega
       simp only[f1,f2,al,pD];by_cases hC:K=16\/K=17\/K=18\/K=19
       ·have c1:(bif K==16 then K==16 else bif K==17 then K==17 else bif K==18 then K==18 else K==19)=true:=by
         rcases hC with q|q|q|q<;>rw[q]<;>rfl
        have c2:((K==16)||((K==17)||((K==18)||(K==19))))=true:=by
         rcases hC with q|q|q|q<;>rw[q]<;>rfl
        rw[c1,c2];simp only[ad];have e:=afX hL hT (K:=K) hr hk1;have fin:∀(r:PR (List (List UInt8×List aa))),Out l r (M.nD rec dp (sp l (k+1) false) K [] [] []) (fun vs k' b'=>(sp l k' b',K,[],vs.map (·.1),(vs.map (·.2)).flatten))->
         Out l (r.bind fun ps k4=>PR.ok (aa.mk K [] (ps.map (·.1)) (ps.map (·.2)).flatten) k4) (bif(Option.isSome (M.nD rec dp (sp l (k+1) false) K [] [] []))then some (aa.mk (Option.getD (M.nD rec dp (sp l (k+1) false) K [] [] []) Inhabited.default).2.1 (Option.getD (M.nD rec dp (sp l (k+1) false) K [] [] []) Inhabited.default).2.2.1 (Option.getD (M.nD rec dp (sp l (k+1) false) K [] [] []) Inhabited.default).2.2.2.1 (Option.getD (M.nD rec dp (sp l (k+1) false) K [] [] []) Inhabited.default).2.2.2.2,(Option.getD (M.nD rec dp (sp l (k+1) false) K [] [] []) Inhabited.default).1)else none) fun v k' b'=>(v,sp l k' b'):=by
         intro r hr;cases r with
         |no k'=>
          obtain⟨h1,v,h2⟩:=hr;refine⟨h1,aa.mk K [] (v.map (·.1)) (v.map (·.2)).flatten,?_⟩;rw[h2];rfl
         |ok v k'=>
          obtain⟨h1,h2⟩:=hr;refine⟨h1,?_⟩;rw[h2];rfl
        have:=fin _ e;simp only[bu,bj,bM,aj];unfold cq at this⊢;cases EM:aA l [123] (k+1)
        ·rw[EM]at this;exact this
        ·rw[EM]at this;simp only[ad,PR.bind]at this⊢;cases hg:dL l (gj l K (dO l d)) 15 [] (k+1+1)with
         |no k'=>rw[hg]at this;exact this
         |ok v k'=>
          rw[hg]at this;simp only at this⊢;cases fb:aA l [125] k'
          ·rw[fb]at this;exact this
          ·rw[fb]at this;exact this
       ·have g1:(K==16)=false:=by rw[cL];omega
        have g2:(K==17)=false:=by rw[cL];omega
        have g3:(K==18)=false:=by rw[cL];omega
        have g4:(K==19)=false:=by rw[cL];omega
        rw[g1,g2,g3,g4];refine⟨hk1,?_⟩;simp only[al,pD,bu,bj,aj,ad]
theorem Rt{l:List af}(hL:bW l)(hT:∀t∈l,t.Text.length<=30000):∀(n d:Nat),d<n->d<=4->vN l (M.tK n) (d:Int) (dO l d)
 |0,d,h,_=>by omega
 |n+1,d,h,h4=>fun k b hk=>by
  show Out l _ (M.vO (M.tK n) (d:Int) (sp l k b)) _
  cases b with
  |true=>
   obtain⟨v,e⟩:=Rr (M.tK n) hL hT (d:Int) hk true (Or.inl rfl);exact⟨hk,v,e⟩
  |false=>
   cases d with
   |zero=>
    obtain⟨v,e⟩:=Rr (M.tK n) hL hT 0 hk false (Or.inr rfl);exact⟨hk,v,e⟩
   |succ d=>
    have hw:Go.IntKind.wrap .i64 (((d+1:Nat):Int)-1)=(d:Int):=by rw[wrap_i64 (by omega) (by omega)];omega
    have hr:=Rt hL hT n d (by omega) (by omega);rw[<-hw]at hr;exact afY hL hT (by omega) hr hk
end M
namespace M
open Go.V (inB bS ae bf)
def At{α:Type}(r:PR α)(v:α)(k:Nat)(b:Bool):Prop:=(r=.ok v k/\b=false)\/(r=.no k/\b=true)
theorem Out.at{α β:Type}{l:List af}{r:PR α}{o:Option β}{F:α->Nat->Bool->β}(h:Out l r o F):∃v k b,k<l.length/\At r v k b/\o=some (F v k b):=by
 cases r with
 |ok v k=>exact⟨v,k,false,h.1,Or.inl ⟨rfl,rfl⟩,h.2⟩
 |no k=>obtain⟨h1,v,h2⟩:=h;exact⟨v,k,true,h1,Or.inr ⟨rfl,rfl⟩,h2⟩
theorem At.out{α β:Type}{l:List af}{r:PR α}{o:Option β}{F:α->Nat->Bool->β}{v:α}{k:Nat}{b:Bool}(hk:k<l.length)(h:At r v k b)(ho:o=some (F v k b)):Out l r o F:=by
 rcases h with⟨e1,e2⟩|⟨e1,e2⟩
 ·rw[e1];rw[e2]at ho;exact⟨hk,ho⟩
 ·rw[e1];rw[e2]at ho;exact⟨hk,v,ho⟩
theorem vP{α β:Type}(b:Bool)(k:Nat)(r:PR α)(f:α->Nat->PR β):RB b k (r.bind f)=(RB b k r).bind f:=by cases b<;>rfl
theorem At.bind{α β:Type}{r:PR α}{f:α->Nat->PR β}{v:α}{w:β}{k1 k2:Nat}{b1 b2:Bool}(h:At r v k1 b1)(h2:At (RB b1 k1 (f v k1)) w k2 b2):At (r.bind f) w k2 b2:=by
 rcases h with⟨e1,e2⟩|⟨e1,e2⟩
 ·rw[e1];rw[e2]at h2;exact h2
 ·rw[e1];rw[e2]at h2;exact h2
theorem At.bG{α β:Type}{r:PR α}{f:α->Nat->PR β}{v:α}{w:β}{k k1 k2:Nat}{b b1 b2:Bool}(h:At (RB b k r) v k1 b1)(h2:At (RB b1 k1 (f v k1)) w k2 b2):At (RB b k (r.bind f)) w k2 b2:=by
 rw[vP];exact h.bind h2
theorem At.ret{α:Type}(v:α)(k:Nat)(b:Bool):At (RB b k (PR.ok v k)) v k b:=by
 cases b
 ·exact Or.inl ⟨rfl,rfl⟩
 ·exact Or.inr ⟨rfl,rfl⟩
theorem At.no{α:Type}(v:α)(k:Nat)(r:PR α):At (RB true k r) v k true:=Or.inr ⟨rfl,rfl⟩
theorem mf{α:Type}{l:List af}{t:List UInt8}{k:Nat}{b:Bool}(h:(!b&&aA l t k)=true)(x y:PR α):RB b k (bif aA l t k then x else y)=x:=by
 rw[bz,ga]at h;rw[h.1,h.2];rfl
theorem nE{α:Type}{l:List af}{t:List UInt8}{k:Nat}{b:Bool}(h:(!b&&aA l t k)=false)(x y:PR α):RB b k (bif aA l t k then x else y)=RB b k y:=by
 cases b
 ·have:aA l t k=false:=by simpa using h
  rw[this];rfl
 ·rfl
theorem nF{l:List af}(hL:bW l){t:List UInt8}{k:Nat}{b:Bool}(hk:k<l.length)(h:(!b&&aA l t k)=true):k+1<l.length/\b=false:=by
 rw[bz,ga]at h;exact⟨cU hL hk h.2,h.1⟩
theorem mg(l:List af)(k:Nat)(b:Bool):au.mk l (k:Int) b=ip l k b:=rfl
theorem lH(l:List af)(k:Nat)(b:Bool):au.list (ip l k b)=l:=rfl
theorem kr(l:List af)(k:Nat)(b:Bool):au.at_ (ip l k b)=(k:Int):=rfl
theorem iC(l:List af)(k:Nat)(b:Bool):au.bad (ip l k b)=b:=rfl
theorem kU(l:List af)(k:Nat)(b:Bool):ay.mk l (k:Int) b=sp l k b:=rfl
theorem jE(l:List af)(k:Nat)(b:Bool):ay.list (sp l k b)=l:=rfl
theorem jF(l:List af)(k:Nat)(b:Bool):ay.at_ (sp l k b)=(k:Int):=rfl
theorem iN(l:List af)(k:Nat)(b:Bool):ay.bad (sp l k b)=b:=rfl
theorem kb{l:List af}(hL:bW l){k:Nat}(hk:k<l.length){t:List UInt8}(hn:tw t)(b:Bool):∃k' b',k'<l.length/\At (RB b k (cq l t k)) () k' b'/\M.di t (ip l k b)=some (ip l k' b'):=by
 rw[fi hL hk hn b];unfold cq;cases h:(!b&&aA l t k)
 ·refine⟨k,true,hk,?_,rfl⟩;rw[nE h];exact Or.inr ⟨by cases b<;>rfl,rfl⟩
 ·obtain⟨h1,h2⟩:=nF hL hk h;refine⟨k+1,b,h1,?_,rfl⟩;rw[mf h,h2];exact Or.inl ⟨rfl,rfl⟩
theorem kV{l:List af}(hL:bW l){k:Nat}(hk:k<l.length)(t:List UInt8)(b:Bool):∃k' b',k'<l.length/\At (RB b k (cq l t k)) () k' b'/\M.dE t (sp l k b)=some (sp l k' b'):=by
 rw[gY hL hk t b];unfold cq;cases h:(!b&&aA l t k)
 ·refine⟨k,true,hk,?_,rfl⟩;rw[nE h];exact Or.inr ⟨by cases b<;>rfl,rfl⟩
 ·obtain⟨h1,h2⟩:=nF hL hk h;refine⟨k+1,b,h1,?_,rfl⟩;rw[mf h,h2];exact Or.inl ⟨rfl,rfl⟩
theorem ye{l:List af}{k:Nat}(hk:k<l.length){c:Bool}(hc:c=true->k+1<l.length)(w:List UInt8)(b:Bool){β:Type}(st:Nat->Bool->β):
 ∃v k' b',k'<l.length/\At (RB b k (bif c then PR.ok w (k+1)else PR.no k)) v k' b'/\(some (bif !b&&c then(w,st (k+1) b)else([],st k true)):Option (List UInt8×β))=some (v,st k' b')/\(b'=true->v=[]):=by
 cases b with
 |true=>exact⟨[],k,true,hk,Or.inr ⟨rfl,rfl⟩,rfl,fun _=>rfl⟩
 |false=>cases c with
  |true=>exact⟨w,k+1,false,hc rfl,Or.inl ⟨rfl,rfl⟩,rfl,fun h=>by cases h⟩
  |false=>exact⟨[],k,true,hk,Or.inr ⟨rfl,rfl⟩,rfl,fun _=>rfl⟩
theorem Ru{l:List af}(hL:bW l){k:Nat}(hk:k<l.length)(h:ka l k=true):k+1<l.length:=by
 unfold ka at h;rw[bz,cK]at h;refine hL.next hk ?_;have:=h.1;unfold bp at this;rw[this];decide
theorem vQ{l:List af}(hL:bW l)(hT:∀t∈l,t.Text.length<=30000){k:Nat}(hk:k<l.length)(b:Bool):∃v k' b',k'<l.length/\At (RB b k (gi l k)) v k' b'/\M.gZ (ip l k b)=some (v,ip l k' b')/\(b'=true->v=[]):=by
 rw[EC hL hT hk b];exact ye hk (yd hL hk) _ b fun k b=>ip l k b
theorem vR{l:List af}(hL:bW l)(hT:∀t∈l,t.Text.length<=30000){k:Nat}(hk:k<l.length)(b:Bool):∃v k' b',k'<l.length/\At (RB b k (gi l k)) v k' b'/\M.gh (sp l k b)=some (v,sp l k' b')/\(b'=true->v=[]):=by
 rw[x9 hL hT hk b];exact ye hk (yd hL hk) _ b fun k b=>sp l k b
theorem EN{l:List af}(hL:bW l)(hT:∀t∈l,t.Text.length<=30000){k:Nat}(hk:k<l.length)(b:Bool):∃v k' b',k'<l.length/\At (RB b k (kS l k)) v k' b'/\M.nB (ip l k b)=some (v,ip l k' b')/\(b'=true->v=[]):=by
 rw[KX hL hT hk b];exact ye hk (EL hL hk) _ b fun k b=>ip l k b
theorem EO{l:List af}(hL:bW l)(hT:∀t∈l,t.Text.length<=30000){k:Nat}(hk:k<l.length)(b:Bool):∃v k' b',k'<l.length/\At (RB b k (kS l k)) v k' b'/\M.nC (sp l k b)=some (v,sp l k' b')/\(b'=true->v=[]):=by
 rw[KY hL hT hk b];exact ye hk (EL hL hk) _ b fun k b=>sp l k b
theorem Rw{l:List af}(hL:bW l)(hT:∀t∈l,t.Text.length<=30000){k:Nat}(hk:k<l.length)(b:Bool):∃v k' b',k'<l.length/\At (RB b k (tH l k)) v k' b'/\M.tD (ip l k b)=some (v,ip l k' b')/\(b'=true->v=[]):=by
 rw[afF hL hT hk b];exact ye hk (Ru hL hk) _ b fun k b=>ip l k b
theorem Rx{l:List af}(hL:bW l){k:Nat}(hk:k<l.length)(b:Bool):∃v k' b',k'<l.length/\At (RB b k (tH l k)) v k' b'/\M.tG (sp l k b)=some (v,sp l k' b')/\(b'=true->v=[]):=by
 rw[afH hL hk b];exact ye hk (Ru hL hk) _ b fun k b=>sp l k b
theorem EP{l:List af}(hL:bW l)(hT:∀t∈l,t.Text.length<=30000){k:Nat}(hk:k<l.length)(b:Bool):∃v k' b',k'<l.length/\At (RB b k (dO l 4 k)) v k' b'/\M.rK 1 (ip l k b)=some (v,ip l k' b'):=
 (Ro hL hT ae 4 1 (by have:=bf;omega) (by omega) (by omega) k b hk).at
theorem K0{l:List af}(hL:bW l)(hT:∀t∈l,t.Text.length<=30000){k:Nat}(hk:k<l.length)(b:Bool):∃v k' b',k'<l.length/\At (RB b k (dO l 4 k)) v k' b'/\M.tL 4 (sp l k b)=some (v,sp l k' b'):=
 (Rt hL hT ae 4 (by have:=bf;omega) (by omega) k b hk).at
def mS(l:List af)(k:Nat):PR aI:=(gi l k).bind fun a k1=>
 bif aA l [47] k1 then(gi l (k1+1)).bind fun b k2=>
  bif aA l [64] k2 then(tH l (k2+1)).bind fun v k3=>.ok (aI.mk a b v) k3 else .ok (aI.mk a b []) k2
 else .ok (aI.mk [] a []) k1
theorem K1{l:List af}(hL:bW l)(hT:∀t∈l,t.Text.length<=30000){k:Nat}(hk:k<l.length)(b:Bool):∃v k' b',k'<l.length/\At (RB b k (mS l k)) v k' b'/\M.nG (ip l k b)=some (v,ip l k' b'):=by
 obtain⟨v1,k1,b1,h1,a1,e1,-⟩:=vQ hL hT hk b;unfold M.nG mS;simp only[e1,js hL h1 (cT 47 (by decide)) b1,ak,an,aj];cases h47:(!b1&&aA l [47] k1)
 ·refine⟨aI.mk [] v1 [],k1,b1,h1,a1.bG ?_,rfl⟩;rw[nE h47];exact At.ret _ _ _
 ·obtain⟨h2,hb⟩:=nF hL h1 h47;subst hb;obtain⟨v3,k3,b3,h3,a3,e3,-⟩:=vQ hL hT h2 false;simp only[ad,e3,js hL h3 (cT 64 (by decide)) b3,ak,an,aj];cases h64:(!b3&&aA l [64] k3)
  ·refine⟨aI.mk v1 v3 [],k3,b3,h3,a1.bG ?_,rfl⟩;rw[mf h47];refine At.bind a3 ?_;rw[nE h64];exact At.ret _ _ _
  ·obtain⟨h4,hb⟩:=nF hL h3 h64;subst hb;obtain⟨v5,k5,b5,h5,a5,e5,-⟩:=Rw hL hT h4 false;refine⟨aI.mk v1 v3 v5,k5,b5,h5,a1.bG ?_,?_⟩
   ·rw[mf h47];refine At.bind a3 ?_;rw[mf h64];exact At.bind a5 (At.ret _ _ _)
   ·simp only[ad,e5,ak,an,aj]
theorem K2{l:List af}(hL:bW l)(hT:∀t∈l,t.Text.length<=30000){k:Nat}(hk:k<l.length)(b:Bool):∃v k' b',k'<l.length/\At (RB b k (mS l k)) v k' b'/\M.mh (sp l k b)=some (v,sp l k' b'):=by
 obtain⟨v1,k1,b1,h1,a1,e1,-⟩:=vR hL hT hk b;unfold M.mh mS;simp only[e1,fC hL h1 [47] b1,ak,an,aj];cases h47:(!b1&&aA l [47] k1)
 ·refine⟨aI.mk [] v1 [],k1,b1,h1,a1.bG ?_,rfl⟩;rw[nE h47];exact At.ret _ _ _
 ·obtain⟨h2,hb⟩:=nF hL h1 h47;subst hb;obtain⟨v3,k3,b3,h3,a3,e3,-⟩:=vR hL hT h2 false;simp only[ad,e3,fC hL h3 [64] b3,ak,an,aj];cases h64:(!b3&&aA l [64] k3)
  ·refine⟨aI.mk v1 v3 [],k3,b3,h3,a1.bG ?_,rfl⟩;rw[mf h47];refine At.bind a3 ?_;rw[nE h64];exact At.ret _ _ _
  ·obtain⟨h4,hb⟩:=nF hL h3 h64;subst hb;obtain⟨v5,k5,b5,h5,a5,e5,-⟩:=Rx hL h4 false;refine⟨aI.mk v1 v3 v5,k5,b5,h5,a1.bG ?_,?_⟩
   ·rw[mf h47];refine At.bind a3 ?_;rw[mf h64];exact At.bind a5 (At.ret _ _ _)
   ·simp only[ad,e5,ak,an,aj]
end M
namespace M
open Go.V (inB bS ae bf)
def jG(l:List af)(k:Nat):PR aV:=(gi l k).bind fun w k1=>(cq l [58] k1).bind fun _ k2=>(dO l 4 k2).bind fun t k3=>.ok (aV.mk w t) k3
def kW(l:List af)(k:Nat):PR aX:=(kS l k).bind fun a k1=>
 bif aA l [97,115] k1 then(kS l (k1+1)).bind fun b k2=>.ok (aX.mk a b) k2 else .ok (aX.mk a []) k1
theorem afZ:tw [97,115]:=fun d r e=>by cases e;decide
theorem af0{l:List af}(hL:bW l)(hT:∀t∈l,t.Text.length<=30000)(t1:Int)(t12:List UInt8)(t13:Int)(t14:List UInt8)(t15:Bool)(t16 t17 t18:List UInt8)(o3:List (List UInt8))(o4:List aa)(o5:List aV)(o6:List aX)
 (h5:o5.length<=1000) {k:Nat} (hk:k<l.length) (b:Bool):∃v k' b',k'<l.length/\At (RB b k (jG l k)) v k' b'/\
   M.A3 t1 t12 t13 t14 t15 t16 t17 t18 l (k:Int) b o3 o4 o5 o6=some (t1,t12,t13,t14,t15,t16,t17,t18,l,(k':Int),b',o3,o4,o5++[v],o6):=by
 obtain⟨v1,k1,b1,h1,a1,e1,-⟩:=vQ hL hT hk b;obtain⟨k2,b2,h2,a2,e2⟩:=kb hL h1 (cT 58 (by decide)) b1;obtain⟨v3,k3,b3,h3,a3,e3⟩:=EP hL hT h2 b2;unfold M.A3 jG;refine⟨aV.mk v1 v3,k3,b3,h3,a1.bG (a2.bG (a3.bG (At.ret _ _ _))),?_⟩;simp only[mg,e1,e2,e3,ak,an,dH h5,aj,ad,lH,kr,iC,aa.bX]
theorem af1{l:List af}(hL:bW l)(hT:∀t∈l,t.Text.length<=30000)(t1:Int)(t12:List UInt8)(t13:Int)(t14:List UInt8)(t15:Bool)(t16 t17 t18:List UInt8)(o3:List (List UInt8))(o4:List aa)(o5:List aV)(o6:List aX)
 (h6:o6.length<=1000) {k:Nat} (hk:k<l.length) (b:Bool):∃v k' b',k'<l.length/\At (RB b k (kW l k)) v k' b'/\
   M.A4 t1 t12 t13 t14 t15 t16 t17 t18 l (k:Int) b o3 o4 o5 o6=some (t1,t12,t13,t14,t15,t16,t17,t18,l,(k':Int),b',o3,o4,o5,o6++[v]):=by
 obtain⟨v1,k1,b1,h1,a1,e1,-⟩:=EN hL hT hk b;unfold M.A4 kW;simp only[mg,e1,js hL h1 afZ b1,ak,an,aj];cases h47:(!b1&&aA l [97,115] k1)
 ·refine⟨aX.mk v1 [],k1,b1,h1,a1.bG ?_,?_⟩
  ·rw[nE h47];exact At.ret _ _ _
  ·simp only[al,dH h6,aj,ad,lH,kr,iC]
 ·obtain⟨h2,hb⟩:=nF hL h1 h47;subst hb;obtain⟨v3,k3,b3,h3,a3,e3,-⟩:=EN hL hT h2 false;refine⟨aX.mk v1 v3,k3,b3,h3,a1.bG ?_,?_⟩
  ·rw[mf h47];exact At.bind a3 (At.ret _ _ _)
  ·simp only[ad,e3,ak,an,dH h6,aj,lH,kr,iC]
theorem af2{l:List af}(hL:bW l)(hT:∀t∈l,t.Text.length<=30000)(o2:Int)(eV:List UInt8)(fL:Int)(gq:List UInt8)(gu:Bool)(gv gw gz:List UInt8)(o7:List (List UInt8))(o8:List aa)(bJ:List aX):
 ∀(f m:Nat)(ks:List aV)(k:Nat),m<f->k<l.length->ks.length+(m+1)<=6->∃vs k' b',k'<l.length/\At (dL l (jG l) m ks k) vs k' b'/\
  ((M.tM 6 f ((6:Int)-(m:Int)) (ip l k false) o2 eV fL gq gu gv gw gz o7 o8 ks bJ).map fun r=>match r with
  |.inl x=>x
  |.inr x=>x)=some (l,(k':Int),b',o2,eV,fL,gq,gu,gv,gw,gz,o7,o8,vs,bJ):=by
 intro f
 induction f with
 |zero=>intro m ks k h;omega
 |succ f ih=>
  intro m ks k hf hk hks;obtain⟨v,k1,b1,h1,a1,e1⟩:=af0 hL hT o2 eV fL gq gu gv gw gz o7 o8 ks bJ (by omega) hk false;rw[M.tM,dL];simp only[iC,lH,kr,bo,ad,e1,ak,an];rcases a1 with⟨q1,q2⟩|⟨q1,q2⟩
  ·rw[show RB false k (jG l k)=jG l k from rfl]at q1;rw[q1];subst q2;cases m with
   |zero=>
    have e:(((6:Int)-((0:Nat):Int))==6)=true:=by rw[cK];omega
    refine⟨ks++[v],k1,false,h1,Or.inl ⟨rfl,rfl⟩,?_⟩;simp only[e,na,ad,aj,cr,iU]
   |succ m=>
    have e:(((6:Int)-((m+1:Nat):Int))==6)=false:=by rw[cL];omega
    simp only[e,mg,js hL h1 (cT 44 (by decide)) false,an,ak,na,al,aj,cr,bo,bj];cases hb:aA l [44] k1
    ·exact⟨ks++[v],k1,false,h1,Or.inl ⟨rfl,rfl⟩,rfl⟩
    ·have hw:Go.IntKind.wrap .i64 (((6:Int)-((m+1:Nat):Int))+1)=(6:Int)-(m:Int):=by rw[wrap_i64 (by omega) (by omega)];omega
     simp only[ad,b9,al,hw];exact ih m (ks++[v]) (k1+1) (by omega) (cU hL h1 hb) (by rw[aE,List.length_singleton];omega)
  ·rw[show RB false k (jG l k)=jG l k from rfl]at q1;rw[q1];subst q2;refine⟨ks++[v],k1,true,h1,Or.inr ⟨rfl,rfl⟩,?_⟩;simp only[bu,ad,aj,cr,iU]
theorem af4{l:List af}(hL:bW l)(hT:∀t∈l,t.Text.length<=30000)(o2:Int)(eV:List UInt8)(fL:Int)(gq:List UInt8)(gu:Bool)(gv gw gz:List UInt8)(o7:List (List UInt8))(o8:List aa)(bJ:List aX){k:Nat}(hk:k<l.length)(b:Bool):
 ∃vs k' b',k'<l.length/\At (RB b k (dL l (jG l) 5 [] k)) vs k' b'/\
  M.yf 6 (ip l k b) o2 eV fL gq gu gv gw gz o7 o8 [] bJ=some (ip l k' b',o2,eV,fL,gq,gu,gv,gw,gz,o7,o8,vs,bJ):=by
 cases b with
 |true=>
  refine⟨[],k,true,hk,At.no _ _ _,?_⟩;obtain⟨n,hn⟩:∃n,ae=n+1:=⟨ae-1,by have:=bf;omega⟩;unfold M.yf;rw[hn,M.tM];rfl
 |false=>
  obtain⟨vs,k',b',h1,a1,e1⟩:=af2 hL hT o2 eV fL gq gu gv gw gz o7 o8 bJ ae 5 [] k (by have:=bf;omega) hk (by simp);refine⟨vs,k',b',h1,a1,?_⟩;unfold M.yf;rw[show(6:Int)-((5:Nat):Int)=1 from rfl]at e1;cases ho:M.tM 6 ae 1 (ip l k false) o2 eV fL gq gu gv gw gz o7 o8 [] bJ with
  |none=>rw[ho]at e1;cases e1
  |some r=>
   rw[ho]at e1;cases r<;>(simp only[iU,av]at e1;rw[e1];rfl)
theorem af5{l:List af}(hL:bW l)(hT:∀t∈l,t.Text.length<=30000)(o2:Int)(eV:List UInt8)(fL:Int)(gq:List UInt8)(gu:Bool)(gv gw gz:List UInt8)(o7:List (List UInt8))(o8:List aa)(o9:List aV):
 ∀(f m:Nat)(ks:List aX)(k:Nat),m<f->k<l.length->ks.length+(m+1)<=16->∃vs k' b',k'<l.length/\At (dL l (kW l) m ks k) vs k' b'/\
  ((M.tN 16 f ((16:Int)-(m:Int)) (ip l k false) o2 eV fL gq gu gv gw gz o7 o8 o9 ks).map fun r=>match r with
  |.inl x=>x
  |.inr x=>x)=some (l,(k':Int),b',o2,eV,fL,gq,gu,gv,gw,gz,o7,o8,o9,vs):=by
 intro f
 induction f with
 |zero=>intro m ks k h;omega
 |succ f ih=>
  intro m ks k hf hk hks;obtain⟨v,k1,b1,h1,a1,e1⟩:=af1 hL hT o2 eV fL gq gu gv gw gz o7 o8 o9 ks (by omega) hk false;rw[M.tN,dL];simp only[iC,lH,kr,bo,ad,e1,ak,an];rcases a1 with⟨q1,q2⟩|⟨q1,q2⟩
  ·rw[show RB false k (kW l k)=kW l k from rfl]at q1;rw[q1];subst q2;cases m with
   |zero=>
    have e:(((16:Int)-((0:Nat):Int))==16)=true:=by rw[cK];omega
    refine⟨ks++[v],k1,false,h1,Or.inl ⟨rfl,rfl⟩,?_⟩;simp only[e,na,ad,aj,cr,iU]
   |succ m=>
    have e:(((16:Int)-((m+1:Nat):Int))==16)=false:=by rw[cL];omega
    simp only[e,mg,js hL h1 (cT 44 (by decide)) false,an,ak,na,al,aj,cr,bo,bj];cases hb:aA l [44] k1
    ·exact⟨ks++[v],k1,false,h1,Or.inl ⟨rfl,rfl⟩,rfl⟩
    ·have hw:Go.IntKind.wrap .i64 (((16:Int)-((m+1:Nat):Int))+1)=(16:Int)-(m:Int):=by rw[wrap_i64 (by omega) (by omega)];omega
     simp only[ad,b9,al,hw];exact ih m (ks++[v]) (k1+1) (by omega) (cU hL h1 hb) (by rw[aE,List.length_singleton];omega)
  ·rw[show RB false k (kW l k)=kW l k from rfl]at q1;rw[q1];subst q2;refine⟨ks++[v],k1,true,h1,Or.inr ⟨rfl,rfl⟩,?_⟩;simp only[bu,ad,aj,cr,iU]
theorem af6{l:List af}(hL:bW l)(hT:∀t∈l,t.Text.length<=30000)(o2:Int)(eV:List UInt8)(fL:Int)(gq:List UInt8)(gu:Bool)(gv gw gz:List UInt8)(o7:List (List UInt8))(o8:List aa)(o9:List aV){k:Nat}(hk:k<l.length)(b:Bool):
 ∃vs k' b',k'<l.length/\At (RB b k (dL l (kW l) 15 [] k)) vs k' b'/\
  M.vS 16 (ip l k b) o2 eV fL gq gu gv gw gz o7 o8 o9 []=some (ip l k' b',o2,eV,fL,gq,gu,gv,gw,gz,o7,o8,o9,vs):=by
 cases b with
 |true=>
  refine⟨[],k,true,hk,At.no _ _ _,?_⟩;obtain⟨n,hn⟩:∃n,ae=n+1:=⟨ae-1,by have:=bf;omega⟩;unfold M.vS;rw[hn,M.tN];rfl
 |false=>
  obtain⟨vs,k',b',h1,a1,e1⟩:=af5 hL hT o2 eV fL gq gu gv gw gz o7 o8 o9 ae 15 [] k (by have:=bf;omega) hk (by simp);refine⟨vs,k',b',h1,a1,?_⟩;unfold M.vS;rw[show(16:Int)-((15:Nat):Int)=1 from rfl]at e1;cases ho:M.tN 16 ae 1 (ip l k false) o2 eV fL gq gu gv gw gz o7 o8 o9 []with
  |none=>rw[ho]at e1;cases e1
  |some r=>
   rw[ho]at e1;cases r<;>(simp only[iU,av]at e1;rw[e1];rfl)
theorem af7{l:List af}(hL:bW l)(hT:∀t∈l,t.Text.length<=30000):∀(f m:Nat)(ks:List aV)(k:Nat),m+1<f->k<l.length->ks.length+(m+1)=6->
 ∃vs k' b',k'<l.length/\At (md l (jG l) [41] m ks k) vs k' b'/\M.nH  f (sp l k false) ks=some (l,(k':Int),b',vs):=by
 intro f
 induction f with
 |zero=>intro m ks k h;omega
 |succ f ih=>
  intro m ks k hf hk hks;obtain⟨f',rfl⟩:∃f',f=f'+1:=⟨f-1,by omega⟩;have hend:∀(k:Nat)(xs:List aV),M.nH  (f'+1) (sp l k true) xs=some (l,(k:Int),true,xs):=fun k xs=>by
   rw[M.nH];rfl
  have fin:∀(v:aV)(k1:Nat)(b1:Bool),k1<l.length->At (jG l k) v k1 b1->
   M.nH  (f'+1+1) (sp l k false) ks=(bif !b1&&aA l [41] k1 then some (l,((k1+1:Nat):Int),b1,ks++[v])
     else M.nH  (f'+1) (bif decide ((6:Int)<=(((ks++[v]).length:Nat):Int))then sp l k1 true else bif !b1&&aA l [44] k1 then sp l (k1+1) b1 else sp l k1 true) (ks++[v]))->
   ∃vs k' b',k'<l.length/\At (md l (jG l) [41] m ks k) vs k' b'/\M.nH  (f'+1+1) (sp l k false) ks=some (l,(k':Int),b',vs):=by
   intro v k1 b1 h1 a1 e1;rw[e1,md];rcases a1 with⟨q1,q2⟩|⟨q1,q2⟩
   ·rw[q1];subst q2;simp only[bo,bj];cases hc:aA l [41] k1
    ·simp only[al];have hlen:(((ks++[v]).length:Nat):Int)=(6:Int)-(m:Int):=by rw[aE,List.length_singleton];omega
     cases m with
     |zero=>
      rw[cN (show(6:Int)<=(((ks++[v]).length:Nat):Int) by omega)];exact⟨ks++[v],k1,true,h1,Or.inr ⟨rfl,rfl⟩,hend k1 _⟩
     |succ m=>
      rw[cY (show ¬(6:Int)<=(((ks++[v]).length:Nat):Int) by omega)];simp only[al];cases ju:aA l [44] k1
      ·exact⟨ks++[v],k1,true,h1,Or.inr ⟨rfl,rfl⟩,hend k1 _⟩
      ·exact ih m (ks++[v]) (k1+1) (by omega) (cU hL h1 ju) (by rw[aE,List.length_singleton];omega)
    ·exact⟨ks++[v],k1+1,false,cU hL h1 hc,Or.inl ⟨rfl,rfl⟩,rfl⟩
   ·rw[q1];subst q2;refine⟨ks++[v],k1,true,h1,Or.inr ⟨rfl,rfl⟩,?_⟩;simp only[b9,cJ,al];cases decide ((6:Int)<=(((ks++[v]).length:Nat):Int))<;>exact hend k1 _
  obtain⟨v1,k1,b1,h1,a1,e1,-⟩:=vR hL hT hk false;obtain⟨k2,b2,h2,a2,e2⟩:=kV hL h1 [58] b1;obtain⟨v3,k3,b3,h3,a3,e3⟩:=K0 hL hT h2 b2;refine fin (aV.mk v1 v3) k3 b3 h3 (At.bind (r:=gi l k) a1 (a2.bG (a3.bG (At.ret _ _ _)))) ?_;rw[M.nH];simp only[iN,bo,ad,e1,e2,e3,fC hL h3 [41] b3,ak,an,dH (show ks.length<=1000 by omega),aj,bj,aa.bX];cases hc:(!b3&&aA l [41] k3)
  ·simp only[al,me hL h3,ak,an,aj,ad]
  ·simp only[ad,jE,jF,iN]
theorem af8{l:List af}(hL:bW l)(hT:∀t∈l,t.Text.length<=30000)(P N V:List UInt8):∀(f m:Nat)(ks:List aX)(k:Nat),m+1<f->k<l.length->ks.length+(m+1)=16->
 ∃vs k' b',k'<l.length/\At (md l (kW l) [125] m ks k) vs k' b'/\M.mi 0 [] 0 [] false [] [] [] 4 [] 0 [] false P N V [] [] [] [] [] [] [] f (sp l k false) ks=some (l,(k':Int),b',0,[],0,[],false,[],[],[],4,[],0,[],false,P,N,V,[],[],[],[],[],[],[],vs):=by
 intro f
 induction f with
 |zero=>intro m ks k h;omega
 |succ f ih=>
  intro m ks k hf hk hks;obtain⟨f',rfl⟩:∃f',f=f'+1:=⟨f-1,by omega⟩;have hend:∀(k:Nat)(xs:List aX),M.mi 0 [] 0 [] false [] [] [] 4 [] 0 [] false P N V [] [] [] [] [] [] [] (f'+1) (sp l k true) xs=some (l,(k:Int),true,0,[],0,[],false,[],[],[],4,[],0,[],false,P,N,V,[],[],[],[],[],[],[],xs):=fun k xs=>by
   rw[M.mi];rfl
  have fin:∀(v:aX)(k1:Nat)(b1:Bool),k1<l.length->At (kW l k) v k1 b1->
   M.mi 0 [] 0 [] false [] [] [] 4 [] 0 [] false P N V [] [] [] [] [] [] [] (f'+1+1) (sp l k false) ks=(bif !b1&&aA l [125] k1 then some (l,((k1+1:Nat):Int),b1,0,[],0,[],false,[],[],[],4,[],0,[],false,P,N,V,[],[],[],[],[],[],[],ks++[v])
     else M.mi 0 [] 0 [] false [] [] [] 4 [] 0 [] false P N V [] [] [] [] [] [] [] (f'+1) (bif decide ((16:Int)<=(((ks++[v]).length:Nat):Int))then sp l k1 true else bif !b1&&aA l [44] k1 then sp l (k1+1) b1 else sp l k1 true) (ks++[v]))->
   ∃vs k' b',k'<l.length/\At (md l (kW l) [125] m ks k) vs k' b'/\M.mi 0 [] 0 [] false [] [] [] 4 [] 0 [] false P N V [] [] [] [] [] [] [] (f'+1+1) (sp l k false) ks=some (l,(k':Int),b',0,[],0,[],false,[],[],[],4,[],0,[],false,P,N,V,[],[],[],[],[],[],[],vs):=by
   intro v k1 b1 h1 a1 e1;rw[e1,md];rcases a1 with⟨q1,q2⟩|⟨q1,q2⟩
   ·rw[q1];subst q2;simp only[bo,bj];cases hc:aA l [125] k1
    ·simp only[al];have hlen:(((ks++[v]).length:Nat):Int)=(16:Int)-(m:Int):=by rw[aE,List.length_singleton];omega
     cases m with
     |zero=>
      rw[cN (show(16:Int)<=(((ks++[v]).length:Nat):Int) by omega)];exact⟨ks++[v],k1,true,h1,Or.inr ⟨rfl,rfl⟩,hend k1 _⟩
     |succ m=>
      rw[cY (show ¬(16:Int)<=(((ks++[v]).length:Nat):Int) by omega)];simp only[al];cases ju:aA l [44] k1
      ·exact⟨ks++[v],k1,true,h1,Or.inr ⟨rfl,rfl⟩,hend k1 _⟩
      ·exact ih m (ks++[v]) (k1+1) (by omega) (cU hL h1 ju) (by rw[aE,List.length_singleton];omega)
    ·exact⟨ks++[v],k1+1,false,cU hL h1 hc,Or.inl ⟨rfl,rfl⟩,rfl⟩
   ·rw[q1];subst q2;refine⟨ks++[v],k1,true,h1,Or.inr ⟨rfl,rfl⟩,?_⟩;simp only[b9,cJ,al];cases decide ((16:Int)<=(((ks++[v]).length:Nat):Int))<;>exact hend k1 _
  obtain⟨v1,k1,b1,h1,a1,e1,-⟩:=EO hL hT hk false;cases h47:(!b1&&aA l [97,115] k1)
  ·refine fin (aX.mk v1 []) k1 b1 h1 (At.bind (r:=kS l k) a1 ?_) ?_
   ·rw[nE h47];exact At.ret _ _ _
   ·rw[M.mi];simp only[iN,bo,ad,e1,fC hL h1 [97,115] b1,h47,al,fC hL h1 [125] b1,ak,an,dH (show ks.length<=1000 by omega),aj,bj];cases hc:(!b1&&aA l [125] k1)
    ·simp only[al,me hL h1,ak,an,aj,ad]
    ·simp only[ad,jE,jF,iN]
  ·obtain⟨h2,hb⟩:=nF hL h1 h47;subst hb;obtain⟨v3,k3,b3,h3,a3,e3,-⟩:=EO hL hT h2 false;refine fin (aX.mk v1 v3) k3 b3 h3 (At.bind (r:=kS l k) a1 ?_) ?_
   ·rw[mf h47];exact At.bind a3 (At.ret _ _ _)
   ·rw[M.mi];have ht:M.dJ [97,115] (sp l k1 false)=some (true,sp l (k1+1) false):=by rw[fC hL h1,h47];rfl
    simp only[iN,bo,ad,e1,ht,e3,fC hL h3 [125] b3,ak,an,dH (show ks.length<=1000 by omega),aj,bj];cases hc:(!b3&&aA l [125] k3)
    ·simp only[al,me hL h3,ak,an,aj,ad]
    ·simp only[ad,jE,jF,iN]
end M
