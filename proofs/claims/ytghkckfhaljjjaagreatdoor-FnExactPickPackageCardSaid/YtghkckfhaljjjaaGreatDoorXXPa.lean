/-
  TOKENS: white space, words and numbers, as both lexers read them.
-/
import Derived.Test.YtghkckfhaljjjaaGreatDoorXYCM
import Derived.Test.YtghkckfhaljjjaaGreatDoorXXplA
import Derived.Test.YtghkckfhaljjjaaGreatDoorXXTF
set_option linter.unusedVariables false
set_option linter.unusedSimpArgs false
namespace M
open Go.V (inB cg ad bz)
def ic(c:UInt8):Bool:=decide ((97:Int)<=(c.toNat:Int))&&decide ((c.toNat:Int)<=122)
def fw(c:UInt8):Bool:=decide ((48:Int)<=(c.toNat:Int))&&decide ((c.toNat:Int)<=57)
def hd(l:List UInt8):UInt8:=l.getD 0 0
def fQ:List UInt8->Nat
 |[]=>0
 |c::r=>if(c.toNat:Int)=10 then 0 else fQ r+1
def cF:Bool->List UInt8->Int->Nat×Int
 |_,[],l=>(0,l)
 |true,c::r,l=>if(c.toNat:Int)=10 then((cF false r (l+1)).1+1,(cF false r (l+1)).2)else((cF true r l).1+1,(cF true r l).2)
 |false,c::r,l=>if(c.toNat:Int)=10 then((cF false r (l+1)).1+1,(cF false r (l+1)).2)else if(c.toNat:Int)=32 then((cF false r l).1+1,(cF false r l).2)
   else if(c.toNat:Int)=47/\r≠[]/\((hd r).toNat:Int)=47 then((cF true r l).1+1,(cF true r l).2)else(0,l)
theorem K8:∀(l:List UInt8)(n:Int),cF true l n=((cF false (l.drop (fQ l)) n).1+fQ l,(cF false (l.drop (fQ l)) n).2)
 |[],n=>rfl
 |c::r,n=>by
  unfold cF fQ;by_cases h:(c.toNat:Int)=10
  ·rw[aY h,aY h,lR];simp only[cF,aY h,Nat.add_zero]
  ·rw[aT h,aT h,List.drop_succ_cons,K8 r n];simp only[oh];cases r.drop (fQ r)<;>rfl
theorem qk:∀(b:Bool)(l:List UInt8)(n:Int),(cF b l n).1<=l.length/\n<=(cF b l n).2/\(cF b l n).2<=n+(l.length:Int)
 |b,[],n=>by cases b<;>simp[cF]
 |true,c::r,n=>by
  unfold cF;have h1:=qk false r (n+1);have h2:=qk true r n;split
  ·simp only[ak];omega
  ·simp only[ak];omega
 |false,c::r,n=>by
  unfold cF;have h1:=qk false r (n+1);have h2:=qk true r n;have h3:=qk false r n;split
  ·simp only[ak];omega
  ·split
   ·simp only[ak];omega
   ·split
    ·simp only[ak];omega
    ·simp only[ak];omega
theorem K9:∀l:List UInt8,fQ l<=l.length
 |[]=>fh _
 |c::r=>by
  unfold fQ;have:=K9 r;split
  ·omega
  ·simp only[ak];omega
theorem ka{s:List UInt8}{a:Nat}(h:a<s.length):s.drop a=s[a]::s.drop (a+1):=rU h
theorem aha(s:List UInt8)(line:Int)(hs:s.length<=30000):∀f a,s.length-a<f->a<=s.length->M.wS s line f (a:Int)=some (s,((a+fQ (s.drop a):Nat):Int),line):=by
 intro f
 induction f with
 |zero=>intro a h;omega
 |succ f ih=>
  intro a h1 h2;rw[M.wS];rcases cP a s.length with h|h
  ·rw[ka h];unfold fQ;simp only[bw,getD_lt h,dD,kD,h,ed,bU,cq,dB,bZ h (by omega:s.length<2^62)];by_cases c:(s[a].toNat:Int)=10
   ·rw[show((s[a].toNat:Int) !=10)=false by rw[bne_eq_false_iff_eq];exact c,aY c];rfl
   ·rw[show((s[a].toNat:Int) !=10)=true by rw[yN];exact c,aT c,ae,ae,ih (a+1) (by omega) (by omega)];congr 4;omega
  ·rw[List.drop_eq_nil_of_le h];have e:decide ((a:Int)<((s.length:Nat):Int))=false:=by rw[fi];omega
   simp only[e,cL,aR,iz,al,ae,fQ,Nat.add_zero,df,dT,lg,bu,oj,cK];simp
def fD(s:List UInt8)(a:Nat)(line:Int):Int×Int:=(((a+(cF false (s.drop a) line).1:Nat):Int),(cF false (s.drop a) line).2)
theorem ahb(s:List UInt8)(hs:s.length<=30000):∀(f a:Nat)(line:Int),s.length-a<f->a<=s.length->0<=line->line+(s.length-a:Nat)<=100000->
 M.ql f s (a:Int) line=some (.inl (fD s a line))\/M.ql f s (a:Int) line=some (.inr (fD s a line)):=by
 intro f
 induction f with
 |zero=>intro a l h;omega
 |succ f ih=>
  intro a line h1 h2 h3 h4;rw[M.ql];rcases cP a s.length with h|h
  ·have w1:=bZ h (by omega:s.length<2^62);have w2:Go.IntKind.wrap .i64 (line+1)=line+1:=wrap_i64 (by omega) (by omega);unfold fD;rw[ka h];unfold cF;simp only[bw,getD_lt h,dD,kD,h,ed,bU,cq,dB,al,ae,w1,w2];by_cases c10:(s[a].toNat:Int)=10
   ·rw[show((s[a].toNat:Int)==10)=true from cK.2 c10,aY c10,ae];have:=ih (a+1) (line+1) (by omega) (by omega) (by omega) (by omega);unfold fD at this;rw[show a+1+(cF false (s.drop (a+1)) (line+1)).1=a+((cF false (s.drop (a+1)) (line+1)).1+1) by omega]at this;exact this
   ·rw[show((s[a].toNat:Int)==10)=false from cQ.2 c10,aT c10,aR];by_cases c32:(s[a].toNat:Int)=32
    ·rw[show((s[a].toNat:Int)==32)=true from cK.2 c32,aY c32,ae];have:=ih (a+1) line (by omega) (by omega) (by omega) (by omega);unfold fD at this;rw[show a+1+(cF false (s.drop (a+1)) line).1=a+((cF false (s.drop (a+1)) line).1+1) by omega]at this;exact this
    ·rw[show((s[a].toNat:Int)==32)=false from cQ.2 c32,aT c32,aR];have hcond:((((s[a].toNat:Int)==47)&&decide (a+1<s.length))&&(((s.getD (a+1) 0).toNat:Int)==47))=decide ((s[a].toNat:Int)=47/\s.drop (a+1)≠[]/\((hd (s.drop (a+1))).toNat:Int)=47):=by
      have e1:hd (s.drop (a+1))=s.getD (a+1) 0:=by
       unfold hd;rcases cP (a+1) s.length with q|q
       ·rw[ka q,getD_lt q];rfl
       ·rw[List.drop_eq_nil_of_le q];simp[List.getD,hZ q]
      have e2:(s.drop (a+1)≠[])↔a+1<s.length:=by
       rw[ne_eq,List.drop_eq_nil_iff];omega
      rw[e1,nc];simp only[cG,cK,bB,e2];constructor
      ·rintro ⟨⟨x,y⟩,z⟩;exact⟨x,y,z⟩
      ·rintro ⟨x,y,z⟩;exact⟨⟨x,y⟩,z⟩
     have hin:(decide (a+1<s.length)|| !((((s[a].toNat:Int)==47)&&decide (a+1<s.length))==true))=true:=by
      by_cases q:a+1<s.length
      ·simp[q]
      ·simp[q]
     rw[hcond];by_cases qm:(s[a].toNat:Int)=47/\s.drop (a+1)≠[]/\((hd (s.drop (a+1))).toNat:Int)=47
     ·rw[da qm,aY qm,ae,aha s line hs ad a (by have:=bz;omega) h2];simp only[hin,ae];have hcl:=K9 (s.drop a);rw[List.length_drop]at hcl;have hc1:fQ (s.drop a)=fQ (s.drop (a+1))+1:=by
       rw[ka h,fQ,aT (by omega)]
      have:=ih (a+fQ (s.drop a)) line (by omega) (by omega) h3 (by omega);have hk:fD s (a+fQ (s.drop a)) line=(((a+((cF true (s.drop (a+1)) line).1+1):Nat):Int),(cF true (s.drop (a+1)) line).2):=by
       unfold fD;rw[K8,hc1,yQ];rw[show a+(fQ (s.drop (a+1))+1)=a+1+fQ (s.drop (a+1)) by omega];congr 2;omega
      rw[hk]at this;exact this
     ·rw[cA qm,aT qm,aR];simp only[hin,ae];exact .inl rfl
  ·unfold fD;rw[List.drop_eq_nil_of_le h,cA (show ¬(a:Int)<((s.length:Nat):Int) by omega)];exact .inr rfl
theorem Ri(s:List UInt8)(hs:s.length<=30000)(a:Nat)(line:Int)(h2:a<=s.length)(h3:0<=line)(h4:line+(s.length-a:Nat)<=100000):M.uE s (a:Int) line=some (fD s a line):=by
 unfold M.uE;rcases ahb s hs ad a line (by have:=bz;omega) h2 h3 h4 with e|e<;>rw[e]
end M
namespace M
open Go.V (inB cg ad bz)
theorem ahc(s:List UInt8)(line:Int)(o:List ai)(hs:s.length<=30000):∀f a,s.length-a<f->a<=s.length->M.wT s line o f (a:Int)=some (s,((a+fQ (s.drop a):Nat):Int),line,o):=by
 intro f
 induction f with
 |zero=>intro a h;omega
 |succ f ih=>
  intro a h1 h2;rw[M.wT];rcases cP a s.length with h|h
  ·rw[ka h];unfold fQ;simp only[bw,getD_lt h,dD,kD,h,ed,bU,cq,dB,bZ h (by omega:s.length<2^62)];by_cases c:(s[a].toNat:Int)=10
   ·rw[show((s[a].toNat:Int) !=10)=false by rw[bne_eq_false_iff_eq];exact c,aY c];rfl
   ·rw[show((s[a].toNat:Int) !=10)=true by rw[yN];exact c,aT c,ae,ae,ih (a+1) (by omega) (by omega)];congr 4;omega
  ·rw[List.drop_eq_nil_of_le h];have e:decide ((a:Int)<((s.length:Nat):Int))=false:=by rw[fi];omega
   simp only[e,cL,aR,iz,al,ae,fQ,Nat.add_zero,df,dT,lg,bu,oj,cK];simp
theorem pre2(s:List UInt8)(hs:s.length<=30000)(a:Nat)(x y:UInt8)(h:a<s.length):
 M.strings_HasPrefix (List.drop a (List.take s.length s)) [x,y]=some (decide (s[a]=x/\s.drop (a+1)≠[]/\hd (s.drop (a+1))=y)):=by
 have e0:List.drop a (List.take s.length s)=s[a]::s.drop (a+1):=by
  rw[Du,ka h]
 rw[e0];unfold M.strings_HasPrefix M.Ej;generalize s[a]=c;cases hd0:s.drop (a+1)with
 |nil=>simp[cg]
 |cons d r=>
  have e1:decide ((([x,y].length:Nat):Int)<=(((c::d::r).length:Nat):Int))=true:=by rw[bB];simp only[ak,bf];omega
  have e2:cg 0 (([x,y].length:Nat):Int) (c::d::r).length=true:=by
   unfold cg;simp only[cG,bB];simp only[ak,bf];omega
  simp only[e1,e2,cq,al,ae,bU,aB,ay];congr 1;rw[nc,cK,bB];show[c,d]=[x,y]↔_
  simp[hd]
theorem toNat_eq{a b:UInt8}:(a.toNat:Int)=(b.toNat:Int)↔a=b:=by
 rw[Int.ofNat_inj];exact UInt8.toNat_inj
theorem ahd(s:List UInt8)(o:List ai)(hs:s.length<=30000):∀(f a:Nat)(line:Int),s.length-a<f->a<=s.length->0<=line->line+(s.length-a:Nat)<=100000->
 M.qn f s (a:Int) line o=some (.inl (s,(fD s a line).1,(fD s a line).2,o))\/M.qn f s (a:Int) line o=some (.inr (s,(fD s a line).1,(fD s a line).2,o)):=by
 intro f
 induction f with
 |zero=>intro a l h;omega
 |succ f ih=>
  intro a line h1 h2 h3 h4;rw[M.qn];rcases cP a s.length with h|h
  ·have w1:=bZ h (by omega:s.length<2^62);have w2:Go.IntKind.wrap .i64 (line+1)=line+1:=wrap_i64 (by omega) (by omega);have hp:=pre2 s hs a 47 47 h;have hsl:cg (a:Int) ((s.length:Nat):Int) s.length=true:=by unfold cg;simp only[cG,bB];omega
   unfold fD;rw[ka h];unfold cF;simp only[hp,hsl,bw,getD_lt h,dD,kD,h,ed,bU,cq,dB,al,ae,w1,w2,ay,aB];by_cases c10:(s[a].toNat:Int)=10
   ·rw[show((s[a].toNat:Int)==10)=true from cK.2 c10,aY c10,ae];have:=ih (a+1) (line+1) (by omega) (by omega) (by omega) (by omega);unfold fD at this;rw[show a+1+(cF false (s.drop (a+1)) (line+1)).1=a+((cF false (s.drop (a+1)) (line+1)).1+1) by omega]at this;exact this
   ·rw[show((s[a].toNat:Int)==10)=false from cQ.2 c10,aT c10,aR];by_cases c32:(s[a].toNat:Int)=32
    ·rw[show((s[a].toNat:Int)==32)=true from cK.2 c32,aY c32,ae];have:=ih (a+1) line (by omega) (by omega) (by omega) (by omega);unfold fD at this;rw[show a+1+(cF false (s.drop (a+1)) line).1=a+((cF false (s.drop (a+1)) line).1+1) by omega]at this;exact this
    ·rw[show((s[a].toNat:Int)==32)=false from cQ.2 c32,aT c32,aR];have hcond:decide (s[a]=47/\s.drop (a+1)≠[]/\hd (s.drop (a+1))=47)=decide ((s[a].toNat:Int)=47/\s.drop (a+1)≠[]/\((hd (s.drop (a+1))).toNat:Int)=47):=by
      rw[kA];have e1:((s[a].toNat:Int)=47)↔s[a]=47:=toNat_eq (b:=47);have e2:(((hd (s.drop (a+1))).toNat:Int)=47)↔hd (s.drop (a+1))=47:=toNat_eq (b:=47);rw[e1,e2]
     rw[hcond];by_cases qm:(s[a].toNat:Int)=47/\s.drop (a+1)≠[]/\((hd (s.drop (a+1))).toNat:Int)=47
     ·rw[da qm,aY qm,ae,ahc s line o hs ad a (by have:=bz;omega) h2];simp only[ae];have hcl:=K9 (s.drop a);rw[List.length_drop]at hcl;have hc1:fQ (s.drop a)=fQ (s.drop (a+1))+1:=by
       rw[ka h,fQ,aT (by omega)]
      have:=ih (a+fQ (s.drop a)) line (by omega) (by omega) h3 (by omega);have hk:fD s (a+fQ (s.drop a)) line=(((a+((cF true (s.drop (a+1)) line).1+1):Nat):Int),(cF true (s.drop (a+1)) line).2):=by
       unfold fD;rw[K8,hc1,yQ];rw[show a+(fQ (s.drop (a+1))+1)=a+1+fQ (s.drop (a+1)) by omega];congr 2;omega
      rw[hk]at this;exact this
     ·rw[cA qm,aT qm,aR];simp only[ae];exact .inl rfl
  ·unfold fD;rw[List.drop_eq_nil_of_le h,cA (show ¬(a:Int)<((s.length:Nat):Int) by omega)];exact .inr rfl
theorem Rj(s:List UInt8)(o:List ai)(hs:s.length<=30000)(a:Nat)(line:Int)(h2:a<=s.length)(h3:0<=line)(h4:line+(s.length-a:Nat)<=100000):M.uF s (a:Int) line o=some (s,(fD s a line).1,(fD s a line).2,o):=by
 unfold M.uF;rcases ahd s o hs ad a line (by have:=bz;omega) h2 h3 h4 with e|e<;>rw[e]
def iP:List UInt8->Nat
 |[]=>0
 |c::r=>if(ic c||fw c)||((decide ((c.toNat:Int)=45)&&decide (r≠[]))&&(ic (hd r)||fw (hd r)))then iP r+1 else 0
def iI:List UInt8->Nat
 |[]=>0
 |c::r=>if fw c||((decide ((c.toNat:Int)=46)&&decide (r≠[]))&&fw (hd r))then iI r+1 else 0
theorem La:∀l:List UInt8,iP l<=l.length
 |[]=>fh _
 |c::r=>by
  unfold iP;have:=La r;split
  ·simp only[ak];omega
  ·omega
theorem Lc:∀l:List UInt8,iI l<=l.length
 |[]=>fh _
 |c::r=>by
  unfold iI;have:=Lc r;split
  ·simp only[ak];omega
  ·omega
theorem zu(s:List UInt8)(a:Nat):hd (s.drop (a+1))=s.getD (a+1) 0:=by
 unfold hd;rcases cP (a+1) s.length with q|q
 ·rw[ka q,getD_lt q];rfl
 ·rw[List.drop_eq_nil_of_le q];simp[List.getD,hZ q]
theorem Ek(s:List UInt8)(a:Nat):decide (s.drop (a+1)≠[])=decide (a+1<s.length):=by
 rw[kA,ne_eq,List.drop_eq_nil_iff];omega
theorem ahe(s:List UInt8)(hs:s.length<=30000):∀(f a:Nat),s.length-a<f->a<=s.length->
 M.uG s f (a:Int)=some (.inl ((a+iP (s.drop a):Nat):Int))\/M.uG s f (a:Int)=some (.inr ((a+iP (s.drop a):Nat):Int)):=by
 intro f
 induction f with
 |zero=>intro a h;omega
 |succ f ih=>
  intro a h1 h2;rw[M.uG];rcases cP a s.length with h|h
  ·have w1:=bZ h (by omega:s.length<2^62);rw[ka h];unfold iP;rw[zu,Ek];simp only[bw,getD_lt h,dD,kD,h,ed,bU,cq,dB,al,ae,w1];have eL:∀c:UInt8,(decide ((97:Int)<=(c.toNat:Int))&&decide ((c.toNat:Int)<=122))=ic c:=fun c=>rfl
   have eD:∀c:UInt8,(decide ((48:Int)<=(c.toNat:Int))&&decide ((c.toNat:Int)<=57))=fw c:=fun c=>rfl
   simp only[eL,eD];have e45:((s[a].toNat:Int)==45)=decide ((s[a].toNat:Int)=45):=by rw[nc,cK,bB]
   rw[e45];have ih':=ih (a+1) (by omega) (by omega);rw[show a+1+iP (s.drop (a+1))=a+(iP (s.drop (a+1))+1) by omega]at ih';generalize s.getD (a+1) 0=d;generalize decide (a+1<s.length)=b1;generalize decide ((s[a].toNat:Int)=45)=b2;cases ic s[a]<;>cases fw s[a]<;>cases b1<;>cases b2<;>cases ic d<;>cases fw d<;>first|exact ih'|exact .inl rfl
  ·rw[List.drop_eq_nil_of_le h,cA (show ¬(a:Int)<((s.length:Nat):Int) by omega)];exact .inr rfl
theorem ahf(s:List UInt8)(hs:s.length<=30000):∀(f a:Nat),s.length-a<f->a<=s.length->
 M.uH s f (a:Int)=some (.inl ((a+iI (s.drop a):Nat):Int))\/M.uH s f (a:Int)=some (.inr ((a+iI (s.drop a):Nat):Int)):=by
 intro f
 induction f with
 |zero=>intro a h;omega
 |succ f ih=>
  intro a h1 h2;rw[M.uH];rcases cP a s.length with h|h
  ·have w1:=bZ h (by omega:s.length<2^62);rw[ka h];unfold iI;rw[zu,Ek];simp only[bw,getD_lt h,dD,kD,h,ed,bU,cq,dB,al,ae,w1];have eD:∀c:UInt8,(decide ((48:Int)<=(c.toNat:Int))&&decide ((c.toNat:Int)<=57))=fw c:=fun c=>rfl
   simp only[eD];have e45:((s[a].toNat:Int)==46)=decide ((s[a].toNat:Int)=46):=by rw[nc,cK,bB]
   rw[e45];have ih':=ih (a+1) (by omega) (by omega);rw[show a+1+iI (s.drop (a+1))=a+(iI (s.drop (a+1))+1) by omega]at ih';generalize s.getD (a+1) 0=d;generalize decide (a+1<s.length)=b1;generalize decide ((s[a].toNat:Int)=46)=b2;cases fw s[a]<;>cases b1<;>cases b2<;>cases fw d<;>first|exact ih'|exact .inl rfl
  ·rw[List.drop_eq_nil_of_le h,cA (show ¬(a:Int)<((s.length:Nat):Int) by omega)];exact .inr rfl
theorem ahg(s:List UInt8)(hs:s.length<=30000)(a:Nat)(h2:a<=s.length):M.zw s (a:Int)=some ((a+iP (s.drop a):Nat):Int):=by
 unfold M.zw;rcases ahe s hs ad a (by have:=bz;omega) h2 with e|e<;>rw[e]
theorem ahh(s:List UInt8)(hs:s.length<=30000)(a:Nat)(h2:a<=s.length):M.zx s (a:Int)=some ((a+iI (s.drop a):Nat):Int):=by
 unfold M.zx;rcases ahf s hs ad a (by have:=bz;omega) h2 with e|e<;>rw[e]
end M
namespace M
open Go.V (inB cg ad bz)
theorem ahi(s:List UInt8)(x2 x3:Int)(o:List ai)(hs:s.length<=30000)(a:Nat):M.zy (iv.mk s x2 x3 o) (a:Int)=some ((s.getD a 0).toNat:Int):=by
 unfold M.zy;by_cases h:a<s.length
 ·have e:decide (((s.length:Nat):Int)<=(a:Int))=false:=by rw[fi];omega
  have e2:inB (a:Int) s.length=true:=by rw[dD];simpa using h
  simp only[e,e2,aR,al,ae,bw]
 ·have e:decide (((s.length:Nat):Int)<=(a:Int))=true:=by rw[bB];omega
  rw[show s.getD a 0=0 by simp[List.getD,hZ (Nat.le_of_not_lt h)]];simp only[e,ae];rfl
theorem ahj:ic 0=false:=by decide
theorem ahk:fw 0=false:=by decide
def wU(word:Bool)(l:List UInt8):Nat:=bif word then iP l else iI l
theorem getD_none{s:List UInt8}{a:Nat}(h:¬a<s.length):s.getD a 0=0:=by simp[List.getD,hZ (Nat.le_of_not_lt h)]
theorem ahl(s:List UInt8)(x2 x3:Int)(o:List ai)(word:Bool)(hs:s.length<=30000):∀(f a:Nat),s.length-a<f->a<=s.length->
 M.wV (iv.mk s x2 x3 o) word f (a:Int)=some ((a+wU word (s.drop a):Nat):Int):=by
 intro f
 induction f with
 |zero=>intro a h;omega
 |succ f ih=>
  intro a h1 h2;rw[M.wV];rcases cP a s.length with h|h
  ·have w1:=bZ h (by omega:s.length<2^62);rw[ka h];have ih':=ih (a+1) (by omega) (by omega);have eL:∀c:UInt8,(decide ((97:Int)<=(c.toNat:Int))&&decide ((c.toNat:Int)<=122))=ic c:=fun c=>rfl
   have eD:∀c:UInt8,(decide ((48:Int)<=(c.toNat:Int))&&decide ((c.toNat:Int)<=57))=fw c:=fun c=>rfl
   simp only[w1,ahi s x2 x3 o hs,ay,aB,bw,getD_lt h,dD,kD,h,ed,bU,dB,al,ae,eL,eD];have e45:((s[a].toNat:Int)==45)=decide ((s[a].toNat:Int)=45):=by rw[nc,cK,bB]
   have e46:((s[a].toNat:Int)==46)=decide ((s[a].toNat:Int)=46):=by rw[nc,cK,bB]
   rw[e45,e46];have hz:¬a+1<s.length->ic (s.getD (a+1) 0)=false/\fw (s.getD (a+1) 0)=false:=fun q=>by rw[getD_none q];exact⟨ahj,ahk⟩
   have hz1:decide (a+1<s.length)=false->ic (s.getD (a+1) 0)=false/\fw (s.getD (a+1) 0)=false:=fun q=>hz (by simpa using q)
   cases word
   ·simp only[wU,aR]at ih'⊢;rw[show a+1+iI (s.drop (a+1))=a+(iI (s.drop (a+1))+1) by omega]at ih';unfold iI;rw[zu,Ek];generalize s.getD (a+1) 0=d at*;generalize decide (a+1<s.length)=b1 at*;generalize decide ((s[a].toNat:Int)=46)=b2;cases b1
    ·rw[(hz1 rfl).2];cases fw s[a]<;>cases b2<;>first|exact ih'|rfl
    ·cases fw s[a]<;>cases b2<;>cases fw d<;>first|exact ih'|rfl
   ·simp only[wU,ae]at ih'⊢;rw[show a+1+iP (s.drop (a+1))=a+(iP (s.drop (a+1))+1) by omega]at ih';unfold iP;rw[zu,Ek];generalize s.getD (a+1) 0=d at*;generalize decide (a+1<s.length)=b1 at*;generalize decide ((s[a].toNat:Int)=45)=b2;cases b1
    ·rw[(hz1 rfl).1,(hz1 rfl).2];cases ic s[a]<;>cases fw s[a]<;>cases b2<;>first|exact ih'|rfl
    ·cases ic s[a]<;>cases fw s[a]<;>cases b2<;>cases ic d<;>cases fw d<;>first|exact ih'|rfl
  ·rw[List.drop_eq_nil_of_le h,cA (show ¬(a:Int)<((s.length:Nat):Int) by omega)];cases word<;>rfl
theorem ahm(s:List UInt8)(x2 x3:Int)(o:List ai)(hs:s.length<=30000)(a:Nat)(h:a<s.length):M.wW (iv.mk s x2 x3 o) (a:Int)=some ((a+1+wU (ic s[a]) (s.drop (a+1)):Nat):Int):=by
 unfold M.wW;have w1:=bZ h (by omega:s.length<2^62);have eL:(decide ((97:Int)<=(s[a].toNat:Int))&&decide ((s[a].toNat:Int)<=122))=ic s[a]:=rfl;have e:=ahl s x2 x3 o (ic s[a]) hs ad (a+1) (by have:=bz;omega) (by omega);have hin:inB (a:Int) s.length=true:=by rw[dD];simpa using h
 simp only[bw,getD_lt h,eL,w1,e,hin,al,ae]
def rV:List UInt8:=[123,125,40,41,60,62,44,59,58,61,46,47,64,95]
def isS(c:UInt8):Bool:=rV.any fun x=>x==c
theorem Rk:∀(l:List UInt8)(c:UInt8),decide ((0:Int)<=Go.Lib.indexByte l c)=l.any fun x=>x==c
 |[],c=>rfl
 |b::l,c=>by
  have ih:=Rk l c;have hg:=Go.Lib.indexByte_ge l c;unfold Go.Lib.indexByte;rw[List.any_cons,<-ih];cases hb:(b==c)
  ·rw[aT (by simp),mm];by_cases h:Go.Lib.indexByte l c= -1
   ·rw[aY (by rw[h];rfl),h]
   ·rw[aT (by rw[cK];exact h),da (by omega),da (by omega)]
  ·rw[aY rfl];rfl
theorem ahn(c:UInt8):decide ((0:Int)<=M.zt [(123:UInt8),(125:UInt8),(40:UInt8),(41:UInt8),(60:UInt8),(62:UInt8),(44:UInt8),(59:UInt8),(58:UInt8),(61:UInt8),(46:UInt8),(47:UInt8),(64:UInt8),(95:UInt8)] ((c.toNat:Nat):Int))=isS c:=by
 unfold M.zt isS rV;rw[bw,show c.toNat.toUInt8=c from UInt8.ofNat_toNat];exact Rk _ c
theorem aho(c:UInt8):M.zz ((c.toNat:Nat):Int)=some (isS c):=by
 have e:=Ld (p:=fun x:UInt8=>x==c) (F:=M.rW ((c.toNat:Nat):Int) rV) (e:=()) (fun _=>true) rV (by decide) (fun f k hk=>by
  rw[M.rW];have hb:(((rV[k].toNat:Nat):Int)==((c.toNat:Nat):Int))=(rV[k]==c):=by
   rw[nc,cK,cK];exact toNat_eq
  simp only[getD_lt hk,bw,dD,kD,hk,ed,ae,dB,hb,bZ hk (by decide:rV.length<2^62)]) (fun f=>by
  rw[M.rW];simp)
 unfold M.zz isS;rw[show M.rW ((c.toNat:Nat):Int) [(123:UInt8),(125:UInt8),(40:UInt8),(41:UInt8),(60:UInt8),(62:UInt8),(44:UInt8),(59:UInt8),(58:UInt8),(61:UInt8),(46:UInt8),(47:UInt8),(64:UInt8),(95:UInt8)] ad 0=_ from e,ahp];cases rV.findIdx? (fun x=>x==c)<;>rfl
def gk(c:UInt8)(r:List UInt8):Int×Nat:=
 bif ic c then(1,1+iP r)else bif fw c then(2,1+iI r)else bif decide (c=45/\r≠[]/\hd r=62)then(3,2)else bif isS c then(3,1)else(0,0)
theorem Rl(c:UInt8)(r:List UInt8):(gk c r).2<=1+r.length:=by
 unfold gk;have h1:=La r;have h2:=Lc r;cases ic c
 ·cases fw c
  ·cases hc:decide (c=45/\r≠[]/\hd r=62)
   ·cases isS c<;>simp
   ·rw[bB]at hc;have:0<r.length:=List.length_pos_iff.2 hc.2.1;simp only[aR,ae];omega
  ·simp only[aR,ae];omega
 ·simp only[ae];omega
theorem Le(c:UInt8)(r:List UInt8)(h:(gk c r).1≠0):1<=(gk c r).2:=by
 unfold gk at h⊢;cases h1:ic c
 ·cases h2:fw c
  ·cases hc:decide (c=45/\r≠[]/\hd r=62)
   ·cases hS:isS c
    ·rw[h1,h2,hc,hS]at h;exact(h rfl).elim
    ·simp
   ·simp
  ·simp
 ·simp
theorem ahq(s:List UInt8)(x3:Int)(o:List ai)(hs:s.length<=30000)(a:Nat)(h:a<s.length):
 M.zA (iv.mk s (a:Int) x3 o)=some ((gk s[a] (s.drop (a+1))).1,bif(gk s[a] (s.drop (a+1))).1==0 then 0 else((a+(gk s[a] (s.drop (a+1))).2:Nat):Int)):=by
 unfold M.zA gk;have eL:(decide ((97:Int)<=(s[a].toNat:Int))&&decide ((s[a].toNat:Int)<=122))=ic s[a]:=rfl;have eD:(decide ((48:Int)<=(s[a].toNat:Int))&&decide ((s[a].toNat:Int)<=57))=fw s[a]:=rfl;have hin:inB (a:Int) s.length=true:=by rw[dD];simpa using h
 have hp:=pre2 s hs a 45 62 h;have hsl:cg (a:Int) ((s.length:Nat):Int) s.length=true:=by unfold cg;simp only[cG,bB];omega
 have w1:=bZ h (by omega:s.length<2^62);have w2:Go.IntKind.wrap .i64 ((a:Int)+2)=((a+2:Nat):Int):=by rw[wrap_i64 (by omega) (by omega)];omega
 simp only[bw,getD_lt h,eL,eD,ahm s _ x3 o hs a h,hp,hsl,hin,w1,w2,ahn,ay,aB,al,ae];cases hl:ic s[a]
 ·cases hd':fw s[a]
  ·simp only[aR];cases decide (s[a]=45/\s.drop (a+1)≠[]/\hd (s.drop (a+1))=62)
   ·cases isS s[a]<;>rfl
   ·rfl
  ·simp only[aR,ae,wU];rw[show a+1+iI (s.drop (a+1))=a+(1+iI (s.drop (a+1))) by omega];rfl
 ·simp only[ae,wU];rw[show a+1+iP (s.drop (a+1))=a+(1+iP (s.drop (a+1))) by omega];rfl
def nz(s:List UInt8)(a n:Nat):List UInt8:=(s.drop a).take n
theorem Em(s:List UInt8)(a n:Nat):List.drop a (List.take (a+n) s)=nz s a n:=by
 unfold nz;rw[List.drop_take];congr 1;omega
theorem ahr(s:List UInt8)(hs:s.length<=30000)(a:Nat)(h:a<s.length):
 M.zB s (a:Int)=some (bif(gk s[a] (s.drop (a+1))).1==0 then(ai.mk 0 [] 0,0)else(ai.mk (gk s[a] (s.drop (a+1))).1 (nz s a (gk s[a] (s.drop (a+1))).2) 0,((a+(gk s[a] (s.drop (a+1))).2:Nat):Int))):=by
 unfold M.zB gk;have eL:(decide ((97:Int)<=(s[a].toNat:Int))&&decide ((s[a].toNat:Int)<=122))=ic s[a]:=rfl;have eD:(decide ((48:Int)<=(s[a].toNat:Int))&&decide ((s[a].toNat:Int)<=57))=fw s[a]:=rfl;have hin:inB (a:Int) s.length=true:=by rw[dD];simpa using h
 have w1:=bZ h (by omega:s.length<2^62);have w2:Go.IntKind.wrap .i64 ((a:Int)+2)=((a+2:Nat):Int):=by rw[wrap_i64 (by omega) (by omega)];omega
 have hw:=ahg s hs a (by omega);have hn:=ahh s hs a (by omega);simp only[bw,getD_lt h,eL,eD,hin,hw,hn,w1,w2,aho,ay,aB,al,ae];have hlen:(s.drop (a+1)).length=s.length-(a+1):=List.length_drop;cases hl:ic s[a]
 ·cases hd':fw s[a]
  ·simp only[aR];have hcond:(((((s[a].toNat:Nat):Int)==45)&&decide (((a+1:Nat):Int)<((s.length:Nat):Int)))&&((((s.getD (a+1) 0).toNat:Nat):Int)==62))=decide (s[a]=45/\s.drop (a+1)≠[]/\hd (s.drop (a+1))=62):=by
    have e1:((s[a].toNat:Int)=45)↔s[a]=45:=toNat_eq (b:=45);have e3:(((s.getD (a+1) 0).toNat:Int)=62)↔s.getD (a+1) 0=62:=toNat_eq (b:=62);have e2:(s.drop (a+1)≠[])↔a+1<s.length:=by
     rw[ne_eq,List.drop_eq_nil_iff];omega
    rw[zu,nc];simp only[cG,cK,bB,e1,e2,e3,kD];constructor
    ·rintro ⟨⟨x,y⟩,z⟩;exact⟨x,y,z⟩
    ·rintro ⟨x,y,z⟩;exact⟨⟨x,y⟩,z⟩
   have hin2:(inB ((a+1:Nat):Int) s.length|| !(((((s[a].toNat:Nat):Int)==45)&&decide (((a+1:Nat):Int)<((s.length:Nat):Int)))==true))=true:=by
    rw[dD];by_cases q:a+1<s.length
    ·simp[q]
    ·have:decide (((a+1:Nat):Int)<(s.length:Int))=false:=by rw[fi];omega
     rw[this,Bool.and_false];simp
   have hsl1:cg (a:Int) ((a+1:Nat):Int) s.length=true:=by unfold cg;simp only[cG,bB];omega
   rw[hcond,hin2,hsl1];cases hc:decide (s[a]=45/\s.drop (a+1)≠[]/\hd (s.drop (a+1))=62)with
   |false=>
    cases isS s[a]
    ·rfl
    ·rw[Em];rfl
   |true=>
    rw[bB]at hc;have hT:nz s a 2=[45,62]:=by
     unfold nz;rw[ka h,hc.1];cases hq:s.drop (a+1)with
     |nil=>exact absurd hq hc.2.1
     |cons d r=>
      have:=hc.2.2;rw[hq]at this;show(45:UInt8)::[d]=[45,62]
      rw[show d=62 from this]
    simp only[ae,hT];rfl
  ·simp only[aR,ae];have e:iI (s.drop a)=1+iI (s.drop (a+1)):=by
    rw[ka h,iI,aY (by rw[hd',cq])];omega
   have hle:=Lc (s.drop (a+1));have hsl:cg (a:Int) ((a+(1+iI (s.drop (a+1))):Nat):Int) s.length=true:=by unfold cg;simp only[cG,bB];omega
   rw[e,hsl,Em];rfl
 ·simp only[ae];have e:iP (s.drop a)=1+iP (s.drop (a+1)):=by
   rw[ka h,iP,aY (by rw[hl,cq,cq])];omega
  have hle:=La (s.drop (a+1));have hsl:cg (a:Int) ((a+(1+iP (s.drop (a+1))):Nat):Int) s.length=true:=by unfold cg;simp only[cG,bB];omega
  rw[e,hsl,Em];rfl
end M
namespace M
open Go.V (inB cg ad bz)
theorem uI:∀(b:Bool)(l:List UInt8)(n:Int),(cF b l n).2<=n+((cF b l n).1:Int)
 |b,[],n=>by cases b<;>simp[cF]
 |true,c::r,n=>by
  unfold cF;have h1:=uI false r (n+1);have h2:=uI true r n;split
  ·simp only;omega
  ·simp only;omega
 |false,c::r,n=>by
  unfold cF;have h1:=uI false r (n+1);have h2:=uI true r n;have h3:=uI false r n;split
  ·simp only;omega
  ·split
   ·simp only;omega
   ·split
    ·simp only;omega
    ·simp only;omega
def jv(s:List UInt8):Nat->Nat->Int->List ai->(Int×Int)⊕(Int×List ai)
 |0,_,_,_=>.inl (0,0)
 |n+1,a,line,out=>if a<s.length then
   if(gk (s.getD a 0) (s.drop (a+1))).1=0 then .inl (line,6)else if out.length=4000 then .inl (line,4)
   else jv s n (a+(gk (s.getD a 0) (s.drop (a+1))).2+(cF false (s.drop (a+(gk (s.getD a 0) (s.drop (a+1))).2)) line).1) (cF false (s.drop (a+(gk (s.getD a 0) (s.drop (a+1))).2)) line).2
    (out++[ai.mk (gk (s.getD a 0) (s.drop (a+1))).1 (nz s a (gk (s.getD a 0) (s.drop (a+1))).2) line])
  else .inr (line,out)
theorem ahs(s:List UInt8)(hs:s.length<=30000):∀(f a:Nat)(line:Int)(out:List ai),s.length-a<f->a<=s.length->0<=line->line<=50000+(a:Int)->out.length<=4000->
 M.wX s f (a:Int) line out=some (match jv s f a line out with
   |.inl x=>.inl (x.1,x.2,[])
   |.inr y=>.inr y):=by
 intro f
 induction f with
 |zero=>intro a l o h;omega
 |succ f ih=>
  intro a line out h1 h2 h3 h4 ho;rw[M.wX,jv];rcases cP a s.length with h|h
  ·rw[aY h,da (show(a:Int)<((s.length:Nat):Int) by omega),ae,ahr s hs a h,getD_lt h];have hle:=Rl s[a] (s.drop (a+1));have hpos:=Le s[a] (s.drop (a+1));rw[List.length_drop]at hle;generalize gk s[a] (s.drop (a+1))=x at*;by_cases hx:x.1=0
   ·rw[aY hx,show(x.1==0)=true from cK.2 hx];rfl
   ·have hp:=hpos hx;have hne:(((a+x.2:Nat):Int)==0)=false:=by rw[cQ];omega
    have hsk:=Ri s hs (a+x.2) line (by omega) h3 (by omega);have hcl:=qk false (s.drop (a+x.2)) line;have hcn:=uI false (s.drop (a+x.2)) line;rw[List.length_drop]at hcl;rw[aT hx,show(x.1==0)=false from cQ.2 hx];simp only[aR,ay,aB,hne,al,ae];by_cases mD:out.length=4000
    ·rw[aY mD,show(((out.length:Nat):Int)==4000)=true by rw[cK];omega];rfl
    ·rw[aT mD,show(((out.length:Nat):Int)==4000)=false by rw[cQ];omega];have hc:∀t:ai,decide (out.length+[t].length<=1073741824)=true:=fun t=>by rw[bB,List.length_singleton];omega
     simp only[aR,hsk,hc,ay,aB,al,ae];unfold fD;exact ih _ _ _ (by omega) (by omega) (by omega) (by omega) (by rw[aN,List.length_singleton];omega)
  ·rw[aT (by omega),cA (show ¬(a:Int)<((s.length:Nat):Int) by omega)];rfl
theorem aht(s:List UInt8)(hs:s.length<=30000):∀(f a:Nat)(line:Int)(out:List ai),s.length-a<f->a<=s.length->0<=line->line<=50000+(a:Int)->out.length<=4000->
 ∃a':Int,M.wY s f s (a:Int) line out=some (match jv s f a line out with
  |.inl x=>.inl (x.1,x.2)
  |.inr y=>.inr (s,a',y.1,y.2)):=by
 intro f
 induction f with
 |zero=>intro a l o h;omega
 |succ f ih=>
  intro a line out h1 h2 h3 h4 ho;rw[M.wY,jv];rcases cP a s.length with h|h
  ·rw[aY h,da (show(a:Int)<((s.length:Nat):Int) by omega),ae,ahq s line out hs a h,getD_lt h];have hle:=Rl s[a] (s.drop (a+1));have hpos:=Le s[a] (s.drop (a+1));rw[List.length_drop]at hle;generalize gk s[a] (s.drop (a+1))=x at*;by_cases hx:x.1=0
   ·rw[aY hx];simp only[ay,aB,show(x.1==0)=true from cK.2 hx,ae,al];exact⟨0,trivial⟩
   ·have hp:=hpos hx;have hsk:=Rj s (out++[ai.mk x.1 (nz s a x.2) line]) hs (a+x.2) line (by omega) h3 (by omega);have hcl:=qk false (s.drop (a+x.2)) line;have hcn:=uI false (s.drop (a+x.2)) line;rw[List.length_drop]at hcl;rw[aT hx];simp only[ay,aB,show(x.1==0)=false from cQ.2 hx,aR,ae,al];by_cases mD:out.length=4000
    ·rw[aY mD,show(((out.length:Nat):Int)==4000)=true by rw[cK];omega];exact⟨0,rfl⟩
    ·rw[aT mD,show(((out.length:Nat):Int)==4000)=false by rw[cQ];omega];have hc:∀t:ai,decide (out.length+[t].length<=1073741824)=true:=fun t=>by rw[bB,List.length_singleton];omega
     have hsl:cg (a:Int) ((a+x.2:Nat):Int) s.length=true:=by unfold cg;simp only[cG,bB];omega
     simp only[aR,bw,Em,hsk,hc,hsl,ay,aB,al,ae];unfold fD;exact ih _ _ _ (by omega) (by omega) (by omega) (by omega) (by rw[aN,List.length_singleton];omega)
  ·rw[aT (by omega),cA (show ¬(a:Int)<((s.length:Nat):Int) by omega)];exact⟨_,rfl⟩
theorem En(s:List UInt8):∀(f a:Nat)(line:Int)(out:List ai)(y:Int×List ai),out.length<=4000->jv s f a line out=.inr y->y.2.length<=4000
 |0,a,line,out,y,ho,h=>by cases h
 |f+1,a,line,out,y,ho,h=>by
  unfold jv at h;split at h
  ·split at h
   ·cases h
   ·split at h
    ·cases h
    ·exact En s f _ _ _ y (by rw[aN,List.length_singleton];omega) h
  ·cases h;exact ho
noncomputable def eA(s:List UInt8):List ai×Int×Int:=
 if 30000<s.length then([],0,4)else match jv s ad (cF false s 1).1 (cF false s 1).2 []with
  |.inl x=>([],x.1,x.2)
  |.inr y=>(y.2++[ai.mk 4 [] y.1],0,0)
theorem ahu(s:List UInt8):M.zC s=some (eA s):=by
 unfold M.zC eA;by_cases h:30000<s.length
 ·rw[aY h,da (show(30000:Int)<((s.length:Nat):Int) by omega)];rfl
 ·rw[aT h,cA (show ¬(30000:Int)<((s.length:Nat):Int) by omega)];have hsk:M.uE s 0 1=some (fD s 0 1):=Ri s (by omega) 0 1 (dN _) (by omega) (by omega);have hcl:=qk false s 1;have e:fD s 0 1=((((cF false s 1).1:Nat):Int),(cF false s 1).2):=by unfold fD;rw[lR,jq]
  have ht:=ahs s (by omega) ad (cF false s 1).1 (cF false s 1).2 [] (by have:=bz;omega) hcl.1 (by omega) (by omega) (by simp);have hlen:=En s ad (cF false s 1).1 (cF false s 1).2 [];rw[hsk,e];simp only[aR,ay,aB,ht,al];generalize jv s ad (cF false s 1).1 (cF false s 1).2 []=r at*;cases r with
  |inl x=>rfl
  |inr y=>
   have:=hlen y (by simp) rfl;have hc:∀t:ai,decide (y.2.length+[t].length<=1073741824)=true:=fun t=>by rw[bB,List.length_singleton];omega
   simp only[hc,al,ae]
theorem ahv(s:List UInt8):M.zD s=some (eA s):=by
 unfold M.zD eA;by_cases h:30000<s.length
 ·rw[aY h,da (show(30000:Int)<((s.length:Nat):Int) by omega)];rfl
 ·rw[aT h,cA (show ¬(30000:Int)<((s.length:Nat):Int) by omega)];have hsk:M.uF s 0 1 []=some (s,(fD s 0 1).1,(fD s 0 1).2,[]):=Rj s [] (by omega) 0 1 (dN _) (by omega) (by omega);have hcl:=qk false s 1;have e:fD s 0 1=((((cF false s 1).1:Nat):Int),(cF false s 1).2):=by unfold fD;rw[lR,jq]
  obtain⟨a',ht⟩:=aht s (by omega) ad (cF false s 1).1 (cF false s 1).2 [] (by have:=bz;omega) hcl.1 (by omega) (by omega) (by simp);have hlen:=En s ad (cF false s 1).1 (cF false s 1).2 [];rw[hsk,e];simp only[aR,ay,aB,ht,al];generalize jv s ad (cF false s 1).1 (cF false s 1).2 []=r at*;cases r with
  |inl x=>rfl
  |inr y=>
   have:=hlen y (by simp) rfl;have hc:∀t:ai,decide (y.2.length+[t].length<=1073741824)=true:=fun t=>by rw[bB,List.length_singleton];omega
   simp only[hc,al,ae]
def wZ(t:ai):Prop:=(t.Kind=1\/t.Kind=2\/t.Kind=3)/\(t.Kind=2->∃c r,t.Text=c::r/\fw c=true)
theorem ahw(s:List UInt8)(a:Nat)(line:Int)(h:a<s.length)(hx:(gk (s.getD a 0) (s.drop (a+1))).1≠0):
 wZ (ai.mk (gk (s.getD a 0) (s.drop (a+1))).1 (nz s a (gk (s.getD a 0) (s.drop (a+1))).2) line):=by
 rw[getD_lt h]at hx⊢;unfold gk at hx⊢;unfold wZ;cases h1:ic s[a]
 ·cases h2:fw s[a]
  ·cases h3:decide (s[a]=45/\s.drop (a+1)≠[]/\hd (s.drop (a+1))=62)
   ·cases h4:isS s[a]
    ·rw[h1,h2,h3,h4]at hx;exact(hx rfl).elim
    ·exact⟨.inr (.inr rfl),fun q=>by cases q⟩
   ·exact⟨.inr (.inr rfl),fun q=>by cases q⟩
  ·refine⟨.inr (.inl rfl),fun _=>⟨s[a],(s.drop (a+1)).take (iI (s.drop (a+1))),?_,h2⟩⟩;simp only[aR,ae];unfold nz;rw[ka h,wu 1,List.take_succ_cons]
 ·exact⟨.inl rfl,fun q=>by cases q⟩
theorem Rm(s:List UInt8):∀(f a:Nat)(line:Int)(out:List ai)(y:Int×List ai),(∀t∈out,wZ t)->jv s f a line out=.inr y->∀t∈y.2,wZ t
 |0,a,line,out,y,ho,h=>by cases h
 |f+1,a,line,out,y,ho,h=>by
  unfold jv at h;split at h
  ·rename_i hl;split at h
   ·cases h
   ·rename_i hx;split at h
    ·cases h
    ·refine Rm s f _ _ _ y (fun t ht=>?_) h;rcases dO.1 ht with q|q
     ·exact ho t q
     ·rw[fJ]at q;rw[q];exact ahw s a line hl hx
  ·cases h;exact ho
structure bW (l:List ai):Prop where
 ex:∃o e,l=o++[e]/\e.Kind=4/\e.Text=[]/\(∀t∈o,wZ t)/\o.length<=4000
theorem Lh(s:List UInt8)(h:(eA s).2.2=0):bW (eA s).1:=by
 unfold eA at h⊢;split at h
 ·cases h
 ·rename_i hl;rw[aT hl];have hlen:=En s ad (cF false s 1).1 (cF false s 1).2 [];have hok:=Rm s ad (cF false s 1).1 (cF false s 1).2 [];have hcode:∀(f a:Nat)(line:Int)(out:List ai)(x:Int×Int),s.length-a<f->jv s f a line out=.inl x->x.2≠0:=fun f=>by
   induction f with
   |zero=>intro a line out x hf;omega
   |succ f ih=>
    intro a line out x hf hx;unfold jv at hx;split at hx
    ·rename_i ha;split at hx
     ·cases hx;intro q;cases q
     ·rename_i hx0;split at hx
      ·cases hx;intro q;cases q
      ·have hp:=Le _ _ hx0;exact ih _ _ _ x (by omega) hx
    ·cases hx
  have hc:=hcode ad (cF false s 1).1 (cF false s 1).2 [];generalize jv s ad (cF false s 1).1 (cF false s 1).2 []=r at*;cases r with
  |inl x=>exact absurd h (hc x (by have:=bz;omega) rfl)
  |inr y=>exact⟨y.2,_,rfl,rfl,rfl,hok y (by simp) rfl,hlen y (by simp) rfl⟩
end M
namespace M
open Go.V (inB cg ad bz)
theorem bW.pos{l:List ai}(h:bW l):0<l.length:=by
 obtain⟨o,e,rfl,-⟩:=h.ex;simp
theorem bW.len{l:List ai}(h:bW l):l.length<=4001:=by
 obtain⟨o,e,rfl,-,-,-,h4⟩:=h.ex;simp;omega
theorem bW.mid{l:List ai}(h:bW l){k:Nat}(hk:k+1<l.length):wZ (l.getD k ai.zero):=by
 obtain⟨o,e,rfl,-,-,ho,-⟩:=h.ex;rw[aN,List.length_singleton]at hk;have hk':k<o.length:=by omega
 rw[getD_lt (show k<(o++[e]).length by rw[aN,List.length_singleton];omega),List.getElem_append_left hk'];exact ho _ (cE hk')
theorem bW.last{l:List ai}(h:bW l){k:Nat}(hk:k+1=l.length):(l.getD k ai.zero).Kind=4/\(l.getD k ai.zero).Text=[]:=by
 obtain⟨o,e,rfl,h1,h2,-,-⟩:=h.ex;rw[aN,List.length_singleton]at hk;have:k=o.length:=by omega
 subst this;rw[getD_lt (show o.length<(o++[e]).length by simp)];simp[h1,h2]
theorem bW.next{l:List ai}(h:bW l){k:Nat}(hk:k<l.length)(h4:(l.getD k ai.zero).Kind≠4):k+1<l.length:=by
 rcases cP (k+1) l.length with q|q
 ·exact q
 ·exact absurd (h.last (by omega)).1 h4
def bV(l:List ai)(k:Nat):ai:=l.getD k ai.zero
def aI(l:List ai)(text:List UInt8)(k:Nat):Bool:=((bV l k).Kind !=4)&&((bV l k).Text==text)
def rX(text:List UInt8):Prop:=∀c r,text=c::r->fw c=false
theorem ahx{l:List ai}(h:bW l){k:Nat}(hk:k<l.length){text:List UInt8}(hn:rX text):
 ((((bV l k).Kind==1)||((bV l k).Kind==3))&&((bV l k).Text==text))=aI l text k:=by
 unfold aI;by_cases hl:k+1<l.length
 ·obtain⟨h1,h2⟩:=h.mid hl;have e:(l.getD k ai.zero)=bV l k:=rfl;rw[e]at h1 h2;rcases h1 with q|q|q
  ·rw[q];rfl
  ·rw[q];obtain⟨c,r,ht,hc⟩:=h2 q;have:((bV l k).Text==text)=false:=by
    rw[cQ,ht];intro e;rw[hn c r e.symm]at hc;cases hc
   rw[this,Bool.and_false,Bool.and_false]
  ·rw[q];rfl
 ·have:=(h.last (k:=k) (by omega)).1;have e:(l.getD k ai.zero)=bV l k:=rfl;rw[e]at this;rw[this];rfl
def ip(l:List ai)(k:Nat)(b:Bool):au:=au.mk l (k:Int) b
def sp(l:List ai)(k:Nat)(b:Bool):aD:=aD.mk l (k:Int) b
theorem kb{l:List ai}{k:Nat}(hk:k<l.length):inB (k:Int) l.length=true:=by rw[dD];simpa using hk
theorem zE{l:List ai}(h:bW l){k:Nat}(hk:k<l.length){text:List UInt8}(hn:rX text)(b:Bool):M.l5 text (ip l k b)=some (!b&&aI l text k,ip l k b):=by
 unfold M.l5 ip;have e:=ahx h hk hn;unfold bV at e;simp only[kb hk,al,ae,bw,Bool.and_assoc];rw[<-e]
theorem iQ{l:List ai}(h:bW l){k:Nat}(hk:k<l.length){text:List UInt8}(hn:rX text)(b:Bool):M.eB text (ip l k b)=some (bif !b&&aI l text k then(true,ip l (k+1) b)else(false,ip l k b)):=by
 unfold M.eB;rw[zE h hk hn b];have hlen:=h.len;have w:=bZ (k:=k) hk (by omega:l.length<2^62);cases hb:(!b&&aI l text k)
 ·rfl
 ·simp only[ay,aB,dT,aR,al,ae];unfold ip;rw[w]
theorem eX{l:List ai}(h:bW l){k:Nat}(hk:k<l.length){text:List UInt8}(hn:rX text)(b:Bool):M.dj text (ip l k b)=some (bif !b&&aI l text k then ip l (k+1) b else ip l k true):=by
 unfold M.dj;rw[iQ h hk hn b];cases (!b&&aI l text k)<;>rfl
theorem cU{l:List ai}(h:bW l){k:Nat}(hk:k<l.length){text:List UInt8}(hb:aI l text k=true):k+1<l.length:=by
 unfold aI at hb;rw[cG,yN]at hb;exact h.next hk hb.1
theorem Lj{l:List ai}(h:bW l){k:Nat}(hk:k+1<l.length)(b:Bool):M.qo (sp l k b)=some (sp l (k+1) b):=by
 unfold M.qo sp;have hlen:=h.len;have w:=bZ (k:=k) (n:=l.length) (by omega) (by omega:l.length<2^62);simp only[w,da (show((k+1:Nat):Int)<((l.length:Nat):Int) by omega),ae]
theorem lp{l:List ai}{k:Nat}(hk:k<l.length)(b:Bool):M.kL (sp l k b)=some (bV l k,sp l k b):=by
 unfold M.kL sp bV;simp only[kb hk,al,ae,bw]
theorem ahy{l:List ai}{k:Nat}(hk:k<l.length)(text:List UInt8)(b:Bool):M.zF text (sp l k b)=some (aI l text k,sp l k b):=by
 unfold M.zF;rw[lp hk b];rfl
theorem fg{l:List ai}(h:bW l){k:Nat}(hk:k<l.length)(text:List UInt8)(b:Bool):M.dJ text (sp l k b)=some (bif !b&&aI l text k then(true,sp l (k+1) b)else(false,sp l k b)):=by
 unfold M.dJ;have e:aD.bad (sp l k b)=b:=rfl;rw[e];cases b
 ·simp only[ahy hk,ay,aB,aR,bu,bU];cases hb:aI l text k
  ·rfl
  ·simp only[Lj h (cU h hk hb),ay,aB];rfl
 ·rfl
theorem gz{l:List ai}(h:bW l){k:Nat}(hk:k<l.length)(text:List UInt8)(b:Bool):M.dE text (sp l k b)=some (bif !b&&aI l text k then sp l (k+1) b else sp l k true):=by
 unfold M.dE;rw[fg h hk text b];cases (!b&&aI l text k)<;>rfl
def gV(l:List ai)(k:Nat):Bool:=((bV l k).Kind==1)&&lq (bV l k).Text
theorem Eo{l:List ai}(hT:∀t∈l,t.Text.length<=30000){k:Nat}(hk:k<l.length):(bV l k).Text.length<=1048576:=by
 have:=hT (bV l k) (by unfold bV;rw[getD_lt hk];exact cE hk);omega
theorem w8{l:List ai}(h:bW l)(hT:∀t∈l,t.Text.length<=30000){k:Nat}(hk:k<l.length)(b:Bool):M.fR (sp l k b)=some (bif !b&&gV l k then((bV l k).Text,sp l (k+1) b)else([],sp l k true)):=by
 have hN:M.zG (bV l k).Text=some (lq (bV l k).Text):=by
  unfold M.zG;rw[ahz _ (Eo hT hk)];rfl
 unfold M.fR gV;rw[lp hk b];simp only[ay,aB,hN,cq,al,ae];have e:aD.bad (sp l k b)=b:=rfl;rw[e];cases b
 ·cases hk1:((bV l k).Kind==(1:Int))
  ·rw[show((bV l k).Kind !=(1:Int))=true by rw[bne,hk1];rfl];rfl
  ·rw[show((bV l k).Kind !=(1:Int))=false by rw[bne,hk1];rfl];cases lq (bV l k).Text
   ·rfl
   ·have hn:k+1<l.length:=h.next hk (by
     have:(bV l k).Kind=1:=by simpa using hk1
     unfold bV at this;rw[this];decide)
    simp only[Lj h hn,ay,aB];rfl
 ·rfl
theorem Ep{l:List ai}(h:bW l)(hT:∀t∈l,t.Text.length<=30000){k:Nat}(hk:k<l.length)(b:Bool):M.gA (ip l k b)=some (bif !b&&gV l k then((bV l k).Text,ip l (k+1) b)else([],ip l k true)):=by
 have hN:=Rn (bV l k).Text (Eo hT hk);have hlen:=h.len;have w:=bZ (k:=k) hk (by omega:l.length<2^62);have e1:M.zH 1 (ip l k b)=some (bif !b&&gV l k then((bV l k).Text,ip l (k+1) b)else([],ip l k true)):=by
  unfold M.zH gV ip;have e:l.getD k ai.zero=bV l k:=rfl;simp only[kb hk,bw,e,hN,w,ay,aB];cases b
  ·cases hk1:((bV l k).Kind==(1:Int))
   ·rw[show((bV l k).Kind !=(1:Int))=true by rw[bne,hk1];rfl];rfl
   ·rw[show((bV l k).Kind !=(1:Int))=false by rw[bne,hk1];rfl];cases lq (bV l k).Text<;>rfl
  ·rfl
 unfold M.gA;rw[e1];rfl
end M
namespace M
open Go.V (inB cg ad bz)
def words:List (List UInt8):=M.jw.getD []++M.jx.getD []
theorem zI:words.length=23:=by decide
theorem Es:M.fL=some ([]::words):=by decide
def dK(w:List UInt8):Int:=match words.findIdx? (fun x=>x==w)with
 |some i=>(i:Int)+1
 |none=>0
theorem Et(w:List UInt8):0<=dK w/\dK w<=23:=by
 unfold dK;cases h:words.findIdx? (fun x=>x==w)with
 |none=>simp
 |some i=>
  rw[List.findIdx?_eq_some_iff_getElem]at h;obtain⟨hi,-⟩:=h;rw[zI]at hi;simp only;omega
theorem zJ:dK []=0:=by decide
theorem Eu(w:List UInt8):M.rY w=some (dK w):=by
 have e:=Ld (p:=fun x:List UInt8=>x==w) (F:=M.rZ w words) (e:=()) (fun k=>Go.IntKind.wrap .i64 (k+1)) words (by rw[zI];omega) (fun f k hk=>by
  rw[M.rZ];simp only[getD_lt hk,bw,dD,kD,hk,ed,ae,dB,bZ hk (by rw[zI];omega:words.length<2^62)]) (fun f=>by
  rw[M.rZ];simp)
 unfold M.rY;rw[show M.rZ w ((Option.getD M.jw Inhabited.default)++(Option.getD M.jx Inhabited.default)) ad 0=_ from e];unfold dK;cases h:words.findIdx? (fun x=>x==w)with
 |none=>rfl
 |some i=>
  rw[List.findIdx?_eq_some_iff_getElem]at h;obtain⟨hi,-⟩:=h;have:=bZ hi (by rw[zI];omega:words.length<2^62);simp only[this];rw[show((i+1:Nat):Int)=(i:Int)+1 by omega]
theorem ahA(w:List UInt8):M.zK w=some (decide (0<dK w)):=by
 unfold M.zK;rw[Eu];rfl
theorem Ro(w:List UInt8):M.uJ ([]::words) w=some (if w=[]then 0 else if dK w=0 then -1 else dK w):=by
 have hl:([]::words).length=24:=by rw[ak,zI]
 have e:=Ld (p:=fun x:List UInt8=>w==x) (F:=M.uK ([]::words) w ((([]::words:List (List UInt8)).length:Nat):Int)) (e:=()) (fun k=>k) ([]::words) (by rw[hl];omega) (fun f k hk=>by
  rw[M.uK];simp only[getD_lt hk,bw,dD,kD,hk,ed,ae,dB,bZ hk (by rw[hl];omega:([]::words).length<2^62)]) (fun f=>by
  rw[M.uK];simp)
 have hc:(fun x:List UInt8=>w==x)=fun x=>x==w:=funext fun x=>by rw[nc,cK,cK];exact eq_comm
 unfold M.uJ;rw[e,hc,List.findIdx?_cons];by_cases h0:w=[]
 ·rw[h0,aY rfl];rfl
 ·rw[aT h0,aT (by rw[cK];exact fun q=>h0 q.symm)];unfold dK;cases h:words.findIdx? (fun x=>x==w)with
  |none=>rfl
  |some i=>
   simp only[iC];rw[aT (by omega)];congr 1
theorem Ew(w:List UInt8):M.qp w=some (decide (0<dK w)):=by
 unfold M.qp M.Ey;rw[Es];simp only[ay,aB,Ro,cq,al,ae];by_cases h0:w=[]
 ·rw[h0,zJ];rfl
 ·have hb:=Et w;rw[aT h0,show(w==[])=false from cQ.2 h0,bu,bU];by_cases hk:dK w=0
  ·rw[aY hk,hk];rfl
  ·rw[aT hk,da (by omega),da (by omega)]
def mE(l:List ai)(k:Nat):Bool:=gV l k&& !decide (0<dK (bV l k).Text)
def sc(l:List ai)(k:Nat):Bool:=((bV l k).Kind==2)&&sd (bV l k).Text
theorem Ll{l:List ai}(h:bW l)(hT:∀t∈l,t.Text.length<=30000){k:Nat}(hk:k<l.length)(b:Bool):M.mF (ip l k b)=some (bif !b&&mE l k then((bV l k).Text,ip l (k+1) b)else([],ip l k true)):=by
 have hN:M.zL (bV l k).Text=some (lq (bV l k).Text&& !decide (0<dK (bV l k).Text)):=by
  unfold M.zL;rw[Ew,Rn _ (Eo hT hk)];simp only[ay,aB,cq,al,ae]
 have hlen:=h.len;have w:=bZ (k:=k) hk (by omega:l.length<2^62);have e1:M.zM 1 (ip l k b)=some (bif !b&&mE l k then((bV l k).Text,ip l (k+1) b)else([],ip l k true)):=by
  unfold M.zM mE gV ip;have e:l.getD k ai.zero=bV l k:=rfl;simp only[kb hk,bw,e,hN,w,ay,aB,Bool.and_assoc];cases b
  ·cases hk1:((bV l k).Kind==(1:Int))
   ·rw[show((bV l k).Kind !=(1:Int))=true by rw[bne,hk1];rfl];rfl
   ·rw[show((bV l k).Kind !=(1:Int))=false by rw[bne,hk1];rfl];cases (lq (bV l k).Text&& !decide (0<dK (bV l k).Text))<;>rfl
  ·rfl
 unfold M.mF;rw[e1];rfl
theorem Lm{l:List ai}(h:bW l)(hT:∀t∈l,t.Text.length<=30000){k:Nat}(hk:k<l.length)(b:Bool):M.mG (sp l k b)=some (bif !b&&mE l k then((bV l k).Text,sp l (k+1) b)else([],sp l k true)):=by
 unfold M.mG mE;rw[lp hk b];simp only[ay,aB,ahA,al];cases hr:decide (0<dK (bV l k).Text)
 ·simp only[aR,w8 h hT hk b,ay,aB,al,ae,bu,dB]
 ·have e:aD.mk (aD.list (sp l k b)) (aD.at_ (sp l k b)) true=sp l k true:=rfl;simp only[ae,e,w8 h hT hk true,ay,aB,al,dT,cL,Bool.and_false,aR]
theorem ahB{l:List ai}(h:bW l)(hT:∀t∈l,t.Text.length<=30000){k:Nat}(hk:k<l.length)(b:Bool):M.se (ip l k b)=some (bif !b&&sc l k then((bV l k).Text,ip l (k+1) b)else([],ip l k true)):=by
 have hN:=ahC (bV l k).Text (Eo hT hk);have hlen:=h.len;have w:=bZ (k:=k) hk (by omega:l.length<2^62);have e1:M.zN 2 (ip l k b)=some (bif !b&&sc l k then((bV l k).Text,ip l (k+1) b)else([],ip l k true)):=by
  unfold M.zN sc ip;have e:l.getD k ai.zero=bV l k:=rfl;simp only[kb hk,bw,e,hN,w,ay,aB];cases b
  ·cases hk1:((bV l k).Kind==(2:Int))
   ·rw[show((bV l k).Kind !=(2:Int))=true by rw[bne,hk1];rfl];rfl
   ·rw[show((bV l k).Kind !=(2:Int))=false by rw[bne,hk1];rfl];cases sd (bV l k).Text<;>rfl
  ·rfl
 unfold M.se;rw[e1];rfl
theorem ahD{l:List ai}(h:bW l){k:Nat}(hk:k<l.length)(b:Bool):M.sf (sp l k b)=some (bif !b&&sc l k then((bV l k).Text,sp l (k+1) b)else([],sp l k true)):=by
 have hN:=ahE (bV l k).Text;unfold M.sf sc;rw[lp hk b];simp only[ay,aB,hN,cq,al,ae];have e:aD.bad (sp l k b)=b:=rfl;rw[e];cases b
 ·cases hk1:((bV l k).Kind==(2:Int))
  ·rw[show((bV l k).Kind !=(2:Int))=true by rw[bne,hk1];rfl];rfl
  ·rw[show((bV l k).Kind !=(2:Int))=false by rw[bne,hk1];rfl];cases sd (bV l k).Text
   ·rfl
   ·have hn:k+1<l.length:=h.next hk (by
     have:(bV l k).Kind=2:=by simpa using hk1
     unfold bV at this;rw[this];decide)
    simp only[Lj h hn,ay,aB];rfl
 ·rfl
end M
namespace M
open Go.V (inB cg ad bz)
inductive PR (α:Type) where
 |ok (v:α) (k:Nat)
 |no (k:Nat)
def PR.bind{α β:Type}(r:PR α)(f:α->Nat->PR β):PR β:=match r with
 |.ok v k=>f v k
 |.no k=>.no k
def ct(l:List ai)(text:List UInt8)(k:Nat):PR Unit:=bif aI l text k then .ok () (k+1)else .no k
def gW(l:List ai)(k:Nat):PR (List UInt8):=bif gV l k then .ok (bV l k).Text (k+1)else .no k
def l6(l:List ai)(k:Nat):PR (List UInt8):=bif mE l k then .ok (bV l k).Text (k+1)else .no k
def Ez(l:List ai)(k:Nat):PR (List UInt8):=bif sc l k then .ok (bV l k).Text (k+1)else .no k
def dV{α:Type}(l:List ai)(el:Nat->PR α):Nat->List α->Nat->PR (List α)
 |m,acc,k=>match el k with
  |.no k'=>.no k'
  |.ok v k1=>match m with
    |0=>.ok (acc++[v]) k1
    |m+1=>bif aI l [44] k1 then dV l el m (acc++[v]) (k1+1)else .ok (acc++[v]) k1
def dG:aa:=aa.mk 1 [] [] []
def gB(l:List ai)(K:Int)(term:Nat->PR aa)(k:Nat):PR (List UInt8×List aa):=
 (gW l k).bind fun nm k1=>
   bif K==16 then(ct l [58] k1).bind fun _ k2=>(term k2).bind fun t k3=>.ok (nm,[t]) k3
   else bif K==17 then(bif aI l [40] k1 then(term (k1+1)).bind fun t k3=>(ct l [41] k3).bind fun _ k4=>.ok (nm,[t]) k4 else .ok (nm,[dG]) k1)
   else .ok (nm,[]) k1
def nA(l:List ai)(term:Nat->PR aa)(k:Nat):PR (List aa):=
 bif aI l [60] k then
  (bif aI l [95] (k+1)then .ok dG (k+2)else term (k+1)).bind fun a k1=>
    (bif aI l [44] k1 then term (k1+1)else .ok dG k1).bind fun b k2=>(ct l [62] k2).bind fun _ k3=>.ok [a,b] k3
 else .ok [dG,dG] k
def dX(l:List ai):Nat->Nat->PR aa
 |0,k=>.no k
 |d+1,k=>(gW l k).bind fun w k1=>
  bif dK w==0 then .ok (aa.mk 30 w [] []) k1
  else bif(dK w==12)||((dK w==13)||((dK w==22)||(dK w==23)))then(ct l [60] k1).bind fun _ k2=>(dX l d k2).bind fun t k3=>(ct l [62] k3).bind fun _ k4=>.ok (aa.mk (dK w) [] [] [t]) k4
  else bif dK w==15 then(ct l [60] k1).bind fun _ k2=>(dV l (dX l d) 5 [] k2).bind fun ts k3=>(ct l [62] k3).bind fun _ k4=>.ok (aa.mk (dK w) [] [] ts) k4
  else bif(dK w==20)||(dK w==21)then(ct l [60] k1).bind fun _ k2=>(l6 l k2).bind fun nm k3=>(ct l [62] k3).bind fun _ k4=>.ok (aa.mk (dK w) nm [] []) k4
  else bif dK w==14 then(nA l (dX l d) k1).bind fun ts k2=>.ok (aa.mk (dK w) [] [] ts) k2
  else bif(dK w==16)||((dK w==17)||((dK w==18)||(dK w==19)))then(ct l [123] k1).bind fun _ k2=>(dV l (gB l (dK w) (dX l d)) 15 [] k2).bind fun ps k3=>(ct l [125] k3).bind fun _ k4=>.ok (aa.mk (dK w) [] (ps.map (·.1)) (ps.map (·.2)).flatten) k4
  else .ok (aa.mk (dK w) [] [] []) k1
def Out{α β:Type}(l:List ai)(r:PR α)(o:Option β)(F:α->Nat->Bool->β):Prop:=match r with
 |.ok v k=>k<l.length/\o=some (F v k false)
 |.no k=>k<l.length/\∃v,o=some (F v k true)
def RB{α:Type}(b:Bool)(k:Nat)(r:PR α):PR α:=bif b then .no k else r
theorem cT(c:UInt8)(h:fw c=false):rX [c]:=fun d r e=>by cases e;exact h
def oG(l:List ai)(rec:Int->au->Option (aa×au))(lv:Int)(g:Nat->PR aa):Prop:=
 ∀k b,k<l.length->Out l (RB b k (g k)) (rec lv (ip l k b)) fun v k' b'=>(v,ip l k' b')
theorem l7{α:Type}(l:List α)(x y:α):(l++[x]).set (Int.toNat ((l.length:Nat):Int)) y=l++[y]:=by
 rw[bw,List.set_append_right _ _ (fh _),Dx];rfl
theorem lr{α:Type}(l:List α)(x:α):inB ((l.length:Nat):Int) (l++[x]).length=true:=by rw[dD];simp
theorem dH{α:Type}{l:List α}{x:α}(h:l.length<=1000):decide (l.length+[x].length<=1073741824)=true:=by
 rw[bB,List.length_singleton];omega
theorem qq{l:List ai}{rec:Int->au->Option (aa×au)}{g:Nat->PR aa}{K lv:Int}{nm:List UInt8}{ls:List (List UInt8)}{ks:List aa}(hr:oG l rec (Go.IntKind.wrap .i64 (lv+1)) g)
 (hks:ks.length<=1000) {k:Nat} (hk:k<l.length) (b:Bool):
 Out l (RB b k (g k)) (M.lu rec K nm lv ls ks l (k:Int) b) fun v k' b'=>(K,nm,lv,l,(k':Int),b',ls,ks++[v]):=by
 have h:=hr k b hk;unfold M.lu;have e:au.mk l (k:Int) b=ip l k b:=rfl;rw[e];unfold Out at h⊢;cases hg:RB b k (g k)with
 |ok v k'=>
  rw[hg]at h;obtain⟨h1,h2⟩:=h;refine⟨h1,?_⟩;simp only[h2,lr,dH hks,aB,ay,al,ae,l7,aa.aC];rfl
 |no k'=>
  rw[hg]at h;obtain⟨h1,v,h2⟩:=h;refine⟨h1,v,?_⟩;simp only[h2,lr,dH hks,aB,ay,al,ae,l7,aa.aC];rfl
theorem ahF{l:List ai}(hL:bW l){rec:Int->au->Option (aa×au)}{g:Nat->PR aa}{K lv:Int}{nm:List UInt8}{ls:List (List UInt8)}(hr:oG l rec (Go.IntKind.wrap .i64 (lv+1)) g)
 (most:Nat) (hm:most<=100):∀(f m:Nat)(ks:List aa)(k:Nat),m<f->k<l.length->ks.length+(m+1)<=most->
 Out l (dV l g m ks k) ((M.qt rec (most:Int) f ((most-m:Nat):Int) (ip l k false) K nm lv ls ks).map fun r=>match r with
  |.inl x=>x
  |.inr x=>x) fun vs k' b'=>(l,(k':Int),b',K,nm,lv,ls,vs):=by
 intro f
 induction f with
 |zero=>intro m ks k h;omega
 |succ f ih=>
  intro m ks k hf hk hks;rw[M.qt,dV];have eb:au.bad (ip l k false)=false:=rfl;have el:au.list (ip l k false)=l:=rfl;have ea:au.at_ (ip l k false)=(k:Int):=rfl;simp only[eb,el,ea,bu,ae];have cn:=qq (K:=K) (lv:=lv) (nm:=nm) (ls:=ls) (ks:=ks) hr (by omega) hk false;unfold Out at cn;rw[show RB false k (g k)=g k from rfl]at cn;cases hg:g k with
  |no k'=>
   rw[hg]at cn;obtain⟨h1,v,h2⟩:=cn;refine⟨h1,ks++[v],?_⟩;simp only[h2,aB,ay,cq,ae,al,df];rfl
  |ok v k'=>
   rw[hg]at cn;obtain⟨h1,h2⟩:=cn;cases m with
   |zero=>
    have e:(((most-0:Nat):Int)==(most:Int))=true:=by rw[cK];omega
    refine⟨h1,?_⟩;simp only[h2,e,aB,ay,mm,ae,al,df];rfl
   |succ m=>
    have e:(((most-(m+1):Nat):Int)==(most:Int))=false:=by rw[cQ];omega
    have ht:=iQ hL h1 (cT 44 (by decide)) false;have ep:au.mk l (k':Int) false=ip l k' false:=rfl;simp only[h2,e,ep,ht,aB,ay,mm,aR,ae,al,df,bu,bU];cases hb:aI l [44] k'
    ·exact⟨h1,rfl⟩
    ·have hw:Go.IntKind.wrap .i64 (((most-(m+1):Nat):Int)+1)=((most-m:Nat):Int):=by rw[wrap_i64 (by omega) (by omega)];omega
     simp only[ae,dT,aR,hw];exact ih m (ks++[v]) (k'+1) (by omega) (cU hL h1 hb) (by rw[aN,List.length_singleton];omega)
theorem Rq{l:List ai}(hL:bW l){rec:Int->au->Option (aa×au)}{g:Nat->PR aa}{K lv:Int}{nm:List UInt8}{ls:List (List UInt8)}(hr:oG l rec (Go.IntKind.wrap .i64 (lv+1)) g)
 {k:Nat} (hk:k<l.length) (b:Bool):Out l (RB b k (dV l g 5 [] k)) (M.w9 rec 6 (ip l k b) K nm lv ls []) fun vs k' b'=>(ip l k' b',K,nm,lv,ls,vs):=by
 cases b with
 |true=>
  refine⟨hk,[],?_⟩;obtain⟨n,hn⟩:∃n,ad=n+1:=⟨ad-1,by have:=bz;omega⟩;unfold M.w9;rw[hn,M.qt];rfl
 |false=>
  have e:=ahF hL (K:=K) (lv:=lv) (nm:=nm) (ls:=ls) hr 6 (by omega) ad 5 [] k (by have:=bz;omega) hk (by simp);have hs:((6-5:Nat):Int)=1:=by decide
  rw[hs]at e;rw[show RB false k (dV l g 5 [] k)=dV l g 5 [] k from rfl];unfold M.w9;unfold Out at e⊢;cases hc:dV l g 5 [] k with
  |ok v k'=>
   rw[hc]at e;obtain⟨h1,h2⟩:=e;refine⟨h1,?_⟩;cases ho:M.qt rec 6 ad 1 (ip l k false) K nm lv ls []with
   |none=>rw[show((6:Nat):Int)=6 from rfl,ho]at h2;cases h2
   |some r=>
    rw[show((6:Nat):Int)=6 from rfl,ho]at h2;cases r<;>(simp only[iC,av]at h2;rw[h2];rfl)
  |no k'=>
   rw[hc]at e;obtain⟨h1,v,h2⟩:=e;refine⟨h1,v,?_⟩;cases ho:M.qt rec 6 ad 1 (ip l k false) K nm lv ls []with
   |none=>rw[show((6:Nat):Int)=6 from rfl,ho]at h2;cases h2
   |some r=>
    rw[show((6:Nat):Int)=6 from rfl,ho]at h2;cases r<;>(simp only[iC,av]at h2;rw[h2];rfl)
end M
namespace M
open Go.V (inB cg ad bz)
def oH(l:List ai)(K:Int)(term:Nat->PR aa)(nm:List UInt8)(k1:Nat):PR (List UInt8×List aa):=
    bif K==16 then(ct l [58] k1).bind fun _ k2=>(term k2).bind fun t k3=>.ok (nm,[t]) k3
    else bif K==17 then(bif aI l [40] k1 then(term (k1+1)).bind fun t k3=>(ct l [41] k3).bind fun _ k4=>.ok (nm,[t]) k4 else .ok (nm,[dG]) k1)
    else .ok (nm,[]) k1
theorem EA(l:List ai)(K:Int)(term:Nat->PR aa)(k:Nat):gB l K term k=(gW l k).bind (oH l K term):=rfl
theorem Rr{l:List ai}(hL:bW l){rec:Int->au->Option (aa×au)}{g:Nat->PR aa}{K lv:Int}{nm:List UInt8}{ls:List (List UInt8)}{ks:List aa}(hr:oG l rec (Go.IntKind.wrap .i64 (lv+1)) g)
 (hls:ls.length<=1000) (hks:ks.length<=1000) {p:au} {w:List UInt8} {k1:Nat} {b1:Bool} (hname:M.gA p=some (w,ip l k1 b1)) (hk:k1<l.length):
 Out l (RB b1 k1 (oH l K g w k1)) (M.xa rec p K nm lv ls ks) fun v k' b'=>(ip l k' b',K,nm,lv,ls++[v.1],ks++v.2):=by
 unfold M.xa oH;simp only[hname,dH hls,aB,ay,al];have el:∀k b,au.list (ip l k b)=l:=fun _ _=>rfl
 have ea:∀k b,au.at_ (ip l k b)=(k:Int):=fun _ _=>rfl
 have eb:∀k b,au.bad (ip l k b)=b:=fun _ _=>rfl
 have ep:∀(k:Nat) b,au.mk l (k:Int) b=ip l k b:=fun _ _=>rfl
 cases h16:(K==(16:Int))
 ·cases h17:(K==(17:Int))
  ·
   simp only[aR,df,al,ae];cases b1
   ·exact⟨hk,by simp⟩
   ·exact⟨hk,(w,[]),by simp⟩
  ·simp only[aR,ae,iQ hL hk (cT 40 (by decide)) b1,aB,ay,df,al];cases hc:(!b1&&aI l [40] k1)
   ·simp only[aR,lr,dH hks,al,ae,l7];cases b1
    ·have:aI l [40] k1=false:=by simpa using hc
     rw[this];exact⟨hk,rfl⟩
    ·exact⟨hk,(w,[dG]),rfl⟩
   ·rw[cG,fk]at hc;obtain⟨hb1,hc⟩:=hc;subst hb1;rw[hc];simp only[ae,el,ea,eb];have hk2:=cU hL hk hc;have cn:=qq (K:=K) (lv:=lv) (nm:=nm) (ls:=ls++[w]) (ks:=ks) hr hks hk2 false;rw[show RB false (k1+1) (g (k1+1))=g (k1+1)from rfl]at cn;rw[show ∀r:PR (List UInt8×List aa),RB false k1 r=r from fun _=>rfl];cases hg:g (k1+1)with
    |no k'=>
     rw[hg]at cn;obtain⟨h1,v,h2⟩:=cn;refine⟨h1,(w,[v]),?_⟩;simp only[h2,ep,eX hL h1 (cT 41 (by decide)) true,aB,ay,al,ae];rfl
    |ok v k'=>
     rw[hg]at cn;obtain⟨h1,h2⟩:=cn;simp only[h2,ep,eX hL h1 (cT 41 (by decide)) false,aB,ay,al,ae,PR.bind,ct];cases hn:aI l [41] k'
     ·exact⟨h1,(w,[v]),rfl⟩
     ·exact⟨cU hL h1 hn,rfl⟩
 ·simp only[ae,eX hL hk (cT 58 (by decide)) b1,aB,ay];cases hc:(!b1&&aI l [58] k1)
  ·simp only[aR,el,ea,eb];have cn:=qq (K:=K) (lv:=lv) (nm:=nm) (ls:=ls++[w]) (ks:=ks) hr hks hk true;obtain⟨h1,v,h2⟩:=cn;have:RB b1 k1 ((ct l [58] k1).bind fun _ k2=>(g k2).bind fun t k3=>PR.ok (w,[t]) k3)=PR.no k1:=by
    cases b1
    ·have:aI l [58] k1=false:=by simpa using hc
     unfold ct;rw[this];rfl
    ·rfl
   rw[this];refine⟨hk,(w,[v]),?_⟩;simp only[h2,ep,aB,ay,al,ae]
  ·rw[cG,fk]at hc;obtain⟨hb1,hc⟩:=hc;subst hb1;have hk2:=cU hL hk hc;simp only[ae,el,ea,eb];have cn:=qq (K:=K) (lv:=lv) (nm:=nm) (ls:=ls++[w]) (ks:=ks) hr hks hk2 false;rw[show RB false (k1+1) (g (k1+1))=g (k1+1)from rfl]at cn;rw[show RB false k1 ((ct l [58] k1).bind fun _ k2=>(g k2).bind fun t k3=>PR.ok (w,[t]) k3)=(g (k1+1)).bind fun t k3=>PR.ok (w,[t]) k3 by unfold ct;rw[hc];rfl];cases hg:g (k1+1)with
   |no k'=>
    rw[hg]at cn;obtain⟨h1,v,h2⟩:=cn;refine⟨h1,(w,[v]),?_⟩;simp only[h2,ep,aB,ay,al,ae]
   |ok v k'=>
    rw[hg]at cn;obtain⟨h1,h2⟩:=cn;refine⟨h1,?_⟩;simp only[h2,ep,aB,ay,al,ae]
theorem ahG{l:List ai}(hL:bW l)(hT:∀t∈l,t.Text.length<=30000){rec:Int->au->Option (aa×au)}{g:Nat->PR aa}{K lv:Int}{nm:List UInt8}{ls:List (List UInt8)}{ks:List aa}(hr:oG l rec (Go.IntKind.wrap .i64 (lv+1)) g)
 (hls:ls.length<=1000) (hks:ks.length<=1000) {k:Nat} (hk:k<l.length) (b:Bool):
 Out l (RB b k (gB l K g k)) (M.xa rec (ip l k b) K nm lv ls ks) fun v k' b'=>(ip l k' b',K,nm,lv,ls++[v.1],ks++v.2):=by
 have hn:=Ep hL hT hk b;cases hc:(!b&&gV l k)
 ·rw[hc]at hn;have h:=Rr hL (K:=K) (nm:=nm) hr hls hks hn hk;rw[EA];have:RB b k ((gW l k).bind (oH l K g))=PR.no k:=by
   cases b
   ·have:gV l k=false:=by simpa using hc
    unfold gW;rw[this];rfl
   ·rfl
  rw[this];exact h
 ·rw[hc]at hn;rw[cG,fk]at hc;obtain⟨hb,hc⟩:=hc;subst hb;have hk4:(l.getD k ai.zero).Kind≠4:=by
   unfold gV at hc;rw[cG,cK]at hc;have:=hc.1;unfold bV at this;rw[this];decide
  have h:=Rr hL (K:=K) (nm:=nm) hr hls hks hn (hL.next hk hk4);rw[EA];have:RB false k ((gW l k).bind (oH l K g))=RB false (k+1) (oH l K g (bV l k).Text (k+1)):=by
   unfold gW;rw[hc];rfl
  rw[this];exact h
end M
namespace M
open Go.V (inB cg ad bz)
theorem ahH{l:List ai}{K:Int}{g:Nat->PR aa}{w:List UInt8}{k k':Nat}{v:List UInt8×List aa}(h:oH l K g w k=.ok v k'):v.2.length<=1:=by
 unfold oH at h;cases h16:(K==(16:Int))<;>rw[h16]at h
 ·cases h17:(K==(17:Int))<;>rw[h17]at h
  ·cases h;simp
  ·simp only[aR,ae]at h;cases hc:aI l [40] k<;>rw[hc]at h
   ·cases h;simp
   ·simp only[ae]at h;cases hg:g (k+1)with
    |no q=>rw[hg]at h;cases h
    |ok t q=>
     rw[hg]at h;simp only[PR.bind,ct]at h;cases hn:aI l [41] q<;>rw[hn]at h<;>cases h;simp
 ·simp only[ae,ct]at h;cases hc:aI l [58] k<;>rw[hc]at h
  ·cases h
  ·simp only[ae,PR.bind]at h;cases hg:g (k+1)with
   |no q=>rw[hg]at h;cases h
   |ok t q=>rw[hg]at h;cases h;simp
theorem Rt{l:List ai}{K:Int}{g:Nat->PR aa}{k k':Nat}{v:List UInt8×List aa}(h:gB l K g k=.ok v k'):v.2.length<=1:=by
 rw[EA]at h;unfold gW at h;cases hn:gV l k<;>rw[hn]at h
 ·cases h
 ·exact ahH h
theorem Ln{α β:Type}:∀(ps:List (α×List β)),(∀p∈ps,p.2.length<=1)->(ps.map (·.2)).flatten.length<=ps.length
 |[],_=>fh _
 |p::r,h=>by
  have h1:=h p (by simp);have h2:=Ln r fun q hq=>h q (by simp[hq])
  simp only[eG,List.flatten_cons,aN,ak];omega
theorem ahI{l:List ai}(hL:bW l)(hT:∀t∈l,t.Text.length<=30000){rec:Int->au->Option (aa×au)}{g:Nat->PR aa}{K lv:Int}{nm:List UInt8}(hr:oG l rec (Go.IntKind.wrap .i64 (lv+1)) g)
 (most:Nat) (hm:most<=100):∀(f m:Nat)(ps:List (List UInt8×List aa))(k:Nat),m<f->k<l.length->ps.length+(m+1)<=most->(∀p∈ps,p.2.length<=1)->
 Out l (dV l (gB l K g) m ps k) ((M.qu rec (most:Int) f ((most-m:Nat):Int) (ip l k false) K nm lv (ps.map (·.1)) (ps.map (·.2)).flatten).map fun r=>match r with
  |.inl x=>x
  |.inr x=>x) fun vs k' b'=>(l,(k':Int),b',K,nm,lv,vs.map (·.1),(vs.map (·.2)).flatten):=by
 intro f
 induction f with
 |zero=>intro m ks k h;omega
 |succ f ih=>
  intro m ps k hf hk hps zO;rw[M.qu,dV];have eb:∀k b,au.bad (ip l k b)=b:=fun _ _=>rfl
  have el:∀k b,au.list (ip l k b)=l:=fun _ _=>rfl
  have ea:∀k b,au.at_ (ip l k b)=(k:Int):=fun _ _=>rfl
  have ep:∀(k:Nat) b,au.mk l (k:Int) b=ip l k b:=fun _ _=>rfl
  have hfl:=Ln ps zO;have hlab:=ahG hL hT (K:=K) (lv:=lv) (nm:=nm) (ls:=ps.map (·.1)) (ks:=(ps.map (·.2)).flatten) hr (by rw[fq];omega) (by omega) hk false;rw[show RB false k (gB l K g k)=gB l K g k from rfl]at hlab;have mA:∀v:List UInt8×List aa,ps.map (·.1)++[v.1]=(ps++[v]).map (·.1):=fun v=>by rw[yP];rfl
  have mB:∀v:List UInt8×List aa,(ps.map (·.2)).flatten++v.2=((ps++[v]).map (·.2)).flatten:=fun v=>by rw[yP,List.flatten_append];simp
  unfold M.EB;simp only[eb,el,ea,ep,bu,ae];cases hg:gB l K g k with
  |no k'=>
   rw[hg]at hlab;obtain⟨h1,v,h2⟩:=hlab;refine⟨h1,ps++[v],?_⟩;simp only[h2,aB,ay,cq,ae,al,df,eb,el,ea,mA,mB];rfl
  |ok v k'=>
   have hv:=Rt hg;rw[hg]at hlab;obtain⟨h1,h2⟩:=hlab;cases m with
   |zero=>
    have e:(((most-0:Nat):Int)==(most:Int))=true:=by rw[cK];omega
    refine⟨h1,?_⟩;simp only[h2,e,aB,ay,mm,ae,al,df,eb,el,ea,mA,mB];rfl
   |succ m=>
    have e:(((most-(m+1):Nat):Int)==(most:Int))=false:=by rw[cQ];omega
    have ht:=iQ hL h1 (cT 44 (by decide)) false;simp only[h2,e,ep,ht,aB,ay,mm,aR,ae,al,df,bu,bU,eb,el,ea,mA,mB];cases hb:aI l [44] k'
    ·exact⟨h1,rfl⟩
    ·have hw:Go.IntKind.wrap .i64 (((most-(m+1):Nat):Int)+1)=((most-m:Nat):Int):=by rw[wrap_i64 (by omega) (by omega)];omega
     simp only[ae,dT,aR,hw];exact ih m (ps++[v]) (k'+1) (by omega) (cU hL h1 hb) (by rw[aN,List.length_singleton];omega) (fun p hp=>by
      rcases dO.1 hp with q|q
      ·exact zO p q
      ·rw[fJ]at q;rw[q];exact hv)
theorem Ru{l:List ai}(hL:bW l)(hT:∀t∈l,t.Text.length<=30000){rec:Int->au->Option (aa×au)}{g:Nat->PR aa}{K lv:Int}{nm:List UInt8}(hr:oG l rec (Go.IntKind.wrap .i64 (lv+1)) g)
 {k:Nat} (hk:k<l.length) (b:Bool):Out l (RB b k (dV l (gB l K g) 15 [] k)) (M.xb rec 16 (ip l k b) K nm [] [] lv) fun vs k' b'=>(ip l k' b',K,nm,lv,vs.map (·.1),(vs.map (·.2)).flatten):=by
 cases b with
 |true=>
  refine⟨hk,[],?_⟩;obtain⟨n,hn⟩:∃n,ad=n+1:=⟨ad-1,by have:=bz;omega⟩;unfold M.xb;rw[hn,M.qu];rfl
 |false=>
  have e:=ahI hL hT (K:=K) (lv:=lv) (nm:=nm) hr 16 (by omega) ad 15 [] k (by have:=bz;omega) hk (by simp) (by simp);have hs:((16-15:Nat):Int)=1:=by decide
  rw[hs]at e;rw[show RB false k (dV l (gB l K g) 15 [] k)=dV l (gB l K g) 15 [] k from rfl];unfold M.xb;unfold Out at e⊢;have e16:((16:Nat):Int)=16:=rfl;have n1:List.map (fun x:List UInt8×List aa=>x.1) []=[]:=rfl;have n2:(List.map (fun x:List UInt8×List aa=>x.2) []).flatten=[]:=rfl;rw[e16,n1,n2]at e;cases hc:dV l (gB l K g) 15 [] k with
  |ok v k'=>
   rw[hc]at e;obtain⟨h1,h2⟩:=e;refine⟨h1,?_⟩;cases ho:M.qu rec 16 ad 1 (ip l k false) K nm lv [] []with
   |none=>rw[ho]at h2;cases h2
   |some r=>
    rw[ho]at h2;cases r<;>(simp only[iC,av]at h2;rw[h2];rfl)
  |no k'=>
   rw[hc]at e;obtain⟨h1,v,h2⟩:=e;refine⟨h1,v,?_⟩;cases ho:M.qu rec 16 ad 1 (ip l k false) K nm lv [] []with
   |none=>rw[ho]at h2;cases h2
   |some r=>
    rw[ho]at h2;cases r<;>(simp only[iC,av]at h2;rw[h2];rfl)
theorem EC(K:Int)(nm:List UInt8)(ls:List (List UInt8))(ks:List aa)(h:ks.length<=2):M.lx K nm ls ad ks=some (K,nm,ls,ks++List.replicate (2-ks.length) dG):=by
 have step:∀f (ks:List aa),ks.length<2->M.lx K nm ls (f+1) ks=M.lx K nm ls f (ks++[dG]):=fun f ks hk=>by
  rw[M.lx,da (show((ks.length:Nat):Int)<2 by omega)];simp only[lr,dH (show ks.length<=1000 by omega),al,ae,l7];rfl
 have stop:∀f (ks:List aa),ks.length=2->M.lx K nm ls (f+1) ks=some (K,nm,ls,ks):=fun f ks hk=>by
  rw[M.lx,cA (show ¬((ks.length:Nat):Int)<2 by omega)];rfl
 obtain⟨n,hn⟩:∃n,ad=n+3:=⟨ad-3,by have:=bz;omega⟩;rw[hn];have:ks.length=0\/ks.length=1\/ks.length=2:=by omega
 rcases this with q|q|q
 ·rw[step _ _ (by omega),step _ _ (by rw[aN,List.length_singleton];omega),stop _ _ (by simp[q]),q];simp[List.replicate]
 ·rw[step _ _ (by omega),stop _ _ (by simp[q]),q];rfl
 ·rw[stop _ _ q,q];simp
theorem ahJ{l:List ai}(hL:bW l){rec:Int->au->Option (aa×au)}{g:Nat->PR aa}{K lv:Int}{nm:List UInt8}{ls:List (List UInt8)}(hr:oG l rec (Go.IntKind.wrap .i64 (lv+1)) g)
 {k:Nat} (hk:k<l.length):Out l (nA l g k) (M.zP rec (ip l k false) K nm lv ls []) fun ts k' b'=>(ip l k' b',K,nm,lv,ls,ts):=by
 have eb:∀k b,au.bad (ip l k b)=b:=fun _ _=>rfl
 have el:∀k b,au.list (ip l k b)=l:=fun _ _=>rfl
 have ea:∀k b,au.at_ (ip l k b)=(k:Int):=fun _ _=>rfl
 have ep:∀(k:Nat) b,au.mk l (k:Int) b=ip l k b:=fun _ _=>rfl
 have p0:=EC K nm ls [] (by simp);have pU:=EC K nm ls [dG] (by simp);have p1:=fun a:aa=>EC K nm ls [a] (by simp)
 have p2:=fun a b:aa=>EC K nm ls [a,b] (by simp)
 have s0:∀x y:aa,([]++[x]:List aa).set (Int.toNat ((([]:List aa).length:Nat):Int)) y=[y]:=fun x y=>rfl
 have i0:∀x:aa,inB ((([]:List aa).length:Nat):Int) ([]++[x]:List aa).length=true:=fun x=>lr [] x
 have c0:∀x:aa,decide ((([]:List aa).length)+[x].length<=1073741824)=true:=fun x=>by simp
 have r2:∀a b:aa,[a,b]++List.replicate (2-[a,b].length) dG=[a,b]:=fun a b=>rfl
 have r1:∀a:aa,[a]++List.replicate (2-[a].length) dG=[a,dG]:=fun a=>rfl
 have r0:([]:List aa)++List.replicate (2-([]:List aa).length) dG=[dG,dG]:=rfl;rw[r0]at p0;simp only[r1]at p1 pU;simp only[r2]at p2;unfold M.zP nA;simp only[iQ hL hk (cT 60 (by decide)) false,aB,ay,bu,bU,al];cases h60:aI l [60] k
 ·simp only[aR,p0,ae];exact⟨hk,rfl⟩
 ·have hk1:=cU hL hk h60;simp only[ae,iQ hL hk1 (cT 95 (by decide)) false,aB,ay,bu,bU,al];cases h95:aI l [95] (k+1)
  ·simp only[aR,el,ea,eb];have cn:=qq (K:=K) (lv:=lv) (nm:=nm) (ls:=ls) (ks:=[]) hr (by simp) hk1 false;rw[show RB false (k+1) (g (k+1))=g (k+1)from rfl]at cn;cases hg:g (k+1)with
   |no k'=>
    rw[hg]at cn;obtain⟨h1,v,h2⟩:=cn;refine⟨h1,[v,dG],?_⟩;simp only[h2,ep,iQ hL h1 (cT 44 (by decide)) true,eX hL h1 (cT 62 (by decide)) true,aB,ay,dT,cL,aR,fB,p1,al,ae]
   |ok a k'=>
    rw[hg]at cn;obtain⟨h1,h2⟩:=cn;simp only[h2,ep,iQ hL h1 (cT 44 (by decide)) false,aB,ay,bu,bU,fB,al,PR.bind];cases iR:aI l [44] k'
    ·simp only[aR,p1,eX hL h1 (cT 62 (by decide)) false,aB,ay,bu,bU,al,ae,ct];cases eP:aI l [62] k'
     ·exact⟨h1,[a,dG],rfl⟩
     ·exact⟨cU hL h1 eP,rfl⟩
    ·have hk2:=cU hL h1 iR;simp only[ae,el,ea,eb];have nB:=qq (K:=K) (lv:=lv) (nm:=nm) (ls:=ls) (ks:=[a]) hr (by simp) hk2 false;rw[show RB false (k'+1) (g (k'+1))=g (k'+1)from rfl]at nB;cases hg2:g (k'+1)with
     |no k2=>
      rw[hg2]at nB;obtain⟨q1,v,q2⟩:=nB;refine⟨q1,[a,v],?_⟩;simp only[q2,ep,eX hL q1 (cT 62 (by decide)) true,aB,ay,dT,cL,aR,List.singleton_append,p2,al,ae]
     |ok c k2=>
      rw[hg2]at nB;obtain⟨q1,q2⟩:=nB;simp only[q2,ep,eX hL q1 (cT 62 (by decide)) false,aB,ay,bu,bU,List.singleton_append,p2,al,ae,ct];cases eP:aI l [62] k2
      ·exact⟨q1,[a,c],rfl⟩
      ·exact⟨cU hL q1 eP,rfl⟩
  ·have nC:=cU hL hk1 h95;simp only[ae,iQ hL nC (cT 44 (by decide)) false,aB,ay,bu,bU,al,i0,c0,s0,PR.bind];rw[show aa.mk 1 [] [] []=dG from rfl,show k+1+1=k+2 from rfl]at*;cases iR:aI l [44] (k+2)
   ·simp only[aR,pU,eX hL nC (cT 62 (by decide)) false,aB,ay,bu,bU,al,ae,ct];cases eP:aI l [62] (k+2)
    ·exact⟨nC,[dG,dG],rfl⟩
    ·exact⟨cU hL nC eP,rfl⟩
   ·have hk2:=cU hL nC iR;simp only[ae,el,ea,eb];have nB:=qq (K:=K) (lv:=lv) (nm:=nm) (ls:=ls) (ks:=[dG]) hr (by simp) hk2 false;rw[show RB false (k+2+1) (g (k+2+1))=g (k+2+1)from rfl]at nB;cases hg2:g (k+2+1)with
    |no k2=>
     rw[hg2]at nB;obtain⟨q1,v,q2⟩:=nB;refine⟨q1,[dG,v],?_⟩;simp only[q2,ep,eX hL q1 (cT 62 (by decide)) true,aB,ay,dT,cL,aR,List.singleton_append,p2,al,ae]
    |ok c k2=>
     rw[hg2]at nB;obtain⟨q1,q2⟩:=nB;simp only[q2,ep,eX hL q1 (cT 62 (by decide)) false,aB,ay,bu,bU,List.singleton_append,p2,al,ae,ct];cases eP:aI l [62] k2
     ·exact⟨q1,[dG,c],rfl⟩
     ·exact⟨cU hL q1 eP,rfl⟩
end M
namespace M
open Go.V (inB cg ad bz)
theorem ahK:Option.getD M.fL Inhabited.default=[]::words:=by rw[Es];rfl
theorem ahL:Option.isSome M.fL=true:=by rw[Es];rfl
theorem xc{l:List ai}(hL:bW l){k:Nat}(hk:k<l.length)(h:gV l k=true):k+1<l.length:=by
 refine hL.next hk ?_;unfold gV at h;rw[cG,cK]at h;have:=h.1;unfold bV at this;rw[this];decide
theorem ED{l:List ai}(hL:bW l){k:Nat}(hk:k<l.length)(h:mE l k=true):k+1<l.length:=by
 unfold mE at h;rw[cG]at h;exact xc hL hk h.1
theorem ahM(rec:Int->au->Option (aa×au)){l:List ai}(hL:bW l)(hT:∀t∈l,t.Text.length<=30000)(lv:Int){k:Nat}(hk:k<l.length):
 ∃v,M.sg rec lv (ip l k true)=some (v,ip l k true):=by
 unfold M.sg;cases decide ((4:Int)<lv)
 ·have hn:=Ep hL hT hk true;have hr:M.qp []=some false:=by rw[Ew,zJ];rfl
  refine⟨aa.mk 30 [] [] [],?_⟩;simp only[aR,hn,dT,cL,ay,aB,hr,bu,al,ae]
 ·exact⟨aa.mk 30 [] [] [],rfl⟩
theorem ahN{l:List ai}(hL:bW l)(hT:∀t∈l,t.Text.length<=30000){rec:Int->au->Option (aa×au)}{lv:Int}{d:Nat}(hlv:lv<=4)(hr:oG l rec (Go.IntKind.wrap .i64 (lv+1)) (dX l d))
 {k:Nat} (hk:k<l.length):Out l (dX l (d+1) k) (M.sg rec lv (ip l k false)) fun v k' b'=>(v,ip l k' b'):=by
 have el:∀k b,au.list (ip l k b)=l:=fun _ _=>rfl
 have ea:∀k b,au.at_ (ip l k b)=(k:Int):=fun _ _=>rfl
 have eb:∀k b,au.bad (ip l k b)=b:=fun _ _=>rfl
 have ep:∀(k:Nat) b,au.mk l (k:Int) b=ip l k b:=fun _ _=>rfl
 have hn:=Ep hL hT hk false;unfold M.sg;rw[cA (show ¬(4:Int)<lv by omega),aR,dX,hn];unfold gW;cases hnm:gV l k
 ·have hr:M.qp []=some false:=by rw[Ew,zJ];rfl
  refine⟨hk,aa.mk 30 [] [] [],?_⟩;simp only[Bool.and_false,aR,ay,aB,hr,bu,al,ae]
 ·have hk1:=xc hL hk hnm;simp only[bu,al,ae,ay,aB,Ew,PR.bind,ahK,ahL,Ro];generalize hw:(bV l k).Text=w;have hbd:=Et w;by_cases h0:dK w=0
  ·rw[h0];exact⟨hk1,rfl⟩
  ·have hne:w≠[]:=fun q=>h0 (by rw[q];exact zJ)
   rw[aT hne,aT h0,da (show 0<dK w by omega),show(dK w==0)=false from cQ.2 h0];simp only[dT,aR];generalize dK w=K at*;have hb0:∀(x y:Bool),((true|| !x)&&(true||y))=true:=fun x y=>rfl
   by_cases hA:K=12\/K=13\/K=22\/K=23
   ·have c1:(bif K==12 then K==12 else bif K==13 then K==13 else bif K==22 then K==22 else K==23)=true:=by
     rcases hA with q|q|q|q<;>rw[q]<;>rfl
    have c2:((K==12)||((K==13)||((K==22)||(K==23))))=true:=by
     rcases hA with q|q|q|q<;>rw[q]<;>rfl
    rw[c1,c2];simp only[ae,eX hL hk1 (cT 60 (by decide)) false,aB,ay,bu,bU,el,ea,eb,cq,al];unfold ct;cases h60:aI l [60] (k+1)
    ·simp only[aR,el,ea,eb];obtain⟨h1,v,h2⟩:=qq (K:=K) (lv:=lv) (nm:=[]) (ls:=[]) (ks:=[]) hr (by simp) hk1 true;refine⟨hk1,aa.mk K [] [] [v],?_⟩;simp only[h2,ep,eX hL hk1 (cT 62 (by decide)) true,aB,ay,dT,cL,aR,cq,al,ae,fB]
    ·have hk2:=cU hL hk1 h60;simp only[ae,el,ea,eb];have cn:=qq (K:=K) (lv:=lv) (nm:=[]) (ls:=[]) (ks:=[]) hr (by simp) hk2 false;rw[show RB false (k+1+1) (dX l d (k+1+1))=dX l d (k+1+1)from rfl]at cn;cases hg:dX l d (k+1+1)with
     |no k'=>
      rw[hg]at cn;obtain⟨h1,v,h2⟩:=cn;refine⟨h1,aa.mk K [] [] [v],?_⟩;simp only[h2,ep,eX hL h1 (cT 62 (by decide)) true,aB,ay,dT,cL,aR,cq,al,ae,fB]
     |ok v k'=>
      rw[hg]at cn;obtain⟨h1,h2⟩:=cn;simp only[h2,ep,eX hL h1 (cT 62 (by decide)) false,aB,ay,bu,bU,cq,al,ae,fB];cases eP:aI l [62] k'
      ·exact⟨h1,aa.mk K [] [] [v],rfl⟩
      ·exact⟨cU hL h1 eP,rfl⟩
   ·have c1:(bif K==12 then K==12 else bif K==13 then K==13 else bif K==22 then K==22 else K==23)=false:=by
     have e1:(K==12)=false:=by rw[cQ];omega
     have e2:(K==13)=false:=by rw[cQ];omega
     have e3:(K==22)=false:=by rw[cQ];omega
     have e4:(K==23)=false:=by rw[cQ];omega
     rw[e1,e2,e3,e4];rfl
    have c2:((K==12)||((K==13)||((K==22)||(K==23))))=false:=by
     have e1:(K==12)=false:=by rw[cQ];omega
     have e2:(K==13)=false:=by rw[cQ];omega
     have e3:(K==22)=false:=by rw[cQ];omega
     have e4:(K==23)=false:=by rw[cQ];omega
     rw[e1,e2,e3,e4];rfl
    rw[c1,c2];simp only[aR,cq,al];by_cases h15:K=15
    ·rw[h15];simp only[Int.reduceBEq,ae,eX hL hk1 (cT 60 (by decide)) false,aB,ay,bu,bU,cq,al];unfold ct;cases h60:aI l [60] (k+1)
     ·simp only[aR];obtain⟨h1,v,h2⟩:=Rq hL (K:=15) (lv:=lv) (nm:=[]) (ls:=[]) hr hk1 true;refine⟨hk1,aa.mk 15 [] [] v,?_⟩;simp only[h2,eX hL hk1 (cT 62 (by decide)) true,aB,ay,dT,cL,aR,cq,al,ae]
     ·have hk2:=cU hL hk1 h60;simp only[ae];have cn:=Rq hL (K:=15) (lv:=lv) (nm:=[]) (ls:=[]) hr hk2 false;rw[show RB false (k+1+1) (dV l (dX l d) 5 [] (k+1+1))=dV l (dX l d) 5 [] (k+1+1)from rfl]at cn;cases hg:dV l (dX l d) 5 [] (k+1+1)with
      |no k'=>
       rw[hg]at cn;obtain⟨h1,v,h2⟩:=cn;refine⟨h1,aa.mk 15 [] [] v,?_⟩;simp only[h2,eX hL h1 (cT 62 (by decide)) true,aB,ay,dT,cL,aR,cq,al,ae]
      |ok v k'=>
       rw[hg]at cn;obtain⟨h1,h2⟩:=cn;simp only[h2,eX hL h1 (cT 62 (by decide)) false,aB,ay,bu,bU,cq,al,ae];cases eP:aI l [62] k'
       ·exact⟨h1,aa.mk 15 [] [] v,rfl⟩
       ·exact⟨cU hL h1 eP,rfl⟩
    ·rw[show(K==15)=false from cQ.2 h15];simp only[aR];by_cases hB:K=20\/K=21
     ·have c1:(bif K==20 then K==20 else K==21)=true:=by rcases hB with q|q<;>rw[q]<;>rfl
      have c2:((K==20)||(K==21))=true:=by rcases hB with q|q<;>rw[q]<;>rfl
      rw[c1,c2];simp only[ae,eX hL hk1 (cT 60 (by decide)) false,aB,ay,bu,bU,cq,al];unfold ct l6;cases h60:aI l [60] (k+1)
      ·refine⟨hk1,aa.mk K [] [] [],?_⟩;simp only[aR,Ll hL hT hk1 true,eX hL hk1 (cT 62 (by decide)) true,aB,ay,dT,cL,cq,al,ae]
      ·have hk2:=cU hL hk1 h60;simp only[ae,Ll hL hT hk2 false,aB,ay,bu,bU,cq,al];cases hid:mE l (k+1+1)
       ·refine⟨hk2,aa.mk K [] [] [],?_⟩;simp only[aR,eX hL hk2 (cT 62 (by decide)) true,aB,ay,dT,cL,cq,al,ae]
       ·have hk3:=ED hL hk2 hid;simp only[ae,eX hL hk3 (cT 62 (by decide)) false,aB,ay,bu,bU,cq,al];cases eP:aI l [62] (k+1+1+1)
        ·exact⟨hk3,aa.mk K (bV l (k+1+1)).Text [] [],rfl⟩
        ·exact⟨cU hL hk3 eP,rfl⟩
     ·have c1:(bif K==20 then K==20 else K==21)=false:=by
       have e1:(K==20)=false:=by rw[cQ];omega
       have e2:(K==21)=false:=by rw[cQ];omega
       rw[e1,e2];rfl
      have c2:((K==20)||(K==21))=false:=by
       have e1:(K==20)=false:=by rw[cQ];omega
       have e2:(K==21)=false:=by rw[cQ];omega
       rw[e1,e2];rfl
      rw[c1,c2];simp only[aR];by_cases uL:K=14
      ·rw[uL];simp only[Int.reduceBEq,ae];have cn:=ahJ hL (K:=14) (lv:=lv) (nm:=[]) (ls:=[]) hr hk1;cases hg:nA l (dX l d) (k+1)with
       |no k'=>
        rw[hg]at cn;obtain⟨h1,v,h2⟩:=cn;refine⟨h1,aa.mk 14 [] [] v,?_⟩;simp only[h2,aB,ay,cq,al,ae]
       |ok v k'=>
        rw[hg]at cn;obtain⟨h1,h2⟩:=cn;refine⟨h1,?_⟩;simp only[h2,aB,ay,cq,al,ae]
      ·rw[show(K==14)=false from cQ.2 uL];simp only[aR];by_cases hC:K=16\/K=17\/K=18\/K=19
       ·have c1:(bif K==16 then K==16 else bif K==17 then K==17 else bif K==18 then K==18 else K==19)=true:=by
         rcases hC with q|q|q|q<;>rw[q]<;>rfl
        have c2:((K==16)||((K==17)||((K==18)||(K==19))))=true:=by
         rcases hC with q|q|q|q<;>rw[q]<;>rfl
        rw[c1,c2];simp only[ae,eX hL hk1 (cT 123 (by decide)) false,aB,ay,bu,bU,cq,al];unfold ct;cases h60:aI l [123] (k+1)
        ·simp only[aR];obtain⟨h1,v,h2⟩:=Ru hL hT (K:=K) (lv:=lv) (nm:=[]) hr hk1 true;refine⟨hk1,aa.mk K [] (v.map (·.1)) (v.map (·.2)).flatten,?_⟩;simp only[h2,eX hL hk1 (cT 125 (by decide)) true,aB,ay,dT,cL,aR,cq,al,ae]
        ·have hk2:=cU hL hk1 h60;simp only[ae];have cn:=Ru hL hT (K:=K) (lv:=lv) (nm:=[]) hr hk2 false;rw[show ∀r:PR (List (List UInt8×List aa)),RB false (k+1+1) r=r from fun _=>rfl]at cn;cases hg:dV l (gB l K (dX l d)) 15 [] (k+1+1)with
         |no k'=>
          rw[hg]at cn;obtain⟨h1,v,h2⟩:=cn;refine⟨h1,aa.mk K [] (v.map (·.1)) (v.map (·.2)).flatten,?_⟩;simp only[h2,eX hL h1 (cT 125 (by decide)) true,aB,ay,dT,cL,aR,cq,al,ae]
         |ok v k'=>
          rw[hg]at cn;obtain⟨h1,h2⟩:=cn;simp only[h2,eX hL h1 (cT 125 (by decide)) false,aB,ay,bu,bU,cq,al,ae];cases eP:aI l [125] k'
          ·exact⟨h1,aa.mk K [] (v.map (·.1)) (v.map (·.2)).flatten,rfl⟩
          ·exact⟨cU hL h1 eP,rfl⟩
       ·have e1:(K==16)=false:=by rw[cQ];omega
        have e2:(K==17)=false:=by rw[cQ];omega
        have e3:(K==18)=false:=by rw[cQ];omega
        have e4:(K==19)=false:=by rw[cQ];omega
        rw[e1,e2,e3,e4];refine⟨hk1,?_⟩;simp only[aR,lV,cq,al,ae]
theorem Rw{l:List ai}(hL:bW l)(hT:∀t∈l,t.Text.length<=30000):∀(n d:Nat)(lv:Int),d<n->d<=4->lv=5-(d:Int)->oG l (M.uM n) lv (dX l d)
 |0,d,lv,h,_,_=>by omega
 |n+1,d,lv,h,h4,hlv=>fun k b hk=>by
  show Out l _ (M.sg (M.uM n) lv (ip l k b)) _
  cases b with
  |true=>
   obtain⟨v,e⟩:=ahM (M.uM n) hL hT lv hk;exact⟨hk,v,e⟩
  |false=>
   cases d with
   |zero=>
    refine⟨hk,aa.mk 30 [] [] [],?_⟩;unfold M.sg;rw[da (show(4:Int)<lv by omega)];rfl
   |succ d=>
    have hw:Go.IntKind.wrap .i64 (lv+1)=5-(d:Int):=by rw[wrap_i64 (by omega) (by omega)];omega
    have hr:=Rw hL hT n d (Go.IntKind.wrap .i64 (lv+1)) (by omega) (by omega) hw;exact ahN hL hT (by omega) hr hk
end M
namespace M
open Go.V (inB cg ad bz)
def ly{α:Type}(l:List ai)(el:Nat->PR α)(close:List UInt8):Nat->List α->Nat->PR (List α)
 |m,acc,k=>match el k with
  |.no k'=>.no k'
  |.ok v k1=>bif aI l close k1 then .ok (acc++[v]) (k1+1)else match m with
    |0=>.no k1
    |m+1=>bif aI l [44] k1 then ly l el close m (acc++[v]) (k1+1)else .no k1
theorem ahO{l:List ai}{a b:List UInt8}(h:a≠b){k:Nat}(ha:aI l a k=true):aI l b k=false:=by
 unfold aI at ha⊢;rw[cG,cK]at ha;rw[ha.2];have:(a==b)=false:=cQ.2 h;rw[this,Bool.and_false]
theorem zQ{α:Type}(l:List ai)(el:Nat->PR α)(close:List UInt8)(hc:close≠[44]):∀(m:Nat)(acc:List α)(k:Nat),
 ly l el close m acc k=(dV l el m acc k).bind fun vs k'=>(ct l close k').bind fun _ k''=>.ok vs k''
 |0,acc,k=>by
  rw[ly,dV];cases el k with
  |no k'=>rfl
  |ok v k1=>
   simp only[PR.bind,ct];cases aI l close k1<;>rfl
 |m+1,acc,k=>by
  rw[ly,dV];cases el k with
  |no k'=>rfl
  |ok v k1=>
   simp only;cases h:aI l close k1
   ·cases iR:aI l [44] k1
    ·simp only[aR,PR.bind,ct,h]
    ·simp only[aR,ae];exact zQ l el close hc m (acc++[v]) (k1+1)
   ·rw[ahO hc h];simp only[ae,aR,PR.bind,ct,h]
def uN(l:List ai)(rec:Int->aD->Option (aa×aD))(dp:Int)(g:Nat->PR aa):Prop:=
 ∀k b,k<l.length->Out l (RB b k (g k)) (rec dp (sp l k b)) fun v k' b'=>(v,sp l k' b')
theorem lA{l:List ai}(hL:bW l){k:Nat}(hk:k<l.length)(n most:Int)(b:Bool):M.jJ n most (sp l k b)=some (bif decide (most<=n)then sp l k true else bif !b&&aI l [44] k then sp l (k+1) b else sp l k true):=by
 unfold M.jJ;rw[gz hL hk [44] b];cases decide (most<=n)
 ·cases (!b&&aI l [44] k)<;>rfl
 ·rfl
theorem ahP{l:List ai}(hL:bW l){rec:Int->aD->Option (aa×aD)}{g:Nat->PR aa}{dp:Int}(hr:uN l rec (Go.IntKind.wrap .i64 (dp-1)) g)(a1:Int)(a2:List UInt8)(a3:Int)(a4:List UInt8)(a5:List (List UInt8))(a6:List aa)(a7:List (List UInt8)):
 ∀(f m:Nat)(ks:List aa)(k:Nat),m+1<f->k<l.length->ks.length+(m+1)=6->
 Out l (ly l g [62] m ks k) (M.qw rec dp a1 a2 a3 a4 a5 a6 a7 f (sp l k false) ks) fun vs k' b'=>(l,(k':Int),b',a1,a2,a3,a4,a5,a6,a7,vs):=by
 intro f
 induction f with
 |zero=>intro m ks k h;omega
 |succ f ih=>
  intro m ks k hf hk hks;obtain⟨f',rfl⟩:∃f',f=f'+1:=⟨f-1,by omega⟩;rw[M.qw,ly];have el:∀k b,aD.list (sp l k b)=l:=fun _ _=>rfl
  have ea:∀k b,aD.at_ (sp l k b)=(k:Int):=fun _ _=>rfl
  have eb:∀k b,aD.bad (sp l k b)=b:=fun _ _=>rfl
  have hend:∀(k:Nat)(xs:List aa),M.qw rec dp a1 a2 a3 a4 a5 a6 a7 (f'+1) (sp l k true) xs=some (l,(k:Int),true,a1,a2,a3,a4,a5,a6,a7,xs):=fun k xs=>by
   rw[M.qw];rfl
  have h:=hr k false hk;rw[show RB false k (g k)=g k from rfl]at h;simp only[eb,bu,ae];cases hg:g k with
  |no k'=>
   rw[hg]at h;obtain⟨h1,v,h2⟩:=h;refine⟨h1,ks++[v],?_⟩;simp only[h2,fg hL h1 [62] true,lA hL h1,ay,aB,dT,cL,aR,lr,dH (show ks.length<=1000 by omega),al,ae,l7,aa.aC];cases decide ((6:Int)<=(((ks++[v]).length:Nat):Int))<;>exact hend k' _
  |ok v k'=>
   rw[hg]at h;obtain⟨h1,h2⟩:=h;simp only[h2,fg hL h1 [62] false,lA hL h1,ay,aB,bu,bU,lr,dH (show ks.length<=1000 by omega),al,ae,l7,aa.aC];cases eP:aI l [62] k'
   ·simp only[aR,lA hL h1,ay,aB,al,ae,bu,bU];have hlen:(((ks++[v]).length:Nat):Int)=(6:Int)-(m:Int):=by rw[aN,List.length_singleton];omega
    cases m with
    |zero=>
     rw[da (show(6:Int)<=(((ks++[v]).length:Nat):Int) by omega)];exact⟨h1,ks++[v],hend k' _⟩
    |succ m=>
     rw[cA (show ¬(6:Int)<=(((ks++[v]).length:Nat):Int) by omega)];simp only[aR];cases iR:aI l [44] k'
     ·exact⟨h1,ks++[v],hend k' _⟩
     ·exact ih m (ks++[v]) (k'+1) (by omega) (cU hL h1 iR) (by rw[aN,List.length_singleton];omega)
   ·refine⟨cU hL h1 eP,?_⟩;simp only[ae,eb,el,ea]
theorem ahQ{l:List ai}(hL:bW l){rec:Int->aD->Option (aa×aD)}{g:Nat->PR aa}{dp:Int}(hr:uN l rec (Go.IntKind.wrap .i64 (dp-1)) g){k:Nat}(hk:k<l.length):
 Out l (nA l g k) (M.zR rec dp (sp l k false)) fun ts k' b'=>(ts,sp l k' b'):=by
 have s0:∀a b x:aa,List.set [a,b] (Int.toNat 0) x=[x,b]:=fun _ _ _=>rfl
 have s1:∀a b x:aa,List.set [a,b] (Int.toNat 1) x=[a,x]:=fun _ _ _=>rfl
 have i0:∀a b:aa,inB 0 [a,b].length=true:=fun _ _=>rfl
 have i1:∀a b:aa,inB 1 [a,b].length=true:=fun _ _=>rfl
 have eU:aa.mk 1 [] [] []=dG:=rfl;unfold M.zR nA;simp only[fg hL hk [60] false,aB,ay,bu,bU,al,eU,s0,s1,i0,i1];cases h60:aI l [60] k
 ·exact⟨hk,rfl⟩
 ·have hk1:=cU hL hk h60;simp only[ae,dT,aR,fg hL hk1 [95] false,aB,ay,bu,bU,al];cases h95:aI l [95] (k+1)
  ·simp only[aR,bu,ae];have h:=hr (k+1) false hk1;rw[show RB false (k+1) (g (k+1))=g (k+1)from rfl]at h;cases hg:g (k+1)with
   |no k'=>
    rw[hg]at h;obtain⟨h1,v,h2⟩:=h;refine⟨h1,[v,dG],?_⟩;simp only[h2,fg hL h1 [44] true,gz hL h1 [62] true,aB,ay,dT,cL,aR,al,ae,aa.aC]
   |ok a k'=>
    rw[hg]at h;obtain⟨h1,h2⟩:=h;simp only[h2,fg hL h1 [44] false,aB,ay,bu,bU,al,PR.bind,aa.aC];cases iR:aI l [44] k'
    ·simp only[aR,gz hL h1 [62] false,aB,ay,bu,bU,al,ae,ct];cases eP:aI l [62] k'
     ·exact⟨h1,[a,dG],rfl⟩
     ·exact⟨cU hL h1 eP,rfl⟩
    ·have hk2:=cU hL h1 iR;simp only[ae];have hb:=hr (k'+1) false hk2;rw[show RB false (k'+1) (g (k'+1))=g (k'+1)from rfl]at hb;cases hg2:g (k'+1)with
     |no k2=>
      rw[hg2]at hb;obtain⟨q1,v,q2⟩:=hb;refine⟨q1,[a,v],?_⟩;simp only[q2,gz hL q1 [62] true,aB,ay,dT,cL,aR,al,ae,aa.aC,s1,i1]
     |ok c k2=>
      rw[hg2]at hb;obtain⟨q1,q2⟩:=hb;simp only[q2,gz hL q1 [62] false,aB,ay,bu,bU,al,ae,ct,aa.aC,s1,i1];cases eP:aI l [62] k2
      ·exact⟨q1,[a,c],rfl⟩
      ·exact⟨cU hL q1 eP,rfl⟩
  ·have nC:=cU hL hk1 h95;simp only[ae,dT,aR,fg hL nC [44] false,aB,ay,bu,bU,al,PR.bind];rw[show k+1+1=k+2 from rfl]at*;cases iR:aI l [44] (k+2)
   ·simp only[aR,gz hL nC [62] false,aB,ay,bu,bU,al,ae,ct];cases eP:aI l [62] (k+2)
    ·exact⟨nC,[dG,dG],rfl⟩
    ·exact⟨cU hL nC eP,rfl⟩
   ·have hk2:=cU hL nC iR;simp only[ae];have hb:=hr (k+2+1) false hk2;rw[show RB false (k+2+1) (g (k+2+1))=g (k+2+1)from rfl]at hb;cases hg2:g (k+2+1)with
    |no k2=>
     rw[hg2]at hb;obtain⟨q1,v,q2⟩:=hb;refine⟨q1,[dG,v],?_⟩;simp only[q2,gz hL q1 [62] true,aB,ay,dT,cL,aR,al,ae,aa.aC]
    |ok c k2=>
     rw[hg2]at hb;obtain⟨q1,q2⟩:=hb;simp only[q2,gz hL q1 [62] false,aB,ay,bu,bU,al,ae,ct,aa.aC];cases eP:aI l [62] k2
     ·exact⟨q1,[dG,c],rfl⟩
     ·exact⟨cU hL q1 eP,rfl⟩
end M
namespace M
open Go.V (inB cg ad bz)
noncomputable def ke(l:List ai)(rec:Int->aD->Option (aa×aD))(dp K:Int)(t2:List UInt8)(f:Nat)(o4:List (List UInt8))(o5:List aa)(v:List UInt8×List aa)(k:Nat)(b:Bool):Option ((List M.ai)×Int×Bool×Int×(List UInt8)×(List (List UInt8))×(List M.aa)):=
 bif !b&&aI l [125] k then some (l,((k+1:Nat):Int),b,K,t2,o4++[v.1],o5++v.2)
 else M.jK rec dp K t2 f (bif decide ((16:Int)<=(((o4++[v.1]).length:Nat):Int))then sp l k true else bif !b&&aI l [44] k then sp l (k+1) b else sp l k true) (o4++[v.1]) (o5++v.2)
theorem Rx{l:List ai}(hL:bW l){rec:Int->aD->Option (aa×aD)}{g:Nat->PR aa}{dp K:Int}{t2:List UInt8}{f:Nat}{o4:List (List UInt8)}{o5:List aa}(hr:uN l rec (Go.IntKind.wrap .i64 (dp-1)) g)
 (h4:o4.length<=1000) (h5:o5.length<=1000) {p:aD} (hb:aD.bad p=false) {w:List UInt8} {k1:Nat} {b1:Bool} (hname:M.fR p=some (w,sp l k1 b1)) (hk:k1<l.length):
 Out l (RB b1 k1 (oH l K g w k1)) (some (M.jK rec dp K t2 (f+1) p o4 o5)) fun v k' b'=>ke l rec dp K t2 f o4 o5 v k' b':=by
 have el:∀k b,aD.list (sp l k b)=l:=fun _ _=>rfl
 have ea:∀k b,aD.at_ (sp l k b)=(k:Int):=fun _ _=>rfl
 have eb:∀k b,aD.bad (sp l k b)=b:=fun _ _=>rfl
 have eu:aa.mk 1 [] [] []=dG:=rfl;rw[M.jK];unfold oH;simp only[hb,bu,ae,hname,aB,ay,dH h4,al,bU];cases h16:(K==(16:Int))
 ·cases h17:(K==(17:Int))
  ·simp only[aR,fg hL hk [125] b1,aB,ay,df,al,bU];have key:∀o,o=ke l rec dp K t2 f o4 o5 (w,[]) k1 b1->Out l (RB b1 k1 (PR.ok (w,[]) k1)) (some o) fun v k' b'=>ke l rec dp K t2 f o4 o5 v k' b':=fun o e=>by
    rw[e];cases b1
    ·exact⟨hk,rfl⟩
    ·exact⟨hk,_,rfl⟩
   apply key;unfold ke;cases hc:(!b1&&aI l [125] k1)
   ·simp only[aR,lA hL hk,aB,ay,al,ae,ue]
   ·simp only[ae,el,ea,eb,ue]
  ·simp only[aR,ae,fg hL hk [40] b1,aB,ay,df,al,bU];cases mD:(!b1&&aI l [40] k1)
   ·simp only[aR,fg hL hk [125] b1,aB,ay,lr,dH h5,al,bU,l7,eu];have key:∀o,o=ke l rec dp K t2 f o4 o5 (w,[dG]) k1 b1->Out l (RB b1 k1 (bif aI l [40] k1 then(g (k1+1)).bind fun t k3=>(ct l [41] k3).bind fun _ k4=>PR.ok (w,[t]) k4 else PR.ok (w,[dG]) k1)) (some o) fun v k' b'=>ke l rec dp K t2 f o4 o5 v k' b':=fun o e=>by
     rw[e];cases b1
     ·have:aI l [40] k1=false:=by simpa using mD
      rw[this];exact⟨hk,rfl⟩
     ·exact⟨hk,_,rfl⟩
    apply key;unfold ke;cases hc:(!b1&&aI l [125] k1)
    ·simp only[aR,lA hL hk,aB,ay,al,ae]
    ·simp only[ae,el,ea,eb]
   ·rw[cG,fk]at mD;obtain⟨hb1,mD⟩:=mD;subst hb1;rw[mD];have hk2:=cU hL hk mD;have cn:=hr (k1+1) false hk2;rw[show RB false (k1+1) (g (k1+1))=g (k1+1)from rfl]at cn;rw[show ∀r:PR (List UInt8×List aa),RB false k1 r=r from fun _=>rfl];simp only[ae];cases hg:g (k1+1)with
    |no k'=>
     rw[hg]at cn;obtain⟨h1,v,h2⟩:=cn;refine⟨h1,(w,[v]),rB some ?_⟩;simp only[h2,gz hL h1 [41] true,aB,ay,dT,cL,aR,fg hL h1 [125] true,lA hL h1,lr,dH h5,al,bU,l7,aa.aC,ae];unfold ke;simp only[dT,cL,aR]
    |ok v k'=>
     rw[hg]at cn;obtain⟨h1,h2⟩:=cn;simp only[h2,gz hL h1 [41] false,aB,ay,bu,bU,PR.bind,ct];cases oI:aI l [41] k'
     ·refine⟨h1,(w,[v]),rB some ?_⟩;simp only[aR,fg hL h1 [125] true,lA hL h1,aB,ay,dT,cL,lr,dH h5,al,bU,l7,aa.aC,ae];unfold ke;simp only[dT,cL,aR]
     ·have h1':=cU hL h1 oI;refine⟨h1',rB some ?_⟩;simp only[ae,fg hL h1' [125] false,aB,ay,bu,lr,dH h5,al,bU,l7,aa.aC];unfold ke;simp only[bu,bU];cases hc:aI l [125] (k'+1)
      ·simp only[aR,lA hL h1',aB,ay,al,ae,bu,bU]
      ·simp only[ae,el,ea,eb]
 ·simp only[ae,gz hL hk [58] b1,aB,ay];cases hc:(!b1&&aI l [58] k1)
  ·simp only[aR];have cn:=hr k1 true hk;obtain⟨h1,v,h2⟩:=cn;have:RB b1 k1 ((ct l [58] k1).bind fun _ k2=>(g k2).bind fun t k3=>PR.ok (w,[t]) k3)=PR.no k1:=by
    cases b1
    ·have:aI l [58] k1=false:=by simpa using hc
     unfold ct;rw[this];rfl
    ·rfl
   rw[this];refine⟨hk,(w,[v]),rB some ?_⟩;simp only[h2,fg hL hk [125] true,lA hL hk,aB,ay,dT,cL,aR,lr,dH h5,al,bU,l7,aa.aC,ae];unfold ke;simp only[dT,cL,aR]
  ·rw[cG,fk]at hc;obtain⟨hb1,hc⟩:=hc;subst hb1;have hk2:=cU hL hk hc;simp only[ae];have cn:=hr (k1+1) false hk2;rw[show RB false (k1+1) (g (k1+1))=g (k1+1)from rfl]at cn;rw[show RB false k1 ((ct l [58] k1).bind fun _ k2=>(g k2).bind fun t k3=>PR.ok (w,[t]) k3)=(g (k1+1)).bind fun t k3=>PR.ok (w,[t]) k3 by unfold ct;rw[hc];rfl];cases hg:g (k1+1)with
   |no k'=>
    rw[hg]at cn;obtain⟨h1,v,h2⟩:=cn;refine⟨h1,(w,[v]),rB some ?_⟩;simp only[h2,fg hL h1 [125] true,lA hL h1,aB,ay,dT,cL,aR,lr,dH h5,al,bU,l7,aa.aC,ae];unfold ke;simp only[dT,cL,aR]
   |ok v k'=>
    rw[hg]at cn;obtain⟨h1,h2⟩:=cn;refine⟨h1,rB some ?_⟩;simp only[h2,fg hL h1 [125] false,aB,ay,bu,lr,dH h5,al,bU,l7,aa.aC];unfold ke;simp only[bu,bU];cases hc:aI l [125] k'
    ·simp only[aR,lA hL h1,aB,ay,al,ae,bu,bU]
    ·simp only[ae,el,ea,eb]
theorem ahR{l:List ai}(hL:bW l)(hT:∀t∈l,t.Text.length<=30000){rec:Int->aD->Option (aa×aD)}{g:Nat->PR aa}{dp K:Int}{t2:List UInt8}(hr:uN l rec (Go.IntKind.wrap .i64 (dp-1)) g):
 ∀(f m:Nat)(ps:List (List UInt8×List aa))(k:Nat),m+1<f->k<l.length->ps.length+(m+1)=16->(∀p∈ps,p.2.length<=1)->
 Out l (ly l (gB l K g) [125] m ps k) (M.jK rec dp K t2 f (sp l k false) (ps.map (·.1)) (ps.map (·.2)).flatten) fun vs k' b'=>(l,(k':Int),b',K,t2,vs.map (·.1),(vs.map (·.2)).flatten):=by
 intro f
 induction f with
 |zero=>intro m ks k h;omega
 |succ f ih=>
  intro m ps k hf hk hps zO;obtain⟨f',rfl⟩:∃f',f=f'+1:=⟨f-1,by omega⟩;have hfl:=Ln ps zO;have mA:∀v:List UInt8×List aa,ps.map (·.1)++[v.1]=(ps++[v]).map (·.1):=fun v=>by rw[yP];rfl
  have mB:∀v:List UInt8×List aa,(ps.map (·.2)).flatten++v.2=((ps++[v]).map (·.2)).flatten:=fun v=>by rw[yP,List.flatten_append];simp
  have hend:∀(k:Nat)(xs:List (List UInt8))(ys:List aa),M.jK rec dp K t2 (f'+1) (sp l k true) xs ys=some (l,(k:Int),true,K,t2,xs,ys):=fun k xs ys=>by
   rw[M.jK];rfl
  have hn:=w8 hL hT hk false;rw[bu,bU]at hn;have h:Out l (gB l K g k) (some (M.jK rec dp K t2 (f'+1+1) (sp l k false) (ps.map (·.1)) (ps.map (·.2)).flatten)) fun v k' b'=>ke l rec dp K t2 (f'+1) (ps.map (·.1)) (ps.map (·.2)).flatten v k' b':=by
   rw[EA];unfold gW;cases hc:gV l k
   ·rw[hc]at hn;exact Rx hL (K:=K) (t2:=t2) (f:=f'+1) hr (by rw[fq];omega) (by omega) (show aD.bad (sp l k false)=false from rfl) hn hk
   ·rw[hc]at hn;exact Rx hL (K:=K) (t2:=t2) (f:=f'+1) hr (by rw[fq];omega) (by omega) (show aD.bad (sp l k false)=false from rfl) hn (xc hL hk hc)
  rw[ly];cases hg:gB l K g k with
  |no k'=>
   rw[hg]at h;obtain⟨h1,v,h2⟩:=h;refine⟨h1,ps++[v],?_⟩;rw[fA h2];unfold ke;simp only[dT,cL,aR,mA,mB];cases decide ((16:Int)<=((((ps++[v]).map (·.1)).length:Nat):Int))<;>exact hend k' _ _
  |ok v k'=>
   have hv:=Rt hg;rw[hg]at h;obtain⟨h1,h2⟩:=h;simp only[fA h2];unfold ke;simp only[bu,bU,mA,mB];cases ahS:aI l [125] k'
   ·simp only[aR];have hlen:((((ps++[v]).map (·.1)).length:Nat):Int)=(16:Int)-(m:Int):=by rw[fq,aN,List.length_singleton];omega
    cases m with
    |zero=>
     rw[da (show(16:Int)<=((((ps++[v]).map (·.1)).length:Nat):Int) by omega)];exact⟨h1,ps++[v],hend k' _ _⟩
    |succ m=>
     rw[cA (show ¬(16:Int)<=((((ps++[v]).map (·.1)).length:Nat):Int) by omega)];simp only[aR];cases iR:aI l [44] k'
     ·exact⟨h1,ps++[v],hend k' _ _⟩
     ·refine ih m (ps++[v]) (k'+1) (by omega) (cU hL h1 iR) (by rw[aN,List.length_singleton];omega) ?_;intro p hp;rcases dO.1 hp with q|q
      ·exact zO p q
      ·rw[fJ.1 q];exact hv
   ·exact⟨cU hL h1 ahS,rfl⟩
theorem ahT{l:List ai}(hL:bW l)(hT:∀t∈l,t.Text.length<=30000){rec:Int->aD->Option (aa×aD)}{g:Nat->PR aa}{dp K:Int}(hr:uN l rec (Go.IntKind.wrap .i64 (dp-1)) g){k:Nat}(hk:k<l.length):
 Out l ((ct l [123] k).bind fun _ k2=>(dV l (gB l K g) 15 [] k2).bind fun ps k3=>(ct l [125] k3).bind fun _ k4=>.ok ps k4) (M.mH rec dp (sp l k false) K [] [] []) fun vs k' b'=>(sp l k' b',K,[],vs.map (·.1),(vs.map (·.2)).flatten):=by
 unfold M.mH ct;simp only[gz hL hk [123] false,bu,bU,aB,ay,al,ae];cases EE:aI l [123] k
 ·obtain⟨n,hn⟩:∃n,ad=n+1:=⟨ad-1,by have:=bz;omega⟩;refine⟨hk,[],?_⟩;simp only[aR];rw[hn,M.jK];rfl
 ·have hk2:=cU hL hk EE;have e:=ahR hL hT (K:=K) (t2:=[]) hr ad 15 [] (k+1) (by have:=bz;omega) hk2 rfl (by simp);rw[zQ l _ [125] (by decide)]at e;simp only[ae];rw[show(([]:List (List UInt8×List aa)).map (·.1))=[]from rfl,show(([]:List (List UInt8×List aa)).map (·.2)).flatten=[]from rfl]at e;rw[show(PR.ok () (k+1)).bind (fun _ k2=>(dV l (gB l K g) 15 [] k2).bind fun ps k3=>(bif aI l [125] k3 then PR.ok () (k3+1)else PR.no k3).bind fun _ k4=>PR.ok ps k4)=(dV l (gB l K g) 15 [] (k+1)).bind fun ps k3=>(bif aI l [125] k3 then PR.ok () (k3+1)else PR.no k3).bind fun _ k4=>PR.ok ps k4 from rfl];unfold ct at e;unfold Out at e⊢;cases hc:(dV l (gB l K g) 15 [] (k+1)).bind fun ps k3=>(bif aI l [125] k3 then PR.ok () (k3+1)else PR.no k3).bind fun _ k4=>PR.ok ps k4 with
  |ok v k'=>
   rw[hc]at e;obtain⟨h1,h2⟩:=e;refine⟨h1,?_⟩;rw[h2];rfl
  |no k'=>
   rw[hc]at e;obtain⟨h1,v,h2⟩:=e;refine⟨h1,v,?_⟩;rw[h2];rfl
end M
namespace M
open Go.V (inB cg ad bz)
theorem Ry(rec:Int->aD->Option (aa×aD)){l:List ai}(hL:bW l)(hT:∀t∈l,t.Text.length<=30000)(dp:Int){k:Nat}(hk:k<l.length)(b:Bool)(h:b=true\/dp=0):
 ∃v,M.uO rec dp (sp l k b)=some (v,sp l k true):=by
 have hn:=w8 hL hT hk true;have e:(b||(dp==(0:Int)))=true:=by rcases h with q|q<;>rw[q]<;>simp
 refine⟨aa.mk 0 [] [] [],?_⟩;unfold M.uO;rw[show(aD.mk (aD.list (sp l k b)) (aD.at_ (sp l k b)) ((aD.bad (sp l k b))||(dp==(0:Int))))=sp l k true by
  show aD.mk l (k:Int) (b||(dp==(0:Int)))=_
  rw[e];rfl]
 rw[hn];simp only[dT,cL,aR,ay,aB,Eu,zJ,al,ae];rfl
theorem ahU{l:List ai}(hL:bW l)(hT:∀t∈l,t.Text.length<=30000){rec:Int->aD->Option (aa×aD)}{dp:Int}{d:Nat}(hdp:dp≠0)(hr:uN l rec (Go.IntKind.wrap .i64 (dp-1)) (dX l d))
 {k:Nat} (hk:k<l.length):Out l (dX l (d+1) k) (M.uO rec dp (sp l k false)) fun v k' b'=>(v,sp l k' b'):=by
 have el:∀k b,aD.list (sp l k b)=l:=fun _ _=>rfl
 have ea:∀k b,aD.at_ (sp l k b)=(k:Int):=fun _ _=>rfl
 have eb:∀k b,aD.bad (sp l k b)=b:=fun _ _=>rfl
 have ep:∀(k:Nat) b,aD.mk l (k:Int) b=sp l k b:=fun _ _=>rfl
 have hn:=w8 hL hT hk false;have e0:(dp==(0:Int))=false:=cQ.2 hdp;unfold M.uO;rw[el,ea,eb,e0,lV,ep,dX,hn];unfold gW;cases hnm:gV l k
 ·refine⟨hk,aa.mk (dK []) [] [] [],?_⟩;simp only[Bool.and_false,aR,ay,aB,eb,Eu,al,ae]
 ·have hk1:=xc hL hk hnm;simp only[bu,al,ae,ay,aB,Eu,PR.bind,eb,aR];generalize hw:(bV l k).Text=w;have hbd:=Et w;by_cases h0:dK w=0
  ·rw[h0];exact⟨hk1,rfl⟩
  ·rw[show(dK w==0)=false from cQ.2 h0];simp only[aR];generalize dK w=K at*;by_cases hA:K=12\/K=13\/K=22\/K=23
   ·have c1:(bif K==12 then K==12 else bif K==13 then K==13 else bif K==22 then K==22 else K==23)=true:=by
     rcases hA with q|q|q|q<;>rw[q]<;>rfl
    have c2:((K==12)||((K==13)||((K==22)||(K==23))))=true:=by
     rcases hA with q|q|q|q<;>rw[q]<;>rfl
    rw[c1,c2];simp only[ae,gz hL hk1 [60] false,aB,ay,bu,bU,cq,al];unfold ct;cases h60:aI l [60] (k+1)
    ·simp only[aR];obtain⟨h1,v,h2⟩:=hr (k+1) true hk1;refine⟨hk1,aa.mk K [] [] [v],?_⟩;simp only[h2,gz hL hk1 [62] true,aB,ay,dT,cL,aR,cq,bU,al,ae,aa.aC]
    ·have hk2:=cU hL hk1 h60;simp only[ae];have cn:=hr (k+1+1) false hk2;rw[show RB false (k+1+1) (dX l d (k+1+1))=dX l d (k+1+1)from rfl]at cn;cases hg:dX l d (k+1+1)with
     |no k'=>
      rw[hg]at cn;obtain⟨h1,v,h2⟩:=cn;refine⟨h1,aa.mk K [] [] [v],?_⟩;simp only[h2,gz hL h1 [62] true,aB,ay,dT,cL,aR,cq,bU,al,ae,aa.aC]
     |ok v k'=>
      rw[hg]at cn;obtain⟨h1,h2⟩:=cn;simp only[h2,gz hL h1 [62] false,aB,ay,bu,bU,cq,al,ae,aa.aC];cases eP:aI l [62] k'
      ·exact⟨h1,aa.mk K [] [] [v],rfl⟩
      ·exact⟨cU hL h1 eP,rfl⟩
   ·have e1:(K==12)=false:=by rw[cQ];omega
    have e2:(K==13)=false:=by rw[cQ];omega
    have e3:(K==22)=false:=by rw[cQ];omega
    have e4:(K==23)=false:=by rw[cQ];omega
    simp only[e1,e2,e3,e4,aR,lV];by_cases h15:K=15
    ·rw[h15];have n14:((15:Int)==14)=false:=rfl;simp only[n14,df,aR,ae,gz hL hk1 [60] false,aB,ay,bu,bU,cq,al];unfold ct;cases h60:aI l [60] (k+1)
     ·obtain⟨n,hn⟩:∃n,ad=n+1:=⟨ad-1,by have:=bz;omega⟩;refine⟨hk1,aa.mk 15 [] [] [],?_⟩;simp only[aR];rw[hn,M.qw];rfl
     ·have hk2:=cU hL hk1 h60;simp only[ae];have e:=ahP hL hr 0 [] 15 [] [] [] [] ad 5 [] (k+1+1) (by have:=bz;omega) hk2 rfl;rw[zQ l _ [62] (by decide)]at e;unfold ct at e;cases hg:dV l (dX l d) 5 [] (k+1+1)with
      |no k'=>
       rw[hg]at e;obtain⟨h1,v,h2⟩:=e;refine⟨h1,aa.mk 15 [] [] v,?_⟩;simp only[h2];rfl
      |ok v k'=>
       rw[hg]at e;simp only[PR.bind]at e⊢;cases eP:aI l [62] k'
       ·rw[eP]at e;obtain⟨h1,v,h2⟩:=e;refine⟨h1,aa.mk 15 [] [] v,?_⟩;simp only[h2];rfl
       ·rw[eP]at e;obtain⟨h1,h2⟩:=e;refine⟨h1,?_⟩;simp only[h2];rfl
    ·have e15:(K==15)=false:=cQ.2 h15;simp only[e15,aR];by_cases uL:K=14
     ·rw[uL];have m20:((14:Int)==20)=false:=rfl;have m21:((14:Int)==21)=false:=rfl;simp only[m20,m21,df,ae,aR,lV];have cn:=ahQ hL hr hk1;cases hg:nA l (dX l d) (k+1)with
      |no k'=>
       rw[hg]at cn;obtain⟨h1,v,h2⟩:=cn;refine⟨h1,aa.mk 14 [] [] v,?_⟩;simp only[h2,aB,ay,cq,bU,al,ae]
      |ok v k'=>
       rw[hg]at cn;obtain⟨h1,h2⟩:=cn;refine⟨h1,?_⟩;simp only[h2,aB,ay,cq,bU,al,ae]
     ·have e14:(K==14)=false:=cQ.2 uL;simp only[e14,aR];by_cases hB:K=20\/K=21
      ·have c1:(bif K==20 then K==20 else K==21)=true:=by rcases hB with q|q<;>rw[q]<;>rfl
       have c2:((K==20)||(K==21))=true:=by rcases hB with q|q<;>rw[q]<;>rfl
       rw[c1,c2];simp only[ae,gz hL hk1 [60] false,aB,ay,bu,bU,cq,al];unfold ct l6;cases h60:aI l [60] (k+1)
       ·refine⟨hk1,aa.mk K [] [] [],?_⟩;simp only[aR,Lm hL hT hk1 true,gz hL hk1 [62] true,aB,ay,dT,cL,cq,bU,al,ae]
       ·have hk2:=cU hL hk1 h60;simp only[ae,Lm hL hT hk2 false,aB,ay,bu,bU,cq,al];cases hid:mE l (k+1+1)
        ·refine⟨hk2,aa.mk K [] [] [],?_⟩;simp only[aR,gz hL hk2 [62] true,aB,ay,dT,cL,cq,bU,al,ae]
        ·have hk3:=ED hL hk2 hid;simp only[ae,gz hL hk3 [62] false,aB,ay,bu,bU,cq,al];cases eP:aI l [62] (k+1+1+1)
         ·exact⟨hk3,aa.mk K (bV l (k+1+1)).Text [] [],rfl⟩
         ·exact⟨cU hL hk3 eP,rfl⟩
      ·have f1:(K==20)=false:=by rw[cQ];omega
       have f2:(K==21)=false:=by rw[cQ];omega
       simp only[f1,f2,aR,lV];by_cases hC:K=16\/K=17\/K=18\/K=19
       ·have c1:(bif K==16 then K==16 else bif K==17 then K==17 else bif K==18 then K==18 else K==19)=true:=by
         rcases hC with q|q|q|q<;>rw[q]<;>rfl
        have c2:((K==16)||((K==17)||((K==18)||(K==19))))=true:=by
         rcases hC with q|q|q|q<;>rw[q]<;>rfl
        rw[c1,c2];simp only[ae];have e:=ahT hL hT (K:=K) hr hk1;have fin:∀(r:PR (List (List UInt8×List aa))),Out l r (M.mH rec dp (sp l (k+1) false) K [] [] []) (fun vs k' b'=>(sp l k' b',K,[],vs.map (·.1),(vs.map (·.2)).flatten))->
         Out l (r.bind fun ps k4=>PR.ok (aa.mk K [] (ps.map (·.1)) (ps.map (·.2)).flatten) k4) (bif(Option.isSome (M.mH rec dp (sp l (k+1) false) K [] [] []))then some (aa.mk (Option.getD (M.mH rec dp (sp l (k+1) false) K [] [] []) Inhabited.default).2.1 (Option.getD (M.mH rec dp (sp l (k+1) false) K [] [] []) Inhabited.default).2.2.1 (Option.getD (M.mH rec dp (sp l (k+1) false) K [] [] []) Inhabited.default).2.2.2.1 (Option.getD (M.mH rec dp (sp l (k+1) false) K [] [] []) Inhabited.default).2.2.2.2,(Option.getD (M.mH rec dp (sp l (k+1) false) K [] [] []) Inhabited.default).1)else none) fun v k' b'=>(v,sp l k' b'):=by
         intro r hr;cases r with
         |no k'=>
          obtain⟨h1,v,h2⟩:=hr;refine⟨h1,aa.mk K [] (v.map (·.1)) (v.map (·.2)).flatten,?_⟩;rw[h2];rfl
         |ok v k'=>
          obtain⟨h1,h2⟩:=hr;refine⟨h1,?_⟩;rw[h2];rfl
        have:=fin _ e;simp only[cq,bU,dB,al];unfold ct at this⊢;cases EE:aI l [123] (k+1)
        ·rw[EE]at this;exact this
        ·rw[EE]at this;simp only[ae,PR.bind]at this⊢;cases hg:dV l (gB l K (dX l d)) 15 [] (k+1+1)with
         |no k'=>rw[hg]at this;exact this
         |ok v k'=>
          rw[hg]at this;simp only at this⊢;cases eP:aI l [125] k'
          ·rw[eP]at this;exact this
          ·rw[eP]at this;exact this
       ·have g1:(K==16)=false:=by rw[cQ];omega
        have g2:(K==17)=false:=by rw[cQ];omega
        have g3:(K==18)=false:=by rw[cQ];omega
        have g4:(K==19)=false:=by rw[cQ];omega
        rw[g1,g2,g3,g4];refine⟨hk1,?_⟩;simp only[aR,lV,cq,bU,al,ae]
theorem Rz{l:List ai}(hL:bW l)(hT:∀t∈l,t.Text.length<=30000):∀(n d:Nat),d<n->d<=4->uN l (M.si n) (d:Int) (dX l d)
 |0,d,h,_=>by omega
 |n+1,d,h,h4=>fun k b hk=>by
  show Out l _ (M.uO (M.si n) (d:Int) (sp l k b)) _
  cases b with
  |true=>
   obtain⟨v,e⟩:=Ry (M.si n) hL hT (d:Int) hk true (Or.inl rfl);exact⟨hk,v,e⟩
  |false=>
   cases d with
   |zero=>
    obtain⟨v,e⟩:=Ry (M.si n) hL hT 0 hk false (Or.inr rfl);exact⟨hk,v,e⟩
   |succ d=>
    have hw:Go.IntKind.wrap .i64 (((d+1:Nat):Int)-1)=(d:Int):=by rw[wrap_i64 (by omega) (by omega)];omega
    have hr:=Rz hL hT n d (by omega) (by omega);rw[<-hw]at hr;exact ahU hL hT (by omega) hr hk
end M
namespace M
open Go.V (inB cg ad bz)
def At{α:Type}(r:PR α)(v:α)(k:Nat)(b:Bool):Prop:=(r=.ok v k/\b=false)\/(r=.no k/\b=true)
theorem Out.at{α β:Type}{l:List ai}{r:PR α}{o:Option β}{F:α->Nat->Bool->β}(h:Out l r o F):∃v k b,k<l.length/\At r v k b/\o=some (F v k b):=by
 cases r with
 |ok v k=>exact⟨v,k,false,h.1,Or.inl ⟨rfl,rfl⟩,h.2⟩
 |no k=>obtain⟨h1,v,h2⟩:=h;exact⟨v,k,true,h1,Or.inr ⟨rfl,rfl⟩,h2⟩
theorem At.out{α β:Type}{l:List ai}{r:PR α}{o:Option β}{F:α->Nat->Bool->β}{v:α}{k:Nat}{b:Bool}(hk:k<l.length)(h:At r v k b)(ho:o=some (F v k b)):Out l r o F:=by
 rcases h with⟨e1,e2⟩|⟨e1,e2⟩
 ·rw[e1];rw[e2]at ho;exact⟨hk,ho⟩
 ·rw[e1];rw[e2]at ho;exact⟨hk,v,ho⟩
theorem uP{α β:Type}(b:Bool)(k:Nat)(r:PR α)(f:α->Nat->PR β):RB b k (r.bind f)=(RB b k r).bind f:=by cases b<;>rfl
theorem At.bind{α β:Type}{r:PR α}{f:α->Nat->PR β}{v:α}{w:β}{k1 k2:Nat}{b1 b2:Bool}(h:At r v k1 b1)(h2:At (RB b1 k1 (f v k1)) w k2 b2):At (r.bind f) w k2 b2:=by
 rcases h with⟨e1,e2⟩|⟨e1,e2⟩
 ·rw[e1];rw[e2]at h2;exact h2
 ·rw[e1];rw[e2]at h2;exact h2
theorem At.bN{α β:Type}{r:PR α}{f:α->Nat->PR β}{v:α}{w:β}{k k1 k2:Nat}{b b1 b2:Bool}(h:At (RB b k r) v k1 b1)(h2:At (RB b1 k1 (f v k1)) w k2 b2):At (RB b k (r.bind f)) w k2 b2:=by
 rw[uP];exact h.bind h2
theorem At.ret{α:Type}(v:α)(k:Nat)(b:Bool):At (RB b k (PR.ok v k)) v k b:=by
 cases b
 ·exact Or.inl ⟨rfl,rfl⟩
 ·exact Or.inr ⟨rfl,rfl⟩
theorem At.no{α:Type}(v:α)(k:Nat)(r:PR α):At (RB true k r) v k true:=Or.inr ⟨rfl,rfl⟩
theorem lB{α:Type}{l:List ai}{t:List UInt8}{k:Nat}{b:Bool}(h:(!b&&aI l t k)=true)(x y:PR α):RB b k (bif aI l t k then x else y)=x:=by
 rw[cG,fk]at h;rw[h.1,h.2];rfl
theorem mI{α:Type}{l:List ai}{t:List UInt8}{k:Nat}{b:Bool}(h:(!b&&aI l t k)=false)(x y:PR α):RB b k (bif aI l t k then x else y)=RB b k y:=by
 cases b
 ·have:aI l t k=false:=by simpa using h
  rw[this];rfl
 ·rfl
theorem mJ{l:List ai}(hL:bW l){t:List UInt8}{k:Nat}{b:Bool}(hk:k<l.length)(h:(!b&&aI l t k)=true):k+1<l.length/\b=false:=by
 rw[cG,fk]at h;exact⟨cU hL hk h.2,h.1⟩
theorem lC(l:List ai)(k:Nat)(b:Bool):au.mk l (k:Int) b=ip l k b:=rfl
theorem kM(l:List ai)(k:Nat)(b:Bool):au.list (ip l k b)=l:=rfl
theorem jL(l:List ai)(k:Nat)(b:Bool):au.at_ (ip l k b)=(k:Int):=rfl
theorem ie(l:List ai)(k:Nat)(b:Bool):au.bad (ip l k b)=b:=rfl
theorem kf(l:List ai)(k:Nat)(b:Bool):aD.mk l (k:Int) b=sp l k b:=rfl
theorem jb(l:List ai)(k:Nat)(b:Bool):aD.list (sp l k b)=l:=rfl
theorem jc(l:List ai)(k:Nat)(b:Bool):aD.at_ (sp l k b)=(k:Int):=rfl
theorem iw(l:List ai)(k:Nat)(b:Bool):aD.bad (sp l k b)=b:=rfl
theorem jy{l:List ai}(hL:bW l){k:Nat}(hk:k<l.length){t:List UInt8}(hn:rX t)(b:Bool):∃k' b',k'<l.length/\At (RB b k (ct l t k)) () k' b'/\M.dj t (ip l k b)=some (ip l k' b'):=by
 rw[eX hL hk hn b];unfold ct;cases h:(!b&&aI l t k)
 ·refine⟨k,true,hk,?_,rfl⟩;rw[mI h];exact Or.inr ⟨by cases b<;>rfl,rfl⟩
 ·obtain⟨h1,h2⟩:=mJ hL hk h;refine⟨k+1,b,h1,?_,rfl⟩;rw[lB h,h2];exact Or.inl ⟨rfl,rfl⟩
theorem kg{l:List ai}(hL:bW l){k:Nat}(hk:k<l.length)(t:List UInt8)(b:Bool):∃k' b',k'<l.length/\At (RB b k (ct l t k)) () k' b'/\M.dE t (sp l k b)=some (sp l k' b'):=by
 rw[gz hL hk t b];unfold ct;cases h:(!b&&aI l t k)
 ·refine⟨k,true,hk,?_,rfl⟩;rw[mI h];exact Or.inr ⟨by cases b<;>rfl,rfl⟩
 ·obtain⟨h1,h2⟩:=mJ hL hk h;refine⟨k+1,b,h1,?_,rfl⟩;rw[lB h,h2];exact Or.inl ⟨rfl,rfl⟩
theorem xd{l:List ai}{k:Nat}(hk:k<l.length){c:Bool}(hc:c=true->k+1<l.length)(w:List UInt8)(b:Bool){β:Type}(st:Nat->Bool->β):
 ∃v k' b',k'<l.length/\At (RB b k (bif c then PR.ok w (k+1)else PR.no k)) v k' b'/\(some (bif !b&&c then(w,st (k+1) b)else([],st k true)):Option (List UInt8×β))=some (v,st k' b')/\(b'=true->v=[]):=by
 cases b with
 |true=>exact⟨[],k,true,hk,Or.inr ⟨rfl,rfl⟩,rfl,fun _=>rfl⟩
 |false=>cases c with
  |true=>exact⟨w,k+1,false,hc rfl,Or.inl ⟨rfl,rfl⟩,rfl,fun h=>by cases h⟩
  |false=>exact⟨[],k,true,hk,Or.inr ⟨rfl,rfl⟩,rfl,fun _=>rfl⟩
theorem RD{l:List ai}(hL:bW l){k:Nat}(hk:k<l.length)(h:sc l k=true):k+1<l.length:=by
 unfold sc at h;rw[cG,cK]at h;refine hL.next hk ?_;have:=h.1;unfold bV at this;rw[this];decide
theorem uQ{l:List ai}(hL:bW l)(hT:∀t∈l,t.Text.length<=30000){k:Nat}(hk:k<l.length)(b:Bool):∃v k' b',k'<l.length/\At (RB b k (gW l k)) v k' b'/\M.gA (ip l k b)=some (v,ip l k' b')/\(b'=true->v=[]):=by
 rw[Ep hL hT hk b];exact xd hk (xc hL hk) _ b fun k b=>ip l k b
theorem uR{l:List ai}(hL:bW l)(hT:∀t∈l,t.Text.length<=30000){k:Nat}(hk:k<l.length)(b:Bool):∃v k' b',k'<l.length/\At (RB b k (gW l k)) v k' b'/\M.fR (sp l k b)=some (v,sp l k' b')/\(b'=true->v=[]):=by
 rw[w8 hL hT hk b];exact xd hk (xc hL hk) _ b fun k b=>sp l k b
theorem EF{l:List ai}(hL:bW l)(hT:∀t∈l,t.Text.length<=30000){k:Nat}(hk:k<l.length)(b:Bool):∃v k' b',k'<l.length/\At (RB b k (l6 l k)) v k' b'/\M.mF (ip l k b)=some (v,ip l k' b')/\(b'=true->v=[]):=by
 rw[Ll hL hT hk b];exact xd hk (ED hL hk) _ b fun k b=>ip l k b
theorem EG{l:List ai}(hL:bW l)(hT:∀t∈l,t.Text.length<=30000){k:Nat}(hk:k<l.length)(b:Bool):∃v k' b',k'<l.length/\At (RB b k (l6 l k)) v k' b'/\M.mG (sp l k b)=some (v,sp l k' b')/\(b'=true->v=[]):=by
 rw[Lm hL hT hk b];exact xd hk (ED hL hk) _ b fun k b=>sp l k b
theorem RE{l:List ai}(hL:bW l)(hT:∀t∈l,t.Text.length<=30000){k:Nat}(hk:k<l.length)(b:Bool):∃v k' b',k'<l.length/\At (RB b k (Ez l k)) v k' b'/\M.se (ip l k b)=some (v,ip l k' b')/\(b'=true->v=[]):=by
 rw[ahB hL hT hk b];exact xd hk (RD hL hk) _ b fun k b=>ip l k b
theorem RF{l:List ai}(hL:bW l){k:Nat}(hk:k<l.length)(b:Bool):∃v k' b',k'<l.length/\At (RB b k (Ez l k)) v k' b'/\M.sf (sp l k b)=some (v,sp l k' b')/\(b'=true->v=[]):=by
 rw[ahD hL hk b];exact xd hk (RD hL hk) _ b fun k b=>sp l k b
theorem EH{l:List ai}(hL:bW l)(hT:∀t∈l,t.Text.length<=30000){k:Nat}(hk:k<l.length)(b:Bool):∃v k' b',k'<l.length/\At (RB b k (dX l 4 k)) v k' b'/\M.qx 1 (ip l k b)=some (v,ip l k' b'):=
 (Rw hL hT ad 4 1 (by have:=bz;omega) (by omega) (by omega) k b hk).at
theorem Lo{l:List ai}(hL:bW l)(hT:∀t∈l,t.Text.length<=30000){k:Nat}(hk:k<l.length)(b:Bool):∃v k' b',k'<l.length/\At (RB b k (dX l 4 k)) v k' b'/\M.sj 4 (sp l k b)=some (v,sp l k' b'):=
 (Rz hL hT ad 4 (by have:=bz;omega) (by omega) k b hk).at
def oJ(l:List ai)(k:Nat):PR bc:=(gW l k).bind fun a k1=>
 bif aI l [47] k1 then(gW l (k1+1)).bind fun b k2=>
  bif aI l [64] k2 then(Ez l (k2+1)).bind fun v k3=>.ok (bc.mk a b v) k3 else .ok (bc.mk a b []) k2
 else .ok (bc.mk [] a []) k1
theorem Lp{l:List ai}(hL:bW l)(hT:∀t∈l,t.Text.length<=30000){k:Nat}(hk:k<l.length)(b:Bool):∃v k' b',k'<l.length/\At (RB b k (oJ l k)) v k' b'/\M.mK (ip l k b)=some (v,ip l k' b'):=by
 obtain⟨v1,k1,b1,h1,a1,e1,-⟩:=uQ hL hT hk b;unfold M.mK oJ;simp only[e1,iQ hL h1 (cT 47 (by decide)) b1,ay,aB,al];cases h47:(!b1&&aI l [47] k1)
 ·refine⟨bc.mk [] v1 [],k1,b1,h1,a1.bN ?_,rfl⟩;rw[mI h47];exact At.ret _ _ _
 ·obtain⟨h2,hb⟩:=mJ hL h1 h47;subst hb;obtain⟨v3,k3,b3,h3,a3,e3,-⟩:=uQ hL hT h2 false;simp only[ae,e3,iQ hL h3 (cT 64 (by decide)) b3,ay,aB,al];cases h64:(!b3&&aI l [64] k3)
  ·refine⟨bc.mk v1 v3 [],k3,b3,h3,a1.bN ?_,rfl⟩;rw[lB h47];refine At.bind a3 ?_;rw[mI h64];exact At.ret _ _ _
  ·obtain⟨h4,hb⟩:=mJ hL h3 h64;subst hb;obtain⟨v5,k5,b5,h5,a5,e5,-⟩:=RE hL hT h4 false;refine⟨bc.mk v1 v3 v5,k5,b5,h5,a1.bN ?_,?_⟩
   ·rw[lB h47];refine At.bind a3 ?_;rw[lB h64];exact At.bind a5 (At.ret _ _ _)
   ·simp only[ae,e5,ay,aB,al]
theorem Lq{l:List ai}(hL:bW l)(hT:∀t∈l,t.Text.length<=30000){k:Nat}(hk:k<l.length)(b:Bool):∃v k' b',k'<l.length/\At (RB b k (oJ l k)) v k' b'/\M.lD (sp l k b)=some (v,sp l k' b'):=by
 obtain⟨v1,k1,b1,h1,a1,e1,-⟩:=uR hL hT hk b;unfold M.lD oJ;simp only[e1,fg hL h1 [47] b1,ay,aB,al];cases h47:(!b1&&aI l [47] k1)
 ·refine⟨bc.mk [] v1 [],k1,b1,h1,a1.bN ?_,rfl⟩;rw[mI h47];exact At.ret _ _ _
 ·obtain⟨h2,hb⟩:=mJ hL h1 h47;subst hb;obtain⟨v3,k3,b3,h3,a3,e3,-⟩:=uR hL hT h2 false;simp only[ae,e3,fg hL h3 [64] b3,ay,aB,al];cases h64:(!b3&&aI l [64] k3)
  ·refine⟨bc.mk v1 v3 [],k3,b3,h3,a1.bN ?_,rfl⟩;rw[lB h47];refine At.bind a3 ?_;rw[mI h64];exact At.ret _ _ _
  ·obtain⟨h4,hb⟩:=mJ hL h3 h64;subst hb;obtain⟨v5,k5,b5,h5,a5,e5,-⟩:=RF hL h4 false;refine⟨bc.mk v1 v3 v5,k5,b5,h5,a1.bN ?_,?_⟩
   ·rw[lB h47];refine At.bind a3 ?_;rw[lB h64];exact At.bind a5 (At.ret _ _ _)
   ·simp only[ae,e5,ay,aB,al]
end M
namespace M
open Go.V (inB cg ad bz)
def kh(l:List ai)(k:Nat):PR az:=(gW l k).bind fun w k1=>(ct l [58] k1).bind fun _ k2=>(dX l 4 k2).bind fun t k3=>.ok (az.mk w t) k3
def l8(l:List ai)(k:Nat):PR aM:=(l6 l k).bind fun a k1=>
 bif aI l [97,115] k1 then(l6 l (k1+1)).bind fun b k2=>.ok (aM.mk a b) k2 else .ok (aM.mk a []) k1
theorem ahV:rX [97,115]:=fun d r e=>by cases e;decide
theorem ahW{l:List ai}(hL:bW l)(hT:∀t∈l,t.Text.length<=30000)(t1:Int)(t12:List UInt8)(t13:Int)(t14:List UInt8)(t15:Bool)(t16 t17 t18:List UInt8)(o3:List (List UInt8))(o4:List aa)(o5:List az)(o6:List aM)
 (h5:o5.length<=1000) {k:Nat} (hk:k<l.length) (b:Bool):∃v k' b',k'<l.length/\At (RB b k (kh l k)) v k' b'/\
   M.zS t1 t12 t13 t14 t15 t16 t17 t18 l (k:Int) b o3 o4 o5 o6=some (t1,t12,t13,t14,t15,t16,t17,t18,l,(k':Int),b',o3,o4,o5++[v],o6):=by
 obtain⟨v1,k1,b1,h1,a1,e1,-⟩:=uQ hL hT hk b;obtain⟨k2,b2,h2,a2,e2⟩:=jy hL h1 (cT 58 (by decide)) b1;obtain⟨v3,k3,b3,h3,a3,e3⟩:=EH hL hT h2 b2;unfold M.zS kh;refine⟨az.mk v1 v3,k3,b3,h3,a1.bN (a2.bN (a3.bN (At.ret _ _ _))),?_⟩;simp only[lC,e1,e2,e3,ay,aB,dH h5,al,ae,kM,jL,ie,aa.aC]
theorem ahX{l:List ai}(hL:bW l)(hT:∀t∈l,t.Text.length<=30000)(t1:Int)(t12:List UInt8)(t13:Int)(t14:List UInt8)(t15:Bool)(t16 t17 t18:List UInt8)(o3:List (List UInt8))(o4:List aa)(o5:List az)(o6:List aM)
 (h6:o6.length<=1000) {k:Nat} (hk:k<l.length) (b:Bool):∃v k' b',k'<l.length/\At (RB b k (l8 l k)) v k' b'/\
   M.zT t1 t12 t13 t14 t15 t16 t17 t18 l (k:Int) b o3 o4 o5 o6=some (t1,t12,t13,t14,t15,t16,t17,t18,l,(k':Int),b',o3,o4,o5,o6++[v]):=by
 obtain⟨v1,k1,b1,h1,a1,e1,-⟩:=EF hL hT hk b;unfold M.zT l8;simp only[lC,e1,iQ hL h1 ahV b1,ay,aB,al];cases h47:(!b1&&aI l [97,115] k1)
 ·refine⟨aM.mk v1 [],k1,b1,h1,a1.bN ?_,?_⟩
  ·rw[mI h47];exact At.ret _ _ _
  ·simp only[aR,dH h6,al,ae,kM,jL,ie]
 ·obtain⟨h2,hb⟩:=mJ hL h1 h47;subst hb;obtain⟨v3,k3,b3,h3,a3,e3,-⟩:=EF hL hT h2 false;refine⟨aM.mk v1 v3,k3,b3,h3,a1.bN ?_,?_⟩
  ·rw[lB h47];exact At.bind a3 (At.ret _ _ _)
  ·simp only[ae,e3,ay,aB,dH h6,al,kM,jL,ie]
theorem ahY{l:List ai}(hL:bW l)(hT:∀t∈l,t.Text.length<=30000)(o2:Int)(eJ:List UInt8)(fx:Int)(fV:List UInt8)(fW:Bool)(fX fY fZ:List UInt8)(o7:List (List UInt8))(o8:List aa)(cV:List aM):
 ∀(f m:Nat)(ks:List az)(k:Nat),m<f->k<l.length->ks.length+(m+1)<=6->∃vs k' b',k'<l.length/\At (dV l (kh l) m ks k) vs k' b'/\
  ((M.sk 6 f ((6:Int)-(m:Int)) (ip l k false) o2 eJ fx fV fW fX fY fZ o7 o8 ks cV).map fun r=>match r with
  |.inl x=>x
  |.inr x=>x)=some (l,(k':Int),b',o2,eJ,fx,fV,fW,fX,fY,fZ,o7,o8,vs,cV):=by
 intro f
 induction f with
 |zero=>intro m ks k h;omega
 |succ f ih=>
  intro m ks k hf hk hks;obtain⟨v,k1,b1,h1,a1,e1⟩:=ahW hL hT o2 eJ fx fV fW fX fY fZ o7 o8 ks cV (by omega) hk false;rw[M.sk,dV];simp only[ie,kM,jL,bu,ae,e1,ay,aB];rcases a1 with⟨q1,q2⟩|⟨q1,q2⟩
  ·rw[show RB false k (kh l k)=kh l k from rfl]at q1;rw[q1];subst q2;cases m with
   |zero=>
    have e:(((6:Int)-((0:Nat):Int))==6)=true:=by rw[cK];omega
    refine⟨ks++[v],k1,false,h1,Or.inl ⟨rfl,rfl⟩,?_⟩;simp only[e,mm,ae,al,df,iC]
   |succ m=>
    have e:(((6:Int)-((m+1:Nat):Int))==6)=false:=by rw[cQ];omega
    simp only[e,lC,iQ hL h1 (cT 44 (by decide)) false,aB,ay,mm,aR,al,df,bu,bU];cases hb:aI l [44] k1
    ·exact⟨ks++[v],k1,false,h1,Or.inl ⟨rfl,rfl⟩,rfl⟩
    ·have hw:Go.IntKind.wrap .i64 (((6:Int)-((m+1:Nat):Int))+1)=(6:Int)-(m:Int):=by rw[wrap_i64 (by omega) (by omega)];omega
     simp only[ae,dT,aR,hw];exact ih m (ks++[v]) (k1+1) (by omega) (cU hL h1 hb) (by rw[aN,List.length_singleton];omega)
  ·rw[show RB false k (kh l k)=kh l k from rfl]at q1;rw[q1];subst q2;refine⟨ks++[v],k1,true,h1,Or.inr ⟨rfl,rfl⟩,?_⟩;simp only[cq,ae,al,df,iC]
theorem ahZ{l:List ai}(hL:bW l)(hT:∀t∈l,t.Text.length<=30000)(o2:Int)(eJ:List UInt8)(fx:Int)(fV:List UInt8)(fW:Bool)(fX fY fZ:List UInt8)(o7:List (List UInt8))(o8:List aa)(cV:List aM){k:Nat}(hk:k<l.length)(b:Bool):
 ∃vs k' b',k'<l.length/\At (RB b k (dV l (kh l) 5 [] k)) vs k' b'/\
  M.xe 6 (ip l k b) o2 eJ fx fV fW fX fY fZ o7 o8 [] cV=some (ip l k' b',o2,eJ,fx,fV,fW,fX,fY,fZ,o7,o8,vs,cV):=by
 cases b with
 |true=>
  refine⟨[],k,true,hk,At.no _ _ _,?_⟩;obtain⟨n,hn⟩:∃n,ad=n+1:=⟨ad-1,by have:=bz;omega⟩;unfold M.xe;rw[hn,M.sk];rfl
 |false=>
  obtain⟨vs,k',b',h1,a1,e1⟩:=ahY hL hT o2 eJ fx fV fW fX fY fZ o7 o8 cV ad 5 [] k (by have:=bz;omega) hk (by simp);refine⟨vs,k',b',h1,a1,?_⟩;unfold M.xe;rw[show(6:Int)-((5:Nat):Int)=1 from rfl]at e1;cases ho:M.sk 6 ad 1 (ip l k false) o2 eJ fx fV fW fX fY fZ o7 o8 [] cV with
  |none=>rw[ho]at e1;cases e1
  |some r=>
   rw[ho]at e1;cases r<;>(simp only[iC,av]at e1;rw[e1];rfl)
theorem ah0{l:List ai}(hL:bW l)(hT:∀t∈l,t.Text.length<=30000)(o2:Int)(eJ:List UInt8)(fx:Int)(fV:List UInt8)(fW:Bool)(fX fY fZ:List UInt8)(o7:List (List UInt8))(o8:List aa)(o9:List az):
 ∀(f m:Nat)(ks:List aM)(k:Nat),m<f->k<l.length->ks.length+(m+1)<=16->∃vs k' b',k'<l.length/\At (dV l (l8 l) m ks k) vs k' b'/\
  ((M.sn 16 f ((16:Int)-(m:Int)) (ip l k false) o2 eJ fx fV fW fX fY fZ o7 o8 o9 ks).map fun r=>match r with
  |.inl x=>x
  |.inr x=>x)=some (l,(k':Int),b',o2,eJ,fx,fV,fW,fX,fY,fZ,o7,o8,o9,vs):=by
 intro f
 induction f with
 |zero=>intro m ks k h;omega
 |succ f ih=>
  intro m ks k hf hk hks;obtain⟨v,k1,b1,h1,a1,e1⟩:=ahX hL hT o2 eJ fx fV fW fX fY fZ o7 o8 o9 ks (by omega) hk false;rw[M.sn,dV];simp only[ie,kM,jL,bu,ae,e1,ay,aB];rcases a1 with⟨q1,q2⟩|⟨q1,q2⟩
  ·rw[show RB false k (l8 l k)=l8 l k from rfl]at q1;rw[q1];subst q2;cases m with
   |zero=>
    have e:(((16:Int)-((0:Nat):Int))==16)=true:=by rw[cK];omega
    refine⟨ks++[v],k1,false,h1,Or.inl ⟨rfl,rfl⟩,?_⟩;simp only[e,mm,ae,al,df,iC]
   |succ m=>
    have e:(((16:Int)-((m+1:Nat):Int))==16)=false:=by rw[cQ];omega
    simp only[e,lC,iQ hL h1 (cT 44 (by decide)) false,aB,ay,mm,aR,al,df,bu,bU];cases hb:aI l [44] k1
    ·exact⟨ks++[v],k1,false,h1,Or.inl ⟨rfl,rfl⟩,rfl⟩
    ·have hw:Go.IntKind.wrap .i64 (((16:Int)-((m+1:Nat):Int))+1)=(16:Int)-(m:Int):=by rw[wrap_i64 (by omega) (by omega)];omega
     simp only[ae,dT,aR,hw];exact ih m (ks++[v]) (k1+1) (by omega) (cU hL h1 hb) (by rw[aN,List.length_singleton];omega)
  ·rw[show RB false k (l8 l k)=l8 l k from rfl]at q1;rw[q1];subst q2;refine⟨ks++[v],k1,true,h1,Or.inr ⟨rfl,rfl⟩,?_⟩;simp only[cq,ae,al,df,iC]
theorem ah1{l:List ai}(hL:bW l)(hT:∀t∈l,t.Text.length<=30000)(o2:Int)(eJ:List UInt8)(fx:Int)(fV:List UInt8)(fW:Bool)(fX fY fZ:List UInt8)(o7:List (List UInt8))(o8:List aa)(o9:List az){k:Nat}(hk:k<l.length)(b:Bool):
 ∃vs k' b',k'<l.length/\At (RB b k (dV l (l8 l) 15 [] k)) vs k' b'/\
  M.uS 16 (ip l k b) o2 eJ fx fV fW fX fY fZ o7 o8 o9 []=some (ip l k' b',o2,eJ,fx,fV,fW,fX,fY,fZ,o7,o8,o9,vs):=by
 cases b with
 |true=>
  refine⟨[],k,true,hk,At.no _ _ _,?_⟩;obtain⟨n,hn⟩:∃n,ad=n+1:=⟨ad-1,by have:=bz;omega⟩;unfold M.uS;rw[hn,M.sn];rfl
 |false=>
  obtain⟨vs,k',b',h1,a1,e1⟩:=ah0 hL hT o2 eJ fx fV fW fX fY fZ o7 o8 o9 ad 15 [] k (by have:=bz;omega) hk (by simp);refine⟨vs,k',b',h1,a1,?_⟩;unfold M.uS;rw[show(16:Int)-((15:Nat):Int)=1 from rfl]at e1;cases ho:M.sn 16 ad 1 (ip l k false) o2 eJ fx fV fW fX fY fZ o7 o8 o9 []with
  |none=>rw[ho]at e1;cases e1
  |some r=>
   rw[ho]at e1;cases r<;>(simp only[iC,av]at e1;rw[e1];rfl)
theorem ah2{l:List ai}(hL:bW l)(hT:∀t∈l,t.Text.length<=30000):∀(f m:Nat)(ks:List az)(k:Nat),m+1<f->k<l.length->ks.length+(m+1)=6->
 ∃vs k' b',k'<l.length/\At (ly l (kh l) [41] m ks k) vs k' b'/\M.mL  f (sp l k false) ks=some (l,(k':Int),b',vs):=by
 intro f
 induction f with
 |zero=>intro m ks k h;omega
 |succ f ih=>
  intro m ks k hf hk hks;obtain⟨f',rfl⟩:∃f',f=f'+1:=⟨f-1,by omega⟩;have hend:∀(k:Nat)(xs:List az),M.mL  (f'+1) (sp l k true) xs=some (l,(k:Int),true,xs):=fun k xs=>by
   rw[M.mL];rfl
  have fin:∀(v:az)(k1:Nat)(b1:Bool),k1<l.length->At (kh l k) v k1 b1->
   M.mL  (f'+1+1) (sp l k false) ks=(bif !b1&&aI l [41] k1 then some (l,((k1+1:Nat):Int),b1,ks++[v])
     else M.mL  (f'+1) (bif decide ((6:Int)<=(((ks++[v]).length:Nat):Int))then sp l k1 true else bif !b1&&aI l [44] k1 then sp l (k1+1) b1 else sp l k1 true) (ks++[v]))->
   ∃vs k' b',k'<l.length/\At (ly l (kh l) [41] m ks k) vs k' b'/\M.mL  (f'+1+1) (sp l k false) ks=some (l,(k':Int),b',vs):=by
   intro v k1 b1 h1 a1 e1;rw[e1,ly];rcases a1 with⟨q1,q2⟩|⟨q1,q2⟩
   ·rw[q1];subst q2;simp only[bu,bU];cases hc:aI l [41] k1
    ·simp only[aR];have hlen:(((ks++[v]).length:Nat):Int)=(6:Int)-(m:Int):=by rw[aN,List.length_singleton];omega
     cases m with
     |zero=>
      rw[da (show(6:Int)<=(((ks++[v]).length:Nat):Int) by omega)];exact⟨ks++[v],k1,true,h1,Or.inr ⟨rfl,rfl⟩,hend k1 _⟩
     |succ m=>
      rw[cA (show ¬(6:Int)<=(((ks++[v]).length:Nat):Int) by omega)];simp only[aR];cases iR:aI l [44] k1
      ·exact⟨ks++[v],k1,true,h1,Or.inr ⟨rfl,rfl⟩,hend k1 _⟩
      ·exact ih m (ks++[v]) (k1+1) (by omega) (cU hL h1 iR) (by rw[aN,List.length_singleton];omega)
    ·exact⟨ks++[v],k1+1,false,cU hL h1 hc,Or.inl ⟨rfl,rfl⟩,rfl⟩
   ·rw[q1];subst q2;refine⟨ks++[v],k1,true,h1,Or.inr ⟨rfl,rfl⟩,?_⟩;simp only[dT,cL,aR];cases decide ((6:Int)<=(((ks++[v]).length:Nat):Int))<;>exact hend k1 _
  obtain⟨v1,k1,b1,h1,a1,e1,-⟩:=uR hL hT hk false;obtain⟨k2,b2,h2,a2,e2⟩:=kg hL h1 [58] b1;obtain⟨v3,k3,b3,h3,a3,e3⟩:=Lo hL hT h2 b2;refine fin (az.mk v1 v3) k3 b3 h3 (At.bind (r:=gW l k) a1 (a2.bN (a3.bN (At.ret _ _ _)))) ?_;rw[M.mL];simp only[iw,bu,ae,e1,e2,e3,fg hL h3 [41] b3,ay,aB,dH (show ks.length<=1000 by omega),al,bU,aa.aC];cases hc:(!b3&&aI l [41] k3)
  ·simp only[aR,lA hL h3,ay,aB,al,ae]
  ·simp only[ae,jb,jc,iw]
theorem ah3{l:List ai}(hL:bW l)(hT:∀t∈l,t.Text.length<=30000)(P N V:List UInt8):∀(f m:Nat)(ks:List aM)(k:Nat),m+1<f->k<l.length->ks.length+(m+1)=16->
 ∃vs k' b',k'<l.length/\At (ly l (l8 l) [125] m ks k) vs k' b'/\M.lE 0 [] 0 [] false [] [] [] 4 [] 0 [] false P N V [] [] [] [] [] [] [] f (sp l k false) ks=some (l,(k':Int),b',0,[],0,[],false,[],[],[],4,[],0,[],false,P,N,V,[],[],[],[],[],[],[],vs):=by
 intro f
 induction f with
 |zero=>intro m ks k h;omega
 |succ f ih=>
  intro m ks k hf hk hks;obtain⟨f',rfl⟩:∃f',f=f'+1:=⟨f-1,by omega⟩;have hend:∀(k:Nat)(xs:List aM),M.lE 0 [] 0 [] false [] [] [] 4 [] 0 [] false P N V [] [] [] [] [] [] [] (f'+1) (sp l k true) xs=some (l,(k:Int),true,0,[],0,[],false,[],[],[],4,[],0,[],false,P,N,V,[],[],[],[],[],[],[],xs):=fun k xs=>by
   rw[M.lE];rfl
  have fin:∀(v:aM)(k1:Nat)(b1:Bool),k1<l.length->At (l8 l k) v k1 b1->
   M.lE 0 [] 0 [] false [] [] [] 4 [] 0 [] false P N V [] [] [] [] [] [] [] (f'+1+1) (sp l k false) ks=(bif !b1&&aI l [125] k1 then some (l,((k1+1:Nat):Int),b1,0,[],0,[],false,[],[],[],4,[],0,[],false,P,N,V,[],[],[],[],[],[],[],ks++[v])
     else M.lE 0 [] 0 [] false [] [] [] 4 [] 0 [] false P N V [] [] [] [] [] [] [] (f'+1) (bif decide ((16:Int)<=(((ks++[v]).length:Nat):Int))then sp l k1 true else bif !b1&&aI l [44] k1 then sp l (k1+1) b1 else sp l k1 true) (ks++[v]))->
   ∃vs k' b',k'<l.length/\At (ly l (l8 l) [125] m ks k) vs k' b'/\M.lE 0 [] 0 [] false [] [] [] 4 [] 0 [] false P N V [] [] [] [] [] [] [] (f'+1+1) (sp l k false) ks=some (l,(k':Int),b',0,[],0,[],false,[],[],[],4,[],0,[],false,P,N,V,[],[],[],[],[],[],[],vs):=by
   intro v k1 b1 h1 a1 e1;rw[e1,ly];rcases a1 with⟨q1,q2⟩|⟨q1,q2⟩
   ·rw[q1];subst q2;simp only[bu,bU];cases hc:aI l [125] k1
    ·simp only[aR];have hlen:(((ks++[v]).length:Nat):Int)=(16:Int)-(m:Int):=by rw[aN,List.length_singleton];omega
     cases m with
     |zero=>
      rw[da (show(16:Int)<=(((ks++[v]).length:Nat):Int) by omega)];exact⟨ks++[v],k1,true,h1,Or.inr ⟨rfl,rfl⟩,hend k1 _⟩
     |succ m=>
      rw[cA (show ¬(16:Int)<=(((ks++[v]).length:Nat):Int) by omega)];simp only[aR];cases iR:aI l [44] k1
      ·exact⟨ks++[v],k1,true,h1,Or.inr ⟨rfl,rfl⟩,hend k1 _⟩
      ·exact ih m (ks++[v]) (k1+1) (by omega) (cU hL h1 iR) (by rw[aN,List.length_singleton];omega)
    ·exact⟨ks++[v],k1+1,false,cU hL h1 hc,Or.inl ⟨rfl,rfl⟩,rfl⟩
   ·rw[q1];subst q2;refine⟨ks++[v],k1,true,h1,Or.inr ⟨rfl,rfl⟩,?_⟩;simp only[dT,cL,aR];cases decide ((16:Int)<=(((ks++[v]).length:Nat):Int))<;>exact hend k1 _
  obtain⟨v1,k1,b1,h1,a1,e1,-⟩:=EG hL hT hk false;cases h47:(!b1&&aI l [97,115] k1)
  ·refine fin (aM.mk v1 []) k1 b1 h1 (At.bind (r:=l6 l k) a1 ?_) ?_
   ·rw[mI h47];exact At.ret _ _ _
   ·rw[M.lE];simp only[iw,bu,ae,e1,fg hL h1 [97,115] b1,h47,aR,fg hL h1 [125] b1,ay,aB,dH (show ks.length<=1000 by omega),al,bU];cases hc:(!b1&&aI l [125] k1)
    ·simp only[aR,lA hL h1,ay,aB,al,ae]
    ·simp only[ae,jb,jc,iw]
  ·obtain⟨h2,hb⟩:=mJ hL h1 h47;subst hb;obtain⟨v3,k3,b3,h3,a3,e3,-⟩:=EG hL hT h2 false;refine fin (aM.mk v1 v3) k3 b3 h3 (At.bind (r:=l6 l k) a1 ?_) ?_
   ·rw[lB h47];exact At.bind a3 (At.ret _ _ _)
   ·rw[M.lE];have ht:M.dJ [97,115] (sp l k1 false)=some (true,sp l (k1+1) false):=by rw[fg hL h1,h47];rfl
    simp only[iw,bu,ae,e1,ht,e3,fg hL h3 [125] b3,ay,aB,dH (show ks.length<=1000 by omega),al,bU];cases hc:(!b3&&aI l [125] k3)
    ·simp only[aR,lA hL h3,ay,aB,al,ae]
    ·simp only[ae,jb,jc,iw]
end M
