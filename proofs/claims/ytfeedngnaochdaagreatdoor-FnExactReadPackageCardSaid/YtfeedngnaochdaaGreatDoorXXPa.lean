/-
  TOKENS: white space, words and numbers, as both lexers read them.
-/
import Derived.Test.YtfeedngnaochdaaGreatDoorXQOM
import Derived.Test.YtfeedngnaochdaaGreatDoorXXplA
import Derived.Test.YtfeedngnaochdaaGreatDoorXXTF
set_option linter.unusedVariables false
set_option linter.unusedSimpArgs false
namespace M
open Go.V (inB bT ai bB)
def f8(c:UInt8):Bool:=decide ((97:Int)<=(c.toNat:Int))&&decide ((c.toNat:Int)<=122)
def eS(c:UInt8):Bool:=decide ((48:Int)<=(c.toNat:Int))&&decide ((c.toNat:Int)<=57)
def hd(l:List UInt8):UInt8:=l.getD 0 0
def fj:List UInt8->Nat
 |[]=>0
 |c::r=>if(c.toNat:Int)=10 then 0 else fj r+1
def cm:Bool->List UInt8->Int->Nat×Int
 |_,[],l=>(0,l)
 |true,c::r,l=>if(c.toNat:Int)=10 then((cm false r (l+1)).1+1,(cm false r (l+1)).2)else((cm true r l).1+1,(cm true r l).2)
 |false,c::r,l=>if(c.toNat:Int)=10 then((cm false r (l+1)).1+1,(cm false r (l+1)).2)else if(c.toNat:Int)=32 then((cm false r l).1+1,(cm false r l).2)
   else if(c.toNat:Int)=47/\r≠[]/\((hd r).toNat:Int)=47 then((cm true r l).1+1,(cm true r l).2)else(0,l)
theorem Gi:∀(l:List UInt8)(n:Int),cm true l n=((cm false (l.drop (fj l)) n).1+fj l,(cm false (l.drop (fj l)) n).2)
 |[],n=>rfl
 |c::r,n=>by
  unfold cm fj;by_cases h:(c.toNat:Int)=10
  ·rw[aO h,aO h,ft];simp only[cm,aO h,Nat.add_zero]
  ·rw[aX h,aX h,List.drop_succ_cons,Gi r n];simp only[iI];cases r.drop (fj r)<;>rfl
theorem oS:∀(b:Bool)(l:List UInt8)(n:Int),(cm b l n).1<=l.length/\n<=(cm b l n).2/\(cm b l n).2<=n+(l.length:Int)
 |b,[],n=>by cases b<;>simp[cm]
 |true,c::r,n=>by
  unfold cm;have h1:=oS false r (n+1);have h2:=oS true r n;split
  ·simp only[dH];omega
  ·simp only[dH];omega
 |false,c::r,n=>by
  unfold cm;have h1:=oS false r (n+1);have h2:=oS true r n;have h3:=oS false r n;split
  ·simp only[dH];omega
  ·split
   ·simp only[dH];omega
   ·split
    ·simp only[dH];omega
    ·simp only[dH];omega
theorem Gj:∀l:List UInt8,fj l<=l.length
 |[]=>bH _
 |c::r=>by
  unfold fj;have:=Gj r;split
  ·omega
  ·simp only[dH];omega
theorem jG{s:List UInt8}{a:Nat}(h:a<s.length):s.drop a=s[a]::s.drop (a+1):=gq h
theorem YU(s:List UInt8)(line:Int)(hs:s.length<=30000):∀f a,s.length-a<f->a<=s.length->M.vr s line f (a:Int)=some (s,((a+fj (s.drop a):Nat):Int),line):=by
 intro f
 induction f with
 |zero=>intro a h;omega
 |succ f ih=>
  intro a h1 h2;rw[M.vr];rcases cV a s.length with h|h
  ·rw[jG h];unfold fj;simp only[cH,getD_lt h,dK,kY,h,gW,bc,bP,cO,dB h (by omega:s.length<2^62)];by_cases c:(s[a].toNat:Int)=10
   ·rw[show((s[a].toNat:Int) !=10)=false by rw[bne_eq_false_iff_eq];exact c,aO c];rfl
   ·rw[show((s[a].toNat:Int) !=10)=true by rw[pW];exact c,aX c,af,af,ih (a+1) (by omega) (by omega)];congr 4;omega
  ·rw[List.drop_eq_nil_of_le h];have e:decide ((a:Int)<((s.length:Nat):Int))=false:=by rw[iG];omega
   simp only[e,cD,ar,ij,au,af,fj,Nat.add_zero,cF,bQ,Dv,bp,jt,dU];simp
def fb(s:List UInt8)(a:Nat)(line:Int):Int×Int:=(((a+(cm false (s.drop a) line).1:Nat):Int),(cm false (s.drop a) line).2)
theorem YV(s:List UInt8)(hs:s.length<=30000):∀(f a:Nat)(line:Int),s.length-a<f->a<=s.length->0<=line->line+(s.length-a:Nat)<=100000->
 M.oU f s (a:Int) line=some (.inl (fb s a line))\/M.oU f s (a:Int) line=some (.inr (fb s a line)):=by
 intro f
 induction f with
 |zero=>intro a l h;omega
 |succ f ih=>
  intro a line h1 h2 h3 h4;rw[M.oU];rcases cV a s.length with h|h
  ·have w1:=dB h (by omega:s.length<2^62);have w2:Go.IntKind.wrap .i64 (line+1)=line+1:=wrap_i64 (by omega) (by omega);unfold fb;rw[jG h];unfold cm;simp only[cH,getD_lt h,dK,kY,h,gW,bc,bP,cO,au,af,w1,w2];by_cases c10:(s[a].toNat:Int)=10
   ·rw[show((s[a].toNat:Int)==10)=true from dU.2 c10,aO c10,af];have:=ih (a+1) (line+1) (by omega) (by omega) (by omega) (by omega);unfold fb at this;rw[show a+1+(cm false (s.drop (a+1)) (line+1)).1=a+((cm false (s.drop (a+1)) (line+1)).1+1) by omega]at this;exact this
   ·rw[show((s[a].toNat:Int)==10)=false from cN.2 c10,aX c10,ar];by_cases c32:(s[a].toNat:Int)=32
    ·rw[show((s[a].toNat:Int)==32)=true from dU.2 c32,aO c32,af];have:=ih (a+1) line (by omega) (by omega) (by omega) (by omega);unfold fb at this;rw[show a+1+(cm false (s.drop (a+1)) line).1=a+((cm false (s.drop (a+1)) line).1+1) by omega]at this;exact this
    ·rw[show((s[a].toNat:Int)==32)=false from cN.2 c32,aX c32,ar];have hcond:((((s[a].toNat:Int)==47)&&decide (a+1<s.length))&&(((s.getD (a+1) 0).toNat:Int)==47))=decide ((s[a].toNat:Int)=47/\s.drop (a+1)≠[]/\((hd (s.drop (a+1))).toNat:Int)=47):=by
      have e1:hd (s.drop (a+1))=s.getD (a+1) 0:=by
       unfold hd;rcases cV (a+1) s.length with q|q
       ·rw[jG q,getD_lt q];rfl
       ·rw[List.drop_eq_nil_of_le q];simp[List.getD,ki q]
      have e2:(s.drop (a+1)≠[])↔a+1<s.length:=by
       rw[ne_eq,List.drop_eq_nil_iff];omega
      rw[e1,mc];simp only[bz,dU,bN,e2];constructor
      ·rintro ⟨⟨x,y⟩,z⟩;exact⟨x,y,z⟩
      ·rintro ⟨x,y,z⟩;exact⟨⟨x,y⟩,z⟩
     have hin:(decide (a+1<s.length)|| !((((s[a].toNat:Int)==47)&&decide (a+1<s.length))==true))=true:=by
      by_cases q:a+1<s.length
      ·simp[q]
      ·simp[q]
     rw[hcond];by_cases oV:(s[a].toNat:Int)=47/\s.drop (a+1)≠[]/\((hd (s.drop (a+1))).toNat:Int)=47
     ·rw[eX oV,aO oV,af,YU s line hs ai a (by have:=bB;omega) h2];simp only[hin,af];have hcl:=Gj (s.drop a);rw[List.length_drop]at hcl;have hc1:fj (s.drop a)=fj (s.drop (a+1))+1:=by
       rw[jG h,fj,aX (by omega)]
      have:=ih (a+fj (s.drop a)) line (by omega) (by omega) h3 (by omega);have hk:fb s (a+fj (s.drop a)) line=(((a+((cm true (s.drop (a+1)) line).1+1):Nat):Int),(cm true (s.drop (a+1)) line).2):=by
       unfold fb;rw[Gi,hc1,wL];rw[show a+(fj (s.drop (a+1))+1)=a+1+fj (s.drop (a+1)) by omega];congr 2;omega
      rw[hk]at this;exact this
     ·rw[fL oV,aX oV,ar];simp only[hin,af];exact .inl rfl
  ·unfold fb;rw[List.drop_eq_nil_of_le h,fL (show ¬(a:Int)<((s.length:Nat):Int) by omega)];exact .inr rfl
theorem LS(s:List UInt8)(hs:s.length<=30000)(a:Nat)(line:Int)(h2:a<=s.length)(h3:0<=line)(h4:line+(s.length-a:Nat)<=100000):M.so s (a:Int) line=some (fb s a line):=by
 unfold M.so;rcases YV s hs ai a line (by have:=bB;omega) h2 h3 h4 with e|e<;>rw[e]
end M
namespace M
open Go.V (inB bT ai bB)
theorem YW(s:List UInt8)(line:Int)(o:List ae)(hs:s.length<=30000):∀f a,s.length-a<f->a<=s.length->M.vt s line o f (a:Int)=some (s,((a+fj (s.drop a):Nat):Int),line,o):=by
 intro f
 induction f with
 |zero=>intro a h;omega
 |succ f ih=>
  intro a h1 h2;rw[M.vt];rcases cV a s.length with h|h
  ·rw[jG h];unfold fj;simp only[cH,getD_lt h,dK,kY,h,gW,bc,bP,cO,dB h (by omega:s.length<2^62)];by_cases c:(s[a].toNat:Int)=10
   ·rw[show((s[a].toNat:Int) !=10)=false by rw[bne_eq_false_iff_eq];exact c,aO c];rfl
   ·rw[show((s[a].toNat:Int) !=10)=true by rw[pW];exact c,aX c,af,af,ih (a+1) (by omega) (by omega)];congr 4;omega
  ·rw[List.drop_eq_nil_of_le h];have e:decide ((a:Int)<((s.length:Nat):Int))=false:=by rw[iG];omega
   simp only[e,cD,ar,ij,au,af,fj,Nat.add_zero,cF,bQ,Dv,bp,jt,dU];simp
theorem pre2(s:List UInt8)(hs:s.length<=30000)(a:Nat)(x y:UInt8)(h:a<s.length):
 M.strings_HasPrefix (List.drop a (List.take s.length s)) [x,y]=some (decide (s[a]=x/\s.drop (a+1)≠[]/\hd (s.drop (a+1))=y)):=by
 have e0:List.drop a (List.take s.length s)=s[a]::s.drop (a+1):=by
  rw[List.take_length,jG h]
 rw[e0];unfold M.strings_HasPrefix M.AT;generalize s[a]=c;cases hd0:s.drop (a+1)with
 |nil=>simp[bT]
 |cons d r=>
  have e1:decide ((([x,y].length:Nat):Int)<=(((c::d::r).length:Nat):Int))=true:=by rw[bN];simp only[dH,fM];omega
  have e2:bT 0 (([x,y].length:Nat):Int) (c::d::r).length=true:=by
   unfold bT;simp only[bz,bN];simp only[dH,fM];omega
  simp only[e1,e2,bP,au,af,bc,ay,aw];congr 1;rw[mc,dU,bN];show[c,d]=[x,y]↔_
  simp[hd]
theorem toNat_eq{a b:UInt8}:(a.toNat:Int)=(b.toNat:Int)↔a=b:=by
 rw[Int.ofNat_inj];exact UInt8.toNat_inj
theorem YX(s:List UInt8)(o:List ae)(hs:s.length<=30000):∀(f a:Nat)(line:Int),s.length-a<f->a<=s.length->0<=line->line+(s.length-a:Nat)<=100000->
 M.oW f s (a:Int) line o=some (.inl (s,(fb s a line).1,(fb s a line).2,o))\/M.oW f s (a:Int) line o=some (.inr (s,(fb s a line).1,(fb s a line).2,o)):=by
 intro f
 induction f with
 |zero=>intro a l h;omega
 |succ f ih=>
  intro a line h1 h2 h3 h4;rw[M.oW];rcases cV a s.length with h|h
  ·have w1:=dB h (by omega:s.length<2^62);have w2:Go.IntKind.wrap .i64 (line+1)=line+1:=wrap_i64 (by omega) (by omega);have hp:=pre2 s hs a 47 47 h;have hsl:bT (a:Int) ((s.length:Nat):Int) s.length=true:=by unfold bT;simp only[bz,bN];omega
   unfold fb;rw[jG h];unfold cm;simp only[hp,hsl,cH,getD_lt h,dK,kY,h,gW,bc,bP,cO,au,af,w1,w2,aw,ay];by_cases c10:(s[a].toNat:Int)=10
   ·rw[show((s[a].toNat:Int)==10)=true from dU.2 c10,aO c10,af];have:=ih (a+1) (line+1) (by omega) (by omega) (by omega) (by omega);unfold fb at this;rw[show a+1+(cm false (s.drop (a+1)) (line+1)).1=a+((cm false (s.drop (a+1)) (line+1)).1+1) by omega]at this;exact this
   ·rw[show((s[a].toNat:Int)==10)=false from cN.2 c10,aX c10,ar];by_cases c32:(s[a].toNat:Int)=32
    ·rw[show((s[a].toNat:Int)==32)=true from dU.2 c32,aO c32,af];have:=ih (a+1) line (by omega) (by omega) (by omega) (by omega);unfold fb at this;rw[show a+1+(cm false (s.drop (a+1)) line).1=a+((cm false (s.drop (a+1)) line).1+1) by omega]at this;exact this
    ·rw[show((s[a].toNat:Int)==32)=false from cN.2 c32,aX c32,ar];have hcond:decide (s[a]=47/\s.drop (a+1)≠[]/\hd (s.drop (a+1))=47)=decide ((s[a].toNat:Int)=47/\s.drop (a+1)≠[]/\((hd (s.drop (a+1))).toNat:Int)=47):=by
      rw[lG];have e1:((s[a].toNat:Int)=47)↔s[a]=47:=toNat_eq (b:=47);have e2:(((hd (s.drop (a+1))).toNat:Int)=47)↔hd (s.drop (a+1))=47:=toNat_eq (b:=47);rw[e1,e2]
     rw[hcond];by_cases oV:(s[a].toNat:Int)=47/\s.drop (a+1)≠[]/\((hd (s.drop (a+1))).toNat:Int)=47
     ·rw[eX oV,aO oV,af,YW s line o hs ai a (by have:=bB;omega) h2];simp only[af];have hcl:=Gj (s.drop a);rw[List.length_drop]at hcl;have hc1:fj (s.drop a)=fj (s.drop (a+1))+1:=by
       rw[jG h,fj,aX (by omega)]
      have:=ih (a+fj (s.drop a)) line (by omega) (by omega) h3 (by omega);have hk:fb s (a+fj (s.drop a)) line=(((a+((cm true (s.drop (a+1)) line).1+1):Nat):Int),(cm true (s.drop (a+1)) line).2):=by
       unfold fb;rw[Gi,hc1,wL];rw[show a+(fj (s.drop (a+1))+1)=a+1+fj (s.drop (a+1)) by omega];congr 2;omega
      rw[hk]at this;exact this
     ·rw[fL oV,aX oV,ar];simp only[af];exact .inl rfl
  ·unfold fb;rw[List.drop_eq_nil_of_le h,fL (show ¬(a:Int)<((s.length:Nat):Int) by omega)];exact .inr rfl
theorem LU(s:List UInt8)(o:List ae)(hs:s.length<=30000)(a:Nat)(line:Int)(h2:a<=s.length)(h3:0<=line)(h4:line+(s.length-a:Nat)<=100000):M.sq s (a:Int) line o=some (s,(fb s a line).1,(fb s a line).2,o):=by
 unfold M.sq;rcases YX s o hs ai a line (by have:=bB;omega) h2 h3 h4 with e|e<;>rw[e]
def ib:List UInt8->Nat
 |[]=>0
 |c::r=>if(f8 c||eS c)||((decide ((c.toNat:Int)=45)&&decide (r≠[]))&&(f8 (hd r)||eS (hd r)))then ib r+1 else 0
def gJ:List UInt8->Nat
 |[]=>0
 |c::r=>if eS c||((decide ((c.toNat:Int)=46)&&decide (r≠[]))&&eS (hd r))then gJ r+1 else 0
theorem Gk:∀l:List UInt8,ib l<=l.length
 |[]=>bH _
 |c::r=>by
  unfold ib;have:=Gk r;split
  ·simp only[dH];omega
  ·omega
theorem Gl:∀l:List UInt8,gJ l<=l.length
 |[]=>bH _
 |c::r=>by
  unfold gJ;have:=Gl r;split
  ·simp only[dH];omega
  ·omega
theorem xE(s:List UInt8)(a:Nat):hd (s.drop (a+1))=s.getD (a+1) 0:=by
 unfold hd;rcases cV (a+1) s.length with q|q
 ·rw[jG q,getD_lt q];rfl
 ·rw[List.drop_eq_nil_of_le q];simp[List.getD,ki q]
theorem AU(s:List UInt8)(a:Nat):decide (s.drop (a+1)≠[])=decide (a+1<s.length):=by
 rw[lG,ne_eq,List.drop_eq_nil_iff];omega
theorem YY(s:List UInt8)(hs:s.length<=30000):∀(f a:Nat),s.length-a<f->a<=s.length->
 M.sr s f (a:Int)=some (.inl ((a+ib (s.drop a):Nat):Int))\/M.sr s f (a:Int)=some (.inr ((a+ib (s.drop a):Nat):Int)):=by
 intro f
 induction f with
 |zero=>intro a h;omega
 |succ f ih=>
  intro a h1 h2;rw[M.sr];rcases cV a s.length with h|h
  ·have w1:=dB h (by omega:s.length<2^62);rw[jG h];unfold ib;rw[xE,AU];simp only[cH,getD_lt h,dK,kY,h,gW,bc,bP,cO,au,af,w1];have eL:∀c:UInt8,(decide ((97:Int)<=(c.toNat:Int))&&decide ((c.toNat:Int)<=122))=f8 c:=fun c=>rfl
   have eD:∀c:UInt8,(decide ((48:Int)<=(c.toNat:Int))&&decide ((c.toNat:Int)<=57))=eS c:=fun c=>rfl
   simp only[eL,eD];have e45:((s[a].toNat:Int)==45)=decide ((s[a].toNat:Int)=45):=by rw[mc,dU,bN]
   rw[e45];have ih':=ih (a+1) (by omega) (by omega);rw[show a+1+ib (s.drop (a+1))=a+(ib (s.drop (a+1))+1) by omega]at ih';generalize s.getD (a+1) 0=d;generalize decide (a+1<s.length)=b1;generalize decide ((s[a].toNat:Int)=45)=b2;cases f8 s[a]<;>cases eS s[a]<;>cases b1<;>cases b2<;>cases f8 d<;>cases eS d<;>first|exact ih'|exact .inl rfl
  ·rw[List.drop_eq_nil_of_le h,fL (show ¬(a:Int)<((s.length:Nat):Int) by omega)];exact .inr rfl
theorem YZ(s:List UInt8)(hs:s.length<=30000):∀(f a:Nat),s.length-a<f->a<=s.length->
 M.su s f (a:Int)=some (.inl ((a+gJ (s.drop a):Nat):Int))\/M.su s f (a:Int)=some (.inr ((a+gJ (s.drop a):Nat):Int)):=by
 intro f
 induction f with
 |zero=>intro a h;omega
 |succ f ih=>
  intro a h1 h2;rw[M.su];rcases cV a s.length with h|h
  ·have w1:=dB h (by omega:s.length<2^62);rw[jG h];unfold gJ;rw[xE,AU];simp only[cH,getD_lt h,dK,kY,h,gW,bc,bP,cO,au,af,w1];have eD:∀c:UInt8,(decide ((48:Int)<=(c.toNat:Int))&&decide ((c.toNat:Int)<=57))=eS c:=fun c=>rfl
   simp only[eD];have e45:((s[a].toNat:Int)==46)=decide ((s[a].toNat:Int)=46):=by rw[mc,dU,bN]
   rw[e45];have ih':=ih (a+1) (by omega) (by omega);rw[show a+1+gJ (s.drop (a+1))=a+(gJ (s.drop (a+1))+1) by omega]at ih';generalize s.getD (a+1) 0=d;generalize decide (a+1<s.length)=b1;generalize decide ((s[a].toNat:Int)=46)=b2;cases eS s[a]<;>cases b1<;>cases b2<;>cases eS d<;>first|exact ih'|exact .inl rfl
  ·rw[List.drop_eq_nil_of_le h,fL (show ¬(a:Int)<((s.length:Nat):Int) by omega)];exact .inr rfl
theorem Y0(s:List UInt8)(hs:s.length<=30000)(a:Nat)(h2:a<=s.length):M.xF s (a:Int)=some ((a+ib (s.drop a):Nat):Int):=by
 unfold M.xF;rcases YY s hs ai a (by have:=bB;omega) h2 with e|e<;>rw[e]
theorem Y1(s:List UInt8)(hs:s.length<=30000)(a:Nat)(h2:a<=s.length):M.xG s (a:Int)=some ((a+gJ (s.drop a):Nat):Int):=by
 unfold M.xG;rcases YZ s hs ai a (by have:=bB;omega) h2 with e|e<;>rw[e]
end M
namespace M
open Go.V (inB bT ai bB)
theorem Y2(s:List UInt8)(x2 x3:Int)(o:List ae)(hs:s.length<=30000)(a:Nat):M.xH (gu.mk s x2 x3 o) (a:Int)=some ((s.getD a 0).toNat:Int):=by
 unfold M.xH;by_cases h:a<s.length
 ·have e:decide (((s.length:Nat):Int)<=(a:Int))=false:=by rw[iG];omega
  have e2:inB (a:Int) s.length=true:=by rw[dK];simpa using h
  simp only[e,e2,ar,au,af,cH]
 ·have e:decide (((s.length:Nat):Int)<=(a:Int))=true:=by rw[bN];omega
  rw[show s.getD a 0=0 by simp[List.getD,ki (Nat.le_of_not_lt h)]];simp only[e,af];rfl
theorem Y3:f8 0=false:=by decide
theorem Y4:eS 0=false:=by decide
def vu(word:Bool)(l:List UInt8):Nat:=bif word then ib l else gJ l
theorem getD_none{s:List UInt8}{a:Nat}(h:¬a<s.length):s.getD a 0=0:=by simp[List.getD,ki (Nat.le_of_not_lt h)]
theorem Y5(s:List UInt8)(x2 x3:Int)(o:List ae)(word:Bool)(hs:s.length<=30000):∀(f a:Nat),s.length-a<f->a<=s.length->
 M.vv (gu.mk s x2 x3 o) word f (a:Int)=some ((a+vu word (s.drop a):Nat):Int):=by
 intro f
 induction f with
 |zero=>intro a h;omega
 |succ f ih=>
  intro a h1 h2;rw[M.vv];rcases cV a s.length with h|h
  ·have w1:=dB h (by omega:s.length<2^62);rw[jG h];have ih':=ih (a+1) (by omega) (by omega);have eL:∀c:UInt8,(decide ((97:Int)<=(c.toNat:Int))&&decide ((c.toNat:Int)<=122))=f8 c:=fun c=>rfl
   have eD:∀c:UInt8,(decide ((48:Int)<=(c.toNat:Int))&&decide ((c.toNat:Int)<=57))=eS c:=fun c=>rfl
   simp only[w1,Y2 s x2 x3 o hs,aw,ay,cH,getD_lt h,dK,kY,h,gW,bc,cO,au,af,eL,eD];have e45:((s[a].toNat:Int)==45)=decide ((s[a].toNat:Int)=45):=by rw[mc,dU,bN]
   have e46:((s[a].toNat:Int)==46)=decide ((s[a].toNat:Int)=46):=by rw[mc,dU,bN]
   rw[e45,e46];have hz:¬a+1<s.length->f8 (s.getD (a+1) 0)=false/\eS (s.getD (a+1) 0)=false:=fun q=>by rw[getD_none q];exact⟨Y3,Y4⟩
   have hz1:decide (a+1<s.length)=false->f8 (s.getD (a+1) 0)=false/\eS (s.getD (a+1) 0)=false:=fun q=>hz (by simpa using q)
   cases word
   ·simp only[vu,ar]at ih'⊢;rw[show a+1+gJ (s.drop (a+1))=a+(gJ (s.drop (a+1))+1) by omega]at ih';unfold gJ;rw[xE,AU];generalize s.getD (a+1) 0=d at*;generalize decide (a+1<s.length)=b1 at*;generalize decide ((s[a].toNat:Int)=46)=b2;cases b1
    ·rw[(hz1 rfl).2];cases eS s[a]<;>cases b2<;>first|exact ih'|rfl
    ·cases eS s[a]<;>cases b2<;>cases eS d<;>first|exact ih'|rfl
   ·simp only[vu,af]at ih'⊢;rw[show a+1+ib (s.drop (a+1))=a+(ib (s.drop (a+1))+1) by omega]at ih';unfold ib;rw[xE,AU];generalize s.getD (a+1) 0=d at*;generalize decide (a+1<s.length)=b1 at*;generalize decide ((s[a].toNat:Int)=45)=b2;cases b1
    ·rw[(hz1 rfl).1,(hz1 rfl).2];cases f8 s[a]<;>cases eS s[a]<;>cases b2<;>first|exact ih'|rfl
    ·cases f8 s[a]<;>cases eS s[a]<;>cases b2<;>cases f8 d<;>cases eS d<;>first|exact ih'|rfl
  ·rw[List.drop_eq_nil_of_le h,fL (show ¬(a:Int)<((s.length:Nat):Int) by omega)];cases word<;>rfl
theorem Y6(s:List UInt8)(x2 x3:Int)(o:List ae)(hs:s.length<=30000)(a:Nat)(h:a<s.length):M.vx (gu.mk s x2 x3 o) (a:Int)=some ((a+1+vu (f8 s[a]) (s.drop (a+1)):Nat):Int):=by
 unfold M.vx;have w1:=dB h (by omega:s.length<2^62);have eL:(decide ((97:Int)<=(s[a].toNat:Int))&&decide ((s[a].toNat:Int)<=122))=f8 s[a]:=rfl;have e:=Y5 s x2 x3 o (f8 s[a]) hs ai (a+1) (by have:=bB;omega) (by omega);have hin:inB (a:Int) s.length=true:=by rw[dK];simpa using h
 simp only[cH,getD_lt h,eL,w1,e,hin,au,af]
def qx:List UInt8:=[123,125,40,41,60,62,44,59,58,61,46,47,64,95]
def isS(c:UInt8):Bool:=qx.any fun x=>x==c
theorem LV:∀(l:List UInt8)(c:UInt8),decide ((0:Int)<=Go.Lib.indexByte l c)=l.any fun x=>x==c
 |[],c=>rfl
 |b::l,c=>by
  have ih:=LV l c;have hg:=Go.Lib.indexByte_ge l c;unfold Go.Lib.indexByte;rw[List.any_cons,<-ih];cases hb:(b==c)
  ·rw[aX (by simp),md];by_cases h:Go.Lib.indexByte l c= -1
   ·rw[aO (by rw[h];rfl),h]
   ·rw[aX (by rw[dU];exact h),eX (by omega),eX (by omega)]
  ·rw[aO rfl];rfl
theorem Y7(c:UInt8):decide ((0:Int)<=M.xC [(123:UInt8),(125:UInt8),(40:UInt8),(41:UInt8),(60:UInt8),(62:UInt8),(44:UInt8),(59:UInt8),(58:UInt8),(61:UInt8),(46:UInt8),(47:UInt8),(64:UInt8),(95:UInt8)] ((c.toNat:Nat):Int))=isS c:=by
 unfold M.xC isS qx;rw[cH,show c.toNat.toUInt8=c from UInt8.ofNat_toNat];exact LV _ c
theorem Y8(c:UInt8):M.xI ((c.toNat:Nat):Int)=some (isS c):=by
 have e:=Gm (p:=fun x:UInt8=>x==c) (F:=M.qy ((c.toNat:Nat):Int) qx) (e:=()) (fun _=>true) qx (by decide) (fun f k hk=>by
  rw[M.qy];have hb:(((qx[k].toNat:Nat):Int)==((c.toNat:Nat):Int))=(qx[k]==c):=by
   rw[mc,dU,dU];exact toNat_eq
  simp only[getD_lt hk,cH,dK,kY,hk,gW,af,cO,hb,dB hk (by decide:qx.length<2^62)]) (fun f=>by
  rw[M.qy];simp)
 unfold M.xI isS;rw[show M.qy ((c.toNat:Nat):Int) [(123:UInt8),(125:UInt8),(40:UInt8),(41:UInt8),(60:UInt8),(62:UInt8),(44:UInt8),(59:UInt8),(58:UInt8),(61:UInt8),(46:UInt8),(47:UInt8),(64:UInt8),(95:UInt8)] ai 0=_ from e,Y9];cases qx.findIdx? (fun x=>x==c)<;>rfl
def fG(c:UInt8)(r:List UInt8):Int×Nat:=
 bif f8 c then(1,1+ib r)else bif eS c then(2,1+gJ r)else bif decide (c=45/\r≠[]/\hd r=62)then(3,2)else bif isS c then(3,1)else(0,0)
theorem LW(c:UInt8)(r:List UInt8):(fG c r).2<=1+r.length:=by
 unfold fG;have h1:=Gk r;have h2:=Gl r;cases f8 c
 ·cases eS c
  ·cases hc:decide (c=45/\r≠[]/\hd r=62)
   ·cases isS c<;>simp
   ·rw[bN]at hc;have:0<r.length:=List.length_pos_iff.2 hc.2.1;simp only[ar,af];omega
  ·simp only[ar,af];omega
 ·simp only[af];omega
theorem Gn(c:UInt8)(r:List UInt8)(h:(fG c r).1≠0):1<=(fG c r).2:=by
 unfold fG at h⊢;cases h1:f8 c
 ·cases h2:eS c
  ·cases hc:decide (c=45/\r≠[]/\hd r=62)
   ·cases hS:isS c
    ·rw[h1,h2,hc,hS]at h;exact(h rfl).elim
    ·simp
   ·simp
  ·simp
 ·simp
theorem Za(s:List UInt8)(x3:Int)(o:List ae)(hs:s.length<=30000)(a:Nat)(h:a<s.length):
 M.xJ (gu.mk s (a:Int) x3 o)=some ((fG s[a] (s.drop (a+1))).1,bif(fG s[a] (s.drop (a+1))).1==0 then 0 else((a+(fG s[a] (s.drop (a+1))).2:Nat):Int)):=by
 unfold M.xJ fG;have eL:(decide ((97:Int)<=(s[a].toNat:Int))&&decide ((s[a].toNat:Int)<=122))=f8 s[a]:=rfl;have eD:(decide ((48:Int)<=(s[a].toNat:Int))&&decide ((s[a].toNat:Int)<=57))=eS s[a]:=rfl;have hin:inB (a:Int) s.length=true:=by rw[dK];simpa using h
 have hp:=pre2 s hs a 45 62 h;have hsl:bT (a:Int) ((s.length:Nat):Int) s.length=true:=by unfold bT;simp only[bz,bN];omega
 have w1:=dB h (by omega:s.length<2^62);have w2:Go.IntKind.wrap .i64 ((a:Int)+2)=((a+2:Nat):Int):=by rw[wrap_i64 (by omega) (by omega)];omega
 simp only[cH,getD_lt h,eL,eD,Y6 s _ x3 o hs a h,hp,hsl,hin,w1,w2,Y7,aw,ay,au,af];cases hl:f8 s[a]
 ·cases hd':eS s[a]
  ·simp only[ar];cases decide (s[a]=45/\s.drop (a+1)≠[]/\hd (s.drop (a+1))=62)
   ·cases isS s[a]<;>rfl
   ·rfl
  ·simp only[ar,af,vu];rw[show a+1+gJ (s.drop (a+1))=a+(1+gJ (s.drop (a+1))) by omega];rfl
 ·simp only[af,vu];rw[show a+1+ib (s.drop (a+1))=a+(1+ib (s.drop (a+1))) by omega];rfl
def mD(s:List UInt8)(a n:Nat):List UInt8:=(s.drop a).take n
theorem AW(s:List UInt8)(a n:Nat):List.drop a (List.take (a+n) s)=mD s a n:=by
 unfold mD;rw[List.drop_take];congr 1;omega
theorem Zb(s:List UInt8)(hs:s.length<=30000)(a:Nat)(h:a<s.length):
 M.xK s (a:Int)=some (bif(fG s[a] (s.drop (a+1))).1==0 then(ae.mk 0 [] 0,0)else(ae.mk (fG s[a] (s.drop (a+1))).1 (mD s a (fG s[a] (s.drop (a+1))).2) 0,((a+(fG s[a] (s.drop (a+1))).2:Nat):Int))):=by
 unfold M.xK fG;have eL:(decide ((97:Int)<=(s[a].toNat:Int))&&decide ((s[a].toNat:Int)<=122))=f8 s[a]:=rfl;have eD:(decide ((48:Int)<=(s[a].toNat:Int))&&decide ((s[a].toNat:Int)<=57))=eS s[a]:=rfl;have hin:inB (a:Int) s.length=true:=by rw[dK];simpa using h
 have w1:=dB h (by omega:s.length<2^62);have w2:Go.IntKind.wrap .i64 ((a:Int)+2)=((a+2:Nat):Int):=by rw[wrap_i64 (by omega) (by omega)];omega
 have hw:=Y0 s hs a (by omega);have hn:=Y1 s hs a (by omega);simp only[cH,getD_lt h,eL,eD,hin,hw,hn,w1,w2,Y8,aw,ay,au,af];have hlen:(s.drop (a+1)).length=s.length-(a+1):=List.length_drop;cases hl:f8 s[a]
 ·cases hd':eS s[a]
  ·simp only[ar];have hcond:(((((s[a].toNat:Nat):Int)==45)&&decide (((a+1:Nat):Int)<((s.length:Nat):Int)))&&((((s.getD (a+1) 0).toNat:Nat):Int)==62))=decide (s[a]=45/\s.drop (a+1)≠[]/\hd (s.drop (a+1))=62):=by
    have e1:((s[a].toNat:Int)=45)↔s[a]=45:=toNat_eq (b:=45);have e3:(((s.getD (a+1) 0).toNat:Int)=62)↔s.getD (a+1) 0=62:=toNat_eq (b:=62);have e2:(s.drop (a+1)≠[])↔a+1<s.length:=by
     rw[ne_eq,List.drop_eq_nil_iff];omega
    rw[xE,mc];simp only[bz,dU,bN,e1,e2,e3,kY];constructor
    ·rintro ⟨⟨x,y⟩,z⟩;exact⟨x,y,z⟩
    ·rintro ⟨x,y,z⟩;exact⟨⟨x,y⟩,z⟩
   have hin2:(inB ((a+1:Nat):Int) s.length|| !(((((s[a].toNat:Nat):Int)==45)&&decide (((a+1:Nat):Int)<((s.length:Nat):Int)))==true))=true:=by
    rw[dK];by_cases q:a+1<s.length
    ·simp[q]
    ·have:decide (((a+1:Nat):Int)<(s.length:Int))=false:=by rw[iG];omega
     rw[this,Bool.and_false];simp
   have hsl1:bT (a:Int) ((a+1:Nat):Int) s.length=true:=by unfold bT;simp only[bz,bN];omega
   rw[hcond,hin2,hsl1];cases hc:decide (s[a]=45/\s.drop (a+1)≠[]/\hd (s.drop (a+1))=62)with
   |false=>
    cases isS s[a]
    ·rfl
    ·rw[AW];rfl
   |true=>
    rw[bN]at hc;have hT:mD s a 2=[45,62]:=by
     unfold mD;rw[jG h,hc.1];cases hq:s.drop (a+1)with
     |nil=>exact absurd hq hc.2.1
     |cons d r=>
      have:=hc.2.2;rw[hq]at this;show(45:UInt8)::[d]=[45,62]
      rw[show d=62 from this]
    simp only[af,hT];rfl
  ·simp only[ar,af];have e:gJ (s.drop a)=1+gJ (s.drop (a+1)):=by
    rw[jG h,gJ,aO (by rw[hd',bP])];omega
   have hle:=Gl (s.drop (a+1));have hsl:bT (a:Int) ((a+(1+gJ (s.drop (a+1))):Nat):Int) s.length=true:=by unfold bT;simp only[bz,bN];omega
   rw[e,hsl,AW];rfl
 ·simp only[af];have e:ib (s.drop a)=1+ib (s.drop (a+1)):=by
   rw[jG h,ib,aO (by rw[hl,bP,bP])];omega
  have hle:=Gk (s.drop (a+1));have hsl:bT (a:Int) ((a+(1+ib (s.drop (a+1))):Nat):Int) s.length=true:=by unfold bT;simp only[bz,bN];omega
  rw[e,hsl,AW];rfl
end M
namespace M
open Go.V (inB bT ai bB)
theorem sw:∀(b:Bool)(l:List UInt8)(n:Int),(cm b l n).2<=n+((cm b l n).1:Int)
 |b,[],n=>by cases b<;>simp[cm]
 |true,c::r,n=>by
  unfold cm;have h1:=sw false r (n+1);have h2:=sw true r n;split
  ·simp only;omega
  ·simp only;omega
 |false,c::r,n=>by
  unfold cm;have h1:=sw false r (n+1);have h2:=sw true r n;have h3:=sw false r n;split
  ·simp only;omega
  ·split
   ·simp only;omega
   ·split
    ·simp only;omega
    ·simp only;omega
def iR(s:List UInt8):Nat->Nat->Int->List ae->(Int×Int)⊕(Int×List ae)
 |0,_,_,_=>.inl (0,0)
 |n+1,a,line,out=>if a<s.length then
   if(fG (s.getD a 0) (s.drop (a+1))).1=0 then .inl (line,6)else if out.length=4000 then .inl (line,4)
   else iR s n (a+(fG (s.getD a 0) (s.drop (a+1))).2+(cm false (s.drop (a+(fG (s.getD a 0) (s.drop (a+1))).2)) line).1) (cm false (s.drop (a+(fG (s.getD a 0) (s.drop (a+1))).2)) line).2
    (out++[ae.mk (fG (s.getD a 0) (s.drop (a+1))).1 (mD s a (fG (s.getD a 0) (s.drop (a+1))).2) line])
  else .inr (line,out)
theorem Zc(s:List UInt8)(hs:s.length<=30000):∀(f a:Nat)(line:Int)(out:List ae),s.length-a<f->a<=s.length->0<=line->line<=50000+(a:Int)->out.length<=4000->
 M.vy s f (a:Int) line out=some (match iR s f a line out with
   |.inl x=>.inl (x.1,x.2,[])
   |.inr y=>.inr y):=by
 intro f
 induction f with
 |zero=>intro a l o h;omega
 |succ f ih=>
  intro a line out h1 h2 h3 h4 ho;rw[M.vy,iR];rcases cV a s.length with h|h
  ·rw[aO h,eX (show(a:Int)<((s.length:Nat):Int) by omega),af,Zb s hs a h,getD_lt h];have hle:=LW s[a] (s.drop (a+1));have hpos:=Gn s[a] (s.drop (a+1));rw[List.length_drop]at hle;generalize fG s[a] (s.drop (a+1))=x at*;by_cases hx:x.1=0
   ·rw[aO hx,show(x.1==0)=true from dU.2 hx];rfl
   ·have hp:=hpos hx;have hne:(((a+x.2:Nat):Int)==0)=false:=by rw[cN];omega
    have hsk:=LS s hs (a+x.2) line (by omega) h3 (by omega);have hcl:=oS false (s.drop (a+x.2)) line;have hcn:=sw false (s.drop (a+x.2)) line;rw[List.length_drop]at hcl;rw[aX hx,show(x.1==0)=false from cN.2 hx];simp only[ar,aw,ay,hne,au,af];by_cases lP:out.length=4000
    ·rw[aO lP,show(((out.length:Nat):Int)==4000)=true by rw[dU];omega];rfl
    ·rw[aX lP,show(((out.length:Nat):Int)==4000)=false by rw[cN];omega];have hc:∀t:ae,decide (out.length+[t].length<=1073741824)=true:=fun t=>by rw[bN,List.length_singleton];omega
     simp only[ar,hsk,hc,aw,ay,au,af];unfold fb;exact ih _ _ _ (by omega) (by omega) (by omega) (by omega) (by rw[cq,List.length_singleton];omega)
  ·rw[aX (by omega),fL (show ¬(a:Int)<((s.length:Nat):Int) by omega)];rfl
theorem Zd(s:List UInt8)(hs:s.length<=30000):∀(f a:Nat)(line:Int)(out:List ae),s.length-a<f->a<=s.length->0<=line->line<=50000+(a:Int)->out.length<=4000->
 ∃a':Int,M.vz s f s (a:Int) line out=some (match iR s f a line out with
  |.inl x=>.inl (x.1,x.2)
  |.inr y=>.inr (s,a',y.1,y.2)):=by
 intro f
 induction f with
 |zero=>intro a l o h;omega
 |succ f ih=>
  intro a line out h1 h2 h3 h4 ho;rw[M.vz,iR];rcases cV a s.length with h|h
  ·rw[aO h,eX (show(a:Int)<((s.length:Nat):Int) by omega),af,Za s line out hs a h,getD_lt h];have hle:=LW s[a] (s.drop (a+1));have hpos:=Gn s[a] (s.drop (a+1));rw[List.length_drop]at hle;generalize fG s[a] (s.drop (a+1))=x at*;by_cases hx:x.1=0
   ·rw[aO hx];simp only[aw,ay,show(x.1==0)=true from dU.2 hx,af,au];exact⟨0,trivial⟩
   ·have hp:=hpos hx;have hsk:=LU s (out++[ae.mk x.1 (mD s a x.2) line]) hs (a+x.2) line (by omega) h3 (by omega);have hcl:=oS false (s.drop (a+x.2)) line;have hcn:=sw false (s.drop (a+x.2)) line;rw[List.length_drop]at hcl;rw[aX hx];simp only[aw,ay,show(x.1==0)=false from cN.2 hx,ar,af,au];by_cases lP:out.length=4000
    ·rw[aO lP,show(((out.length:Nat):Int)==4000)=true by rw[dU];omega];exact⟨0,rfl⟩
    ·rw[aX lP,show(((out.length:Nat):Int)==4000)=false by rw[cN];omega];have hc:∀t:ae,decide (out.length+[t].length<=1073741824)=true:=fun t=>by rw[bN,List.length_singleton];omega
     have hsl:bT (a:Int) ((a+x.2:Nat):Int) s.length=true:=by unfold bT;simp only[bz,bN];omega
     simp only[ar,cH,AW,hsk,hc,hsl,aw,ay,au,af];unfold fb;exact ih _ _ _ (by omega) (by omega) (by omega) (by omega) (by rw[cq,List.length_singleton];omega)
  ·rw[aX (by omega),fL (show ¬(a:Int)<((s.length:Nat):Int) by omega)];exact⟨_,rfl⟩
theorem AX(s:List UInt8):∀(f a:Nat)(line:Int)(out:List ae)(y:Int×List ae),out.length<=4000->iR s f a line out=.inr y->y.2.length<=4000
 |0,a,line,out,y,ho,h=>by cases h
 |f+1,a,line,out,y,ho,h=>by
  unfold iR at h;split at h
  ·split at h
   ·cases h
   ·split at h
    ·cases h
    ·exact AX s f _ _ _ y (by rw[cq,List.length_singleton];omega) h
  ·cases h;exact ho
noncomputable def dQ(s:List UInt8):List ae×Int×Int:=
 if 30000<s.length then([],0,4)else match iR s ai (cm false s 1).1 (cm false s 1).2 []with
  |.inl x=>([],x.1,x.2)
  |.inr y=>(y.2++[ae.mk 4 [] y.1],0,0)
theorem Ze(s:List UInt8):M.xM s=some (dQ s):=by
 unfold M.xM dQ;by_cases h:30000<s.length
 ·rw[aO h,eX (show(30000:Int)<((s.length:Nat):Int) by omega)];rfl
 ·rw[aX h,fL (show ¬(30000:Int)<((s.length:Nat):Int) by omega)];have hsk:M.so s 0 1=some (fb s 0 1):=LS s (by omega) 0 1 (eY _) (by omega) (by omega);have hcl:=oS false s 1;have e:fb s 0 1=((((cm false s 1).1:Nat):Int),(cm false s 1).2):=by unfold fb;rw[ft,fu]
  have ht:=Zc s (by omega) ai (cm false s 1).1 (cm false s 1).2 [] (by have:=bB;omega) hcl.1 (by omega) (by omega) (by simp);have hlen:=AX s ai (cm false s 1).1 (cm false s 1).2 [];rw[hsk,e];simp only[ar,aw,ay,ht,au];generalize iR s ai (cm false s 1).1 (cm false s 1).2 []=r at*;cases r with
  |inl x=>rfl
  |inr y=>
   have:=hlen y (by simp) rfl;have hc:∀t:ae,decide (y.2.length+[t].length<=1073741824)=true:=fun t=>by rw[bN,List.length_singleton];omega
   simp only[hc,au,af]
theorem Zf(s:List UInt8):M.uv s=some (dQ s):=by
 unfold M.uv dQ;by_cases h:30000<s.length
 ·rw[aO h,eX (show(30000:Int)<((s.length:Nat):Int) by omega)];rfl
 ·rw[aX h,fL (show ¬(30000:Int)<((s.length:Nat):Int) by omega)];have hsk:M.sq s 0 1 []=some (s,(fb s 0 1).1,(fb s 0 1).2,[]):=LU s [] (by omega) 0 1 (eY _) (by omega) (by omega);have hcl:=oS false s 1;have e:fb s 0 1=((((cm false s 1).1:Nat):Int),(cm false s 1).2):=by unfold fb;rw[ft,fu]
  obtain⟨a',ht⟩:=Zd s (by omega) ai (cm false s 1).1 (cm false s 1).2 [] (by have:=bB;omega) hcl.1 (by omega) (by omega) (by simp);have hlen:=AX s ai (cm false s 1).1 (cm false s 1).2 [];rw[hsk,e];simp only[ar,aw,ay,ht,au];generalize iR s ai (cm false s 1).1 (cm false s 1).2 []=r at*;cases r with
  |inl x=>rfl
  |inr y=>
   have:=hlen y (by simp) rfl;have hc:∀t:ae,decide (y.2.length+[t].length<=1073741824)=true:=fun t=>by rw[bN,List.length_singleton];omega
   simp only[hc,au,af]
def vA(t:ae):Prop:=(t.Kind=1\/t.Kind=2\/t.Kind=3)/\(t.Kind=2->∃c r,t.Text=c::r/\eS c=true)
theorem Zg(s:List UInt8)(a:Nat)(line:Int)(h:a<s.length)(hx:(fG (s.getD a 0) (s.drop (a+1))).1≠0):
 vA (ae.mk (fG (s.getD a 0) (s.drop (a+1))).1 (mD s a (fG (s.getD a 0) (s.drop (a+1))).2) line):=by
 rw[getD_lt h]at hx⊢;unfold fG at hx⊢;unfold vA;cases h1:f8 s[a]
 ·cases h2:eS s[a]
  ·cases h3:decide (s[a]=45/\s.drop (a+1)≠[]/\hd (s.drop (a+1))=62)
   ·cases h4:isS s[a]
    ·rw[h1,h2,h3,h4]at hx;exact(hx rfl).elim
    ·exact⟨.inr (.inr rfl),fun q=>by cases q⟩
   ·exact⟨.inr (.inr rfl),fun q=>by cases q⟩
  ·refine⟨.inr (.inl rfl),fun _=>⟨s[a],(s.drop (a+1)).take (gJ (s.drop (a+1))),?_,h2⟩⟩;simp only[ar,af];unfold mD;rw[jG h,uE 1,List.take_succ_cons]
 ·exact⟨.inl rfl,fun q=>by cases q⟩
theorem LX(s:List UInt8):∀(f a:Nat)(line:Int)(out:List ae)(y:Int×List ae),(∀t∈out,vA t)->iR s f a line out=.inr y->∀t∈y.2,vA t
 |0,a,line,out,y,ho,h=>by cases h
 |f+1,a,line,out,y,ho,h=>by
  unfold iR at h;split at h
  ·rename_i hl;split at h
   ·cases h
   ·rename_i hx;split at h
    ·cases h
    ·refine LX s f _ _ _ y (fun t ht=>?_) h;rcases dG.1 ht with q|q
     ·exact ho t q
     ·rw[kV]at q;rw[q];exact Zg s a line hl hx
  ·cases h;exact ho
structure bI (l:List ae):Prop where
 ex:∃o e,l=o++[e]/\e.Kind=4/\e.Text=[]/\(∀t∈o,vA t)/\o.length<=4000
theorem Gp(s:List UInt8)(h:(dQ s).2.2=0):bI (dQ s).1:=by
 unfold dQ at h⊢;split at h
 ·cases h
 ·rename_i hl;rw[aX hl];have hlen:=AX s ai (cm false s 1).1 (cm false s 1).2 [];have hok:=LX s ai (cm false s 1).1 (cm false s 1).2 [];have hcode:∀(f a:Nat)(line:Int)(out:List ae)(x:Int×Int),s.length-a<f->iR s f a line out=.inl x->x.2≠0:=fun f=>by
   induction f with
   |zero=>intro a line out x hf;omega
   |succ f ih=>
    intro a line out x hf hx;unfold iR at hx;split at hx
    ·rename_i ha;split at hx
     ·cases hx;intro q;cases q
     ·rename_i hx0;split at hx
      ·cases hx;intro q;cases q
      ·have hp:=Gn _ _ hx0;exact ih _ _ _ x (by omega) hx
    ·cases hx
  have hc:=hcode ai (cm false s 1).1 (cm false s 1).2 [];generalize iR s ai (cm false s 1).1 (cm false s 1).2 []=r at*;cases r with
  |inl x=>exact absurd h (hc x (by have:=bB;omega) rfl)
  |inr y=>exact⟨y.2,_,rfl,rfl,rfl,hok y (by simp) rfl,hlen y (by simp) rfl⟩
end M
namespace M
open Go.V (inB bT ai bB)
theorem bI.pos{l:List ae}(h:bI l):0<l.length:=by
 obtain⟨o,e,rfl,-⟩:=h.ex;simp
theorem bI.len{l:List ae}(h:bI l):l.length<=4001:=by
 obtain⟨o,e,rfl,-,-,-,h4⟩:=h.ex;simp;omega
theorem bI.mid{l:List ae}(h:bI l){k:Nat}(hk:k+1<l.length):vA (l.getD k ae.zero):=by
 obtain⟨o,e,rfl,-,-,ho,-⟩:=h.ex;rw[cq,List.length_singleton]at hk;have hk':k<o.length:=by omega
 rw[getD_lt (show k<(o++[e]).length by rw[cq,List.length_singleton];omega),List.getElem_append_left hk'];exact ho _ (eH hk')
theorem bI.last{l:List ae}(h:bI l){k:Nat}(hk:k+1=l.length):(l.getD k ae.zero).Kind=4/\(l.getD k ae.zero).Text=[]:=by
 obtain⟨o,e,rfl,h1,h2,-,-⟩:=h.ex;rw[cq,List.length_singleton]at hk;have:k=o.length:=by omega
 subst this;rw[getD_lt (show o.length<(o++[e]).length by simp)];simp[h1,h2]
theorem bI.next{l:List ae}(h:bI l){k:Nat}(hk:k<l.length)(h4:(l.getD k ae.zero).Kind≠4):k+1<l.length:=by
 rcases cV (k+1) l.length with q|q
 ·exact q
 ·exact absurd (h.last (by omega)).1 h4
def bE(l:List ae)(k:Nat):ae:=l.getD k ae.zero
def aB(l:List ae)(text:List UInt8)(k:Nat):Bool:=((bE l k).Kind !=4)&&((bE l k).Text==text)
def qz(text:List UInt8):Prop:=∀c r,text=c::r->eS c=false
theorem Zh{l:List ae}(h:bI l){k:Nat}(hk:k<l.length){text:List UInt8}(hn:qz text):
 ((((bE l k).Kind==1)||((bE l k).Kind==3))&&((bE l k).Text==text))=aB l text k:=by
 unfold aB;by_cases hl:k+1<l.length
 ·obtain⟨h1,h2⟩:=h.mid hl;have e:(l.getD k ae.zero)=bE l k:=rfl;rw[e]at h1 h2;rcases h1 with q|q|q
  ·rw[q];rfl
  ·rw[q];obtain⟨c,r,ht,hc⟩:=h2 q;have:((bE l k).Text==text)=false:=by
    rw[cN,ht];intro e;rw[hn c r e.symm]at hc;cases hc
   rw[this,Bool.and_false,Bool.and_false]
  ·rw[q];rfl
 ·have:=(h.last (k:=k) (by omega)).1;have e:(l.getD k ae.zero)=bE l k:=rfl;rw[e]at this;rw[this];rfl
def ip(l:List ae)(k:Nat)(b:Bool):ad:=ad.mk l (k:Int) b
def sp(l:List ae)(k:Nat)(b:Bool):an:=an.mk l (k:Int) b
theorem jH{l:List ae}{k:Nat}(hk:k<l.length):inB (k:Int) l.length=true:=by rw[dK];simpa using hk
theorem xN{l:List ae}(h:bI l){k:Nat}(hk:k<l.length){text:List UInt8}(hn:qz text)(b:Bool):M.jb text (ip l k b)=some (!b&&aB l text k,ip l k b):=by
 unfold M.jb ip;have e:=Zh h hk hn;unfold bE at e;simp only[jH hk,au,af,cH,Bool.and_assoc];rw[<-e]
theorem ic{l:List ae}(h:bI l){k:Nat}(hk:k<l.length){text:List UInt8}(hn:qz text)(b:Bool):M.cJ text (ip l k b)=some (bif !b&&aB l text k then(true,ip l (k+1) b)else(false,ip l k b)):=by
 unfold M.cJ;rw[xN h hk hn b];have hlen:=h.len;have w:=dB (k:=k) hk (by omega:l.length<2^62);cases hb:(!b&&aB l text k)
 ·rfl
 ·simp only[aw,ay,bQ,ar,au,af];unfold ip;rw[w]
theorem eG{l:List ae}(h:bI l){k:Nat}(hk:k<l.length){text:List UInt8}(hn:qz text)(b:Bool):M.bF text (ip l k b)=some (bif !b&&aB l text k then ip l (k+1) b else ip l k true):=by
 unfold M.bF;rw[ic h hk hn b];cases (!b&&aB l text k)<;>rfl
theorem cC{l:List ae}(h:bI l){k:Nat}(hk:k<l.length){text:List UInt8}(hb:aB l text k=true):k+1<l.length:=by
 unfold aB at hb;rw[bz,pW]at hb;exact h.next hk hb.1
theorem Gq{l:List ae}(h:bI l){k:Nat}(hk:k+1<l.length)(b:Bool):M.oY (sp l k b)=some (sp l (k+1) b):=by
 unfold M.oY sp;have hlen:=h.len;have w:=dB (k:=k) (n:=l.length) (by omega) (by omega:l.length<2^62);simp only[w,eX (show((k+1:Nat):Int)<((l.length:Nat):Int) by omega),af]
theorem kG{l:List ae}{k:Nat}(hk:k<l.length)(b:Bool):M.ka (sp l k b)=some (bE l k,sp l k b):=by
 unfold M.ka sp bE;simp only[jH hk,au,af,cH]
theorem Zi{l:List ae}{k:Nat}(hk:k<l.length)(text:List UInt8)(b:Bool):M.xO text (sp l k b)=some (aB l text k,sp l k b):=by
 unfold M.xO;rw[kG hk b];rfl
theorem eM{l:List ae}(h:bI l){k:Nat}(hk:k<l.length)(text:List UInt8)(b:Bool):M.dC text (sp l k b)=some (bif !b&&aB l text k then(true,sp l (k+1) b)else(false,sp l k b)):=by
 unfold M.dC;have e:an.bad (sp l k b)=b:=rfl;rw[e];cases b
 ·simp only[Zi hk,aw,ay,ar,bp,bc];cases hb:aB l text k
  ·rfl
  ·simp only[Gq h (cC h hk hb),aw,ay];rfl
 ·rfl
theorem fQ{l:List ae}(h:bI l){k:Nat}(hk:k<l.length)(text:List UInt8)(b:Bool):M.dt text (sp l k b)=some (bif !b&&aB l text k then sp l (k+1) b else sp l k true):=by
 unfold M.dt;rw[eM h hk text b];cases (!b&&aB l text k)<;>rfl
def ie(l:List ae)(k:Nat):Bool:=((bE l k).Kind==1)&&kH (bE l k).Text
theorem AY{l:List ae}(hT:∀t∈l,t.Text.length<=30000){k:Nat}(hk:k<l.length):(bE l k).Text.length<=1048576:=by
 have:=hT (bE l k) (by unfold bE;rw[getD_lt hk];exact eH hk);omega
theorem vB{l:List ae}(h:bI l)(hT:∀t∈l,t.Text.length<=30000){k:Nat}(hk:k<l.length)(b:Bool):M.fk (sp l k b)=some (bif !b&&ie l k then((bE l k).Text,sp l (k+1) b)else([],sp l k true)):=by
 have hN:M.xP (bE l k).Text=some (kH (bE l k).Text):=by
  unfold M.xP;rw[Zj _ (AY hT hk)];rfl
 unfold M.fk ie;rw[kG hk b];simp only[aw,ay,hN,bP,au,af];have e:an.bad (sp l k b)=b:=rfl;rw[e];cases b
 ·cases hk1:((bE l k).Kind==(1:Int))
  ·rw[show((bE l k).Kind !=(1:Int))=true by rw[bne,hk1];rfl];rfl
  ·rw[show((bE l k).Kind !=(1:Int))=false by rw[bne,hk1];rfl];cases kH (bE l k).Text
   ·rfl
   ·have hn:k+1<l.length:=h.next hk (by
     have:(bE l k).Kind=1:=by simpa using hk1
     unfold bE at this;rw[this];decide)
    simp only[Gq h hn,aw,ay];rfl
 ·rfl
theorem AZ{l:List ae}(h:bI l)(hT:∀t∈l,t.Text.length<=30000){k:Nat}(hk:k<l.length)(b:Bool):M.ek (ip l k b)=some (bif !b&&ie l k then((bE l k).Text,ip l (k+1) b)else([],ip l k true)):=by
 have hN:=LY (bE l k).Text (AY hT hk);have hlen:=h.len;have w:=dB (k:=k) hk (by omega:l.length<2^62);have e1:M.xQ 1 (ip l k b)=some (bif !b&&ie l k then((bE l k).Text,ip l (k+1) b)else([],ip l k true)):=by
  unfold M.xQ ie ip;have e:l.getD k ae.zero=bE l k:=rfl;simp only[jH hk,cH,e,hN,w,aw,ay];cases b
  ·cases hk1:((bE l k).Kind==(1:Int))
   ·rw[show((bE l k).Kind !=(1:Int))=true by rw[bne,hk1];rfl];rfl
   ·rw[show((bE l k).Kind !=(1:Int))=false by rw[bne,hk1];rfl];cases kH (bE l k).Text<;>rfl
  ·rfl
 unfold M.ek;rw[e1];rfl
end M
namespace M
open Go.V (inB bT ai bB)
def words:List (List UInt8):=M.xR.getD []++M.xU.getD []
theorem xW:words.length=23:=by decide
theorem Gs:M.gj=some ([]::words):=by decide
def dD(w:List UInt8):Int:=match words.findIdx? (fun x=>x==w)with
 |some i=>(i:Int)+1
 |none=>0
theorem Gt(w:List UInt8):0<=dD w/\dD w<=23:=by
 unfold dD;cases h:words.findIdx? (fun x=>x==w)with
 |none=>simp
 |some i=>
  rw[List.findIdx?_eq_some_iff_getElem]at h;obtain⟨hi,-⟩:=h;rw[xW]at hi;simp only;omega
theorem xX:dD []=0:=by decide
theorem A0(w:List UInt8):M.qA w=some (dD w):=by
 have e:=Gm (p:=fun x:List UInt8=>x==w) (F:=M.qB w words) (e:=()) (fun k=>Go.IntKind.wrap .i64 (k+1)) words (by rw[xW];omega) (fun f k hk=>by
  rw[M.qB];simp only[getD_lt hk,cH,dK,kY,hk,gW,af,cO,dB hk (by rw[xW];omega:words.length<2^62)]) (fun f=>by
  rw[M.qB];simp)
 unfold M.qA;rw[show M.qB w ((Option.getD M.xR Inhabited.default)++(Option.getD M.xU Inhabited.default)) ai 0=_ from e];unfold dD;cases h:words.findIdx? (fun x=>x==w)with
 |none=>rfl
 |some i=>
  rw[List.findIdx?_eq_some_iff_getElem]at h;obtain⟨hi,-⟩:=h;have:=dB hi (by rw[xW];omega:words.length<2^62);simp only[this];rw[show((i+1:Nat):Int)=(i:Int)+1 by omega]
theorem Zk(w:List UInt8):M.xY w=some (decide (0<dD w)):=by
 unfold M.xY;rw[A0];rfl
theorem LZ(w:List UInt8):M.pO ([]::words) w=some (if w=[]then 0 else if dD w=0 then -1 else dD w):=by
 have hl:([]::words).length=24:=by rw[dH,xW]
 have e:=Gm (p:=fun x:List UInt8=>w==x) (F:=M.sx ([]::words) w ((([]::words:List (List UInt8)).length:Nat):Int)) (e:=()) (fun k=>k) ([]::words) (by rw[hl];omega) (fun f k hk=>by
  rw[M.sx];simp only[getD_lt hk,cH,dK,kY,hk,gW,af,cO,dB hk (by rw[hl];omega:([]::words).length<2^62)]) (fun f=>by
  rw[M.sx];simp)
 have hc:(fun x:List UInt8=>w==x)=fun x=>x==w:=funext fun x=>by rw[mc,dU,dU];exact eq_comm
 unfold M.pO;rw[e,hc,List.findIdx?_cons];by_cases h0:w=[]
 ·rw[h0,aO rfl];rfl
 ·rw[aX h0,aX (by rw[dU];exact fun q=>h0 q.symm)];unfold dD;cases h:words.findIdx? (fun x=>x==w)with
  |none=>rfl
  |some i=>
   simp only[gk];rw[aX (by omega)];congr 1
theorem A1(w:List UInt8):M.mX w=some (decide (0<dD w)):=by
 unfold M.mX M.A2;rw[Gs];simp only[aw,ay,LZ,bP,au,af];by_cases h0:w=[]
 ·rw[h0,xX];rfl
 ·have hb:=Gt w;rw[aX h0,show(w==[])=false from cN.2 h0,bp,bc];by_cases hk:dD w=0
  ·rw[aO hk,hk];rfl
  ·rw[aX hk,eX (by omega),eX (by omega)]
def lQ(l:List ae)(k:Nat):Bool:=ie l k&& !decide (0<dD (bE l k).Text)
def nw(l:List ae)(k:Nat):Bool:=((bE l k).Kind==2)&&oZ (bE l k).Text
theorem Gu{l:List ae}(h:bI l)(hT:∀t∈l,t.Text.length<=30000){k:Nat}(hk:k<l.length)(b:Bool):M.ja (ip l k b)=some (bif !b&&lQ l k then((bE l k).Text,ip l (k+1) b)else([],ip l k true)):=by
 have hN:M.xZ (bE l k).Text=some (kH (bE l k).Text&& !decide (0<dD (bE l k).Text)):=by
  unfold M.xZ;rw[A1,LY _ (AY hT hk)];simp only[aw,ay,bP,au,af]
 have hlen:=h.len;have w:=dB (k:=k) hk (by omega:l.length<2^62);have e1:M.x5 1 (ip l k b)=some (bif !b&&lQ l k then((bE l k).Text,ip l (k+1) b)else([],ip l k true)):=by
  unfold M.x5 lQ ie ip;have e:l.getD k ae.zero=bE l k:=rfl;simp only[jH hk,cH,e,hN,w,aw,ay,Bool.and_assoc];cases b
  ·cases hk1:((bE l k).Kind==(1:Int))
   ·rw[show((bE l k).Kind !=(1:Int))=true by rw[bne,hk1];rfl];rfl
   ·rw[show((bE l k).Kind !=(1:Int))=false by rw[bne,hk1];rfl];cases (kH (bE l k).Text&& !decide (0<dD (bE l k).Text))<;>rfl
  ·rfl
 unfold M.ja;rw[e1];rfl
theorem Gv{l:List ae}(h:bI l)(hT:∀t∈l,t.Text.length<=30000){k:Nat}(hk:k<l.length)(b:Bool):M.lR (sp l k b)=some (bif !b&&lQ l k then((bE l k).Text,sp l (k+1) b)else([],sp l k true)):=by
 unfold M.lR lQ;rw[kG hk b];simp only[aw,ay,Zk,au];cases hr:decide (0<dD (bE l k).Text)
 ·simp only[ar,vB h hT hk b,aw,ay,au,af,bp,cO]
 ·have e:an.mk (an.list (sp l k b)) (an.at_ (sp l k b)) true=sp l k true:=rfl;simp only[af,e,vB h hT hk true,aw,ay,au,bQ,cD,Bool.and_false,ar]
theorem Zl{l:List ae}(h:bI l)(hT:∀t∈l,t.Text.length<=30000){k:Nat}(hk:k<l.length)(b:Bool):M.nX (ip l k b)=some (bif !b&&nw l k then((bE l k).Text,ip l (k+1) b)else([],ip l k true)):=by
 have hN:=Zm (bE l k).Text (AY hT hk);have hlen:=h.len;have w:=dB (k:=k) hk (by omega:l.length<2^62);have e1:M.x6 2 (ip l k b)=some (bif !b&&nw l k then((bE l k).Text,ip l (k+1) b)else([],ip l k true)):=by
  unfold M.x6 nw ip;have e:l.getD k ae.zero=bE l k:=rfl;simp only[jH hk,cH,e,hN,w,aw,ay];cases b
  ·cases hk1:((bE l k).Kind==(2:Int))
   ·rw[show((bE l k).Kind !=(2:Int))=true by rw[bne,hk1];rfl];rfl
   ·rw[show((bE l k).Kind !=(2:Int))=false by rw[bne,hk1];rfl];cases oZ (bE l k).Text<;>rfl
  ·rfl
 unfold M.nX;rw[e1];rfl
theorem Zn{l:List ae}(h:bI l){k:Nat}(hk:k<l.length)(b:Bool):M.qC (sp l k b)=some (bif !b&&nw l k then((bE l k).Text,sp l (k+1) b)else([],sp l k true)):=by
 have hN:=Zo (bE l k).Text;unfold M.qC nw;rw[kG hk b];simp only[aw,ay,hN,bP,au,af];have e:an.bad (sp l k b)=b:=rfl;rw[e];cases b
 ·cases hk1:((bE l k).Kind==(2:Int))
  ·rw[show((bE l k).Kind !=(2:Int))=true by rw[bne,hk1];rfl];rfl
  ·rw[show((bE l k).Kind !=(2:Int))=false by rw[bne,hk1];rfl];cases oZ (bE l k).Text
   ·rfl
   ·have hn:k+1<l.length:=h.next hk (by
     have:(bE l k).Kind=2:=by simpa using hk1
     unfold bE at this;rw[this];decide)
    simp only[Gq h hn,aw,ay];rfl
 ·rfl
end M
namespace M
open Go.V (inB bT ai bB)
inductive PR (α:Type) where
 |ok (v:α) (k:Nat)
 |no (k:Nat)
def PR.bind{α β:Type}(r:PR α)(f:α->Nat->PR β):PR β:=match r with
 |.ok v k=>f v k
 |.no k=>.no k
def bV(l:List ae)(text:List UInt8)(k:Nat):PR Unit:=bif aB l text k then .ok () (k+1)else .no k
def f9(l:List ae)(k:Nat):PR (List UInt8):=bif ie l k then .ok (bE l k).Text (k+1)else .no k
def ly(l:List ae)(k:Nat):PR (List UInt8):=bif lQ l k then .ok (bE l k).Text (k+1)else .no k
def vC(l:List ae)(k:Nat):PR (List UInt8):=bif nw l k then .ok (bE l k).Text (k+1)else .no k
def dN{α:Type}(l:List ae)(el:Nat->PR α):Nat->List α->Nat->PR (List α)
 |m,acc,k=>match el k with
  |.no k'=>.no k'
  |.ok v k1=>match m with
    |0=>.ok (acc++[v]) k1
    |m+1=>bif aB l [44] k1 then dN l el m (acc++[v]) (k1+1)else .ok (acc++[v]) k1
def dO:aa:=aa.mk 1 [] [] []
def ga(l:List ae)(K:Int)(term:Nat->PR aa)(k:Nat):PR (List UInt8×List aa):=
 (f9 l k).bind fun nm k1=>
   bif K==16 then(bV l [58] k1).bind fun _ k2=>(term k2).bind fun t k3=>.ok (nm,[t]) k3
   else bif K==17 then(bif aB l [40] k1 then(term (k1+1)).bind fun t k3=>(bV l [41] k3).bind fun _ k4=>.ok (nm,[t]) k4 else .ok (nm,[dO]) k1)
   else .ok (nm,[]) k1
def pd(l:List ae)(term:Nat->PR aa)(k:Nat):PR (List aa):=
 bif aB l [60] k then
  (bif aB l [95] (k+1)then .ok dO (k+2)else term (k+1)).bind fun a k1=>
    (bif aB l [44] k1 then term (k1+1)else .ok dO k1).bind fun b k2=>(bV l [62] k2).bind fun _ k3=>.ok [a,b] k3
 else .ok [dO,dO] k
def d5(l:List ae):Nat->Nat->PR aa
 |0,k=>.no k
 |d+1,k=>(f9 l k).bind fun w k1=>
  bif dD w==0 then .ok (aa.mk 30 w [] []) k1
  else bif(dD w==12)||((dD w==13)||((dD w==22)||(dD w==23)))then(bV l [60] k1).bind fun _ k2=>(d5 l d k2).bind fun t k3=>(bV l [62] k3).bind fun _ k4=>.ok (aa.mk (dD w) [] [] [t]) k4
  else bif dD w==15 then(bV l [60] k1).bind fun _ k2=>(dN l (d5 l d) 5 [] k2).bind fun ts k3=>(bV l [62] k3).bind fun _ k4=>.ok (aa.mk (dD w) [] [] ts) k4
  else bif(dD w==20)||(dD w==21)then(bV l [60] k1).bind fun _ k2=>(ly l k2).bind fun nm k3=>(bV l [62] k3).bind fun _ k4=>.ok (aa.mk (dD w) nm [] []) k4
  else bif dD w==14 then(pd l (d5 l d) k1).bind fun ts k2=>.ok (aa.mk (dD w) [] [] ts) k2
  else bif(dD w==16)||((dD w==17)||((dD w==18)||(dD w==19)))then(bV l [123] k1).bind fun _ k2=>(dN l (ga l (dD w) (d5 l d)) 15 [] k2).bind fun ps k3=>(bV l [125] k3).bind fun _ k4=>.ok (aa.mk (dD w) [] (ps.map (·.1)) (ps.map (·.2)).flatten) k4
  else .ok (aa.mk (dD w) [] [] []) k1
def Out{α β:Type}(l:List ae)(r:PR α)(o:Option β)(F:α->Nat->Bool->β):Prop:=match r with
 |.ok v k=>k<l.length/\o=some (F v k false)
 |.no k=>k<l.length/\∃v,o=some (F v k true)
def RB{α:Type}(b:Bool)(k:Nat)(r:PR α):PR α:=bif b then .no k else r
theorem cz(c:UInt8)(h:eS c=false):qz [c]:=fun d r e=>by cases e;exact h
def ny(l:List ae)(rec:Int->ad->Option (aa×ad))(lv:Int)(g:Nat->PR aa):Prop:=
 ∀k b,k<l.length->Out l (RB b k (g k)) (rec lv (ip l k b)) fun v k' b'=>(v,ip l k' b')
theorem lA{α:Type}(l:List α)(x y:α):(l++[x]).set (Int.toNat ((l.length:Nat):Int)) y=l++[y]:=by
 rw[cH,List.set_append_right _ _ (bH _),ru];rfl
theorem kJ{α:Type}(l:List α)(x:α):inB ((l.length:Nat):Int) (l++[x]).length=true:=by rw[dK];simp
theorem dy{α:Type}{l:List α}{x:α}(h:l.length<=1000):decide (l.length+[x].length<=1073741824)=true:=by
 rw[bN,List.length_singleton];omega
theorem pe{l:List ae}{rec:Int->ad->Option (aa×ad)}{g:Nat->PR aa}{K lv:Int}{nm:List UInt8}{ls:List (List UInt8)}{ks:List aa}(hr:ny l rec (Go.IntKind.wrap .i64 (lv+1)) g)
 (hks:ks.length<=1000) {k:Nat} (hk:k<l.length) (b:Bool):
 Out l (RB b k (g k)) (M.l8 rec K nm lv ls ks l (k:Int) b) fun v k' b'=>(K,nm,lv,l,(k':Int),b',ls,ks++[v]):=by
 have h:=hr k b hk;unfold M.l8;have e:ad.mk l (k:Int) b=ip l k b:=rfl;rw[e];unfold Out at h⊢;cases hg:RB b k (g k)with
 |ok v k'=>
  rw[hg]at h;obtain⟨h1,h2⟩:=h;refine⟨h1,?_⟩;simp only[h2,kJ,dy hks,ay,aw,au,af,lA,aa.bq];rfl
 |no k'=>
  rw[hg]at h;obtain⟨h1,v,h2⟩:=h;refine⟨h1,v,?_⟩;simp only[h2,kJ,dy hks,ay,aw,au,af,lA,aa.bq];rfl
theorem Zp{l:List ae}(hL:bI l){rec:Int->ad->Option (aa×ad)}{g:Nat->PR aa}{K lv:Int}{nm:List UInt8}{ls:List (List UInt8)}(hr:ny l rec (Go.IntKind.wrap .i64 (lv+1)) g)
 (most:Nat) (hm:most<=100):∀(f m:Nat)(ks:List aa)(k:Nat),m<f->k<l.length->ks.length+(m+1)<=most->
 Out l (dN l g m ks k) ((M.nU rec (most:Int) f ((most-m:Nat):Int) (ip l k false) K nm lv ls ks).map fun r=>match r with
  |.inl x=>x
  |.inr x=>x) fun vs k' b'=>(l,(k':Int),b',K,nm,lv,ls,vs):=by
 intro f
 induction f with
 |zero=>intro m ks k h;omega
 |succ f ih=>
  intro m ks k hf hk hks;rw[M.nU,dN];have eb:ad.bad (ip l k false)=false:=rfl;have el:ad.list (ip l k false)=l:=rfl;have ea:ad.at_ (ip l k false)=(k:Int):=rfl;simp only[eb,el,ea,bp,af];have bL:=pe (K:=K) (lv:=lv) (nm:=nm) (ls:=ls) (ks:=ks) hr (by omega) hk false;unfold Out at bL;rw[show RB false k (g k)=g k from rfl]at bL;cases hg:g k with
  |no k'=>
   rw[hg]at bL;obtain⟨h1,v,h2⟩:=bL;refine⟨h1,ks++[v],?_⟩;simp only[h2,ay,aw,bP,af,au,cF];rfl
  |ok v k'=>
   rw[hg]at bL;obtain⟨h1,h2⟩:=bL;cases m with
   |zero=>
    have e:(((most-0:Nat):Int)==(most:Int))=true:=by rw[dU];omega
    refine⟨h1,?_⟩;simp only[h2,e,ay,aw,md,af,au,cF];rfl
   |succ m=>
    have e:(((most-(m+1):Nat):Int)==(most:Int))=false:=by rw[cN];omega
    have ht:=ic hL h1 (cz 44 (by decide)) false;have ep:ad.mk l (k':Int) false=ip l k' false:=rfl;simp only[h2,e,ep,ht,ay,aw,md,ar,af,au,cF,bp,bc];cases hb:aB l [44] k'
    ·exact⟨h1,rfl⟩
    ·have hw:Go.IntKind.wrap .i64 (((most-(m+1):Nat):Int)+1)=((most-m:Nat):Int):=by rw[wrap_i64 (by omega) (by omega)];omega
     simp only[af,bQ,ar,hw];exact ih m (ks++[v]) (k'+1) (by omega) (cC hL h1 hb) (by rw[cq,List.length_singleton];omega)
theorem L0{l:List ae}(hL:bI l){rec:Int->ad->Option (aa×ad)}{g:Nat->PR aa}{K lv:Int}{nm:List UInt8}{ls:List (List UInt8)}(hr:ny l rec (Go.IntKind.wrap .i64 (lv+1)) g)
 {k:Nat} (hk:k<l.length) (b:Bool):Out l (RB b k (dN l g 5 [] k)) (M.uf rec 6 (ip l k b) K nm lv ls []) fun vs k' b'=>(ip l k' b',K,nm,lv,ls,vs):=by
 cases b with
 |true=>
  refine⟨hk,[],?_⟩;obtain⟨n,hn⟩:∃n,ai=n+1:=⟨ai-1,by have:=bB;omega⟩;unfold M.uf;rw[hn,M.nU];rfl
 |false=>
  have e:=Zp hL (K:=K) (lv:=lv) (nm:=nm) (ls:=ls) hr 6 (by omega) ai 5 [] k (by have:=bB;omega) hk (by simp);have hs:((6-5:Nat):Int)=1:=by decide
  rw[hs]at e;rw[show RB false k (dN l g 5 [] k)=dN l g 5 [] k from rfl];unfold M.uf;unfold Out at e⊢;cases hc:dN l g 5 [] k with
  |ok v k'=>
   rw[hc]at e;obtain⟨h1,h2⟩:=e;refine⟨h1,?_⟩;cases ho:M.nU rec 6 ai 1 (ip l k false) K nm lv ls []with
   |none=>rw[show((6:Nat):Int)=6 from rfl,ho]at h2;cases h2
   |some r=>
    rw[show((6:Nat):Int)=6 from rfl,ho]at h2;cases r<;>(simp only[gk,aj]at h2;rw[h2];rfl)
  |no k'=>
   rw[hc]at e;obtain⟨h1,v,h2⟩:=e;refine⟨h1,v,?_⟩;cases ho:M.nU rec 6 ai 1 (ip l k false) K nm lv ls []with
   |none=>rw[show((6:Nat):Int)=6 from rfl,ho]at h2;cases h2
   |some r=>
    rw[show((6:Nat):Int)=6 from rfl,ho]at h2;cases r<;>(simp only[gk,aj]at h2;rw[h2];rfl)
end M
namespace M
open Go.V (inB bT ai bB)
def nz(l:List ae)(K:Int)(term:Nat->PR aa)(nm:List UInt8)(k1:Nat):PR (List UInt8×List aa):=
    bif K==16 then(bV l [58] k1).bind fun _ k2=>(term k2).bind fun t k3=>.ok (nm,[t]) k3
    else bif K==17 then(bif aB l [40] k1 then(term (k1+1)).bind fun t k3=>(bV l [41] k3).bind fun _ k4=>.ok (nm,[t]) k4 else .ok (nm,[dO]) k1)
    else .ok (nm,[]) k1
theorem A3(l:List ae)(K:Int)(term:Nat->PR aa)(k:Nat):ga l K term k=(f9 l k).bind (nz l K term):=rfl
theorem L1{l:List ae}(hL:bI l){rec:Int->ad->Option (aa×ad)}{g:Nat->PR aa}{K lv:Int}{nm:List UInt8}{ls:List (List UInt8)}{ks:List aa}(hr:ny l rec (Go.IntKind.wrap .i64 (lv+1)) g)
 (hls:ls.length<=1000) (hks:ks.length<=1000) {p:ad} {w:List UInt8} {k1:Nat} {b1:Bool} (hname:M.ek p=some (w,ip l k1 b1)) (hk:k1<l.length):
 Out l (RB b1 k1 (nz l K g w k1)) (M.ug rec p K nm lv ls ks) fun v k' b'=>(ip l k' b',K,nm,lv,ls++[v.1],ks++v.2):=by
 unfold M.ug nz;simp only[hname,dy hls,ay,aw,au];have el:∀k b,ad.list (ip l k b)=l:=fun _ _=>rfl
 have ea:∀k b,ad.at_ (ip l k b)=(k:Int):=fun _ _=>rfl
 have eb:∀k b,ad.bad (ip l k b)=b:=fun _ _=>rfl
 have ep:∀(k:Nat) b,ad.mk l (k:Int) b=ip l k b:=fun _ _=>rfl
 cases h16:(K==(16:Int))
 ·cases h17:(K==(17:Int))
  ·
   simp only[ar,cF,au,af];cases b1
   ·exact⟨hk,by simp⟩
   ·exact⟨hk,(w,[]),by simp⟩
  ·simp only[ar,af,ic hL hk (cz 40 (by decide)) b1,ay,aw,cF,au];cases hc:(!b1&&aB l [40] k1)
   ·simp only[ar,kJ,dy hks,au,af,lA];cases b1
    ·have:aB l [40] k1=false:=by simpa using hc
     rw[this];exact⟨hk,rfl⟩
    ·exact⟨hk,(w,[dO]),rfl⟩
   ·rw[bz,fK]at hc;obtain⟨hb1,hc⟩:=hc;subst hb1;rw[hc];simp only[af,el,ea,eb];have hk2:=cC hL hk hc;have bL:=pe (K:=K) (lv:=lv) (nm:=nm) (ls:=ls++[w]) (ks:=ks) hr hks hk2 false;rw[show RB false (k1+1) (g (k1+1))=g (k1+1)from rfl]at bL;rw[show ∀r:PR (List UInt8×List aa),RB false k1 r=r from fun _=>rfl];cases hg:g (k1+1)with
    |no k'=>
     rw[hg]at bL;obtain⟨h1,v,h2⟩:=bL;refine⟨h1,(w,[v]),?_⟩;simp only[h2,ep,eG hL h1 (cz 41 (by decide)) true,ay,aw,au,af];rfl
    |ok v k'=>
     rw[hg]at bL;obtain⟨h1,h2⟩:=bL;simp only[h2,ep,eG hL h1 (cz 41 (by decide)) false,ay,aw,au,af,PR.bind,bV];cases hn:aB l [41] k'
     ·exact⟨h1,(w,[v]),rfl⟩
     ·exact⟨cC hL h1 hn,rfl⟩
 ·simp only[af,eG hL hk (cz 58 (by decide)) b1,ay,aw];cases hc:(!b1&&aB l [58] k1)
  ·simp only[ar,el,ea,eb];have bL:=pe (K:=K) (lv:=lv) (nm:=nm) (ls:=ls++[w]) (ks:=ks) hr hks hk true;obtain⟨h1,v,h2⟩:=bL;have:RB b1 k1 ((bV l [58] k1).bind fun _ k2=>(g k2).bind fun t k3=>PR.ok (w,[t]) k3)=PR.no k1:=by
    cases b1
    ·have:aB l [58] k1=false:=by simpa using hc
     unfold bV;rw[this];rfl
    ·rfl
   rw[this];refine⟨hk,(w,[v]),?_⟩;simp only[h2,ep,ay,aw,au,af]
  ·rw[bz,fK]at hc;obtain⟨hb1,hc⟩:=hc;subst hb1;have hk2:=cC hL hk hc;simp only[af,el,ea,eb];have bL:=pe (K:=K) (lv:=lv) (nm:=nm) (ls:=ls++[w]) (ks:=ks) hr hks hk2 false;rw[show RB false (k1+1) (g (k1+1))=g (k1+1)from rfl]at bL;rw[show RB false k1 ((bV l [58] k1).bind fun _ k2=>(g k2).bind fun t k3=>PR.ok (w,[t]) k3)=(g (k1+1)).bind fun t k3=>PR.ok (w,[t]) k3 by unfold bV;rw[hc];rfl];cases hg:g (k1+1)with
   |no k'=>
    rw[hg]at bL;obtain⟨h1,v,h2⟩:=bL;refine⟨h1,(w,[v]),?_⟩;simp only[h2,ep,ay,aw,au,af]
   |ok v k'=>
    rw[hg]at bL;obtain⟨h1,h2⟩:=bL;refine⟨h1,?_⟩;simp only[h2,ep,ay,aw,au,af]
theorem Zq{l:List ae}(hL:bI l)(hT:∀t∈l,t.Text.length<=30000){rec:Int->ad->Option (aa×ad)}{g:Nat->PR aa}{K lv:Int}{nm:List UInt8}{ls:List (List UInt8)}{ks:List aa}(hr:ny l rec (Go.IntKind.wrap .i64 (lv+1)) g)
 (hls:ls.length<=1000) (hks:ks.length<=1000) {k:Nat} (hk:k<l.length) (b:Bool):
 Out l (RB b k (ga l K g k)) (M.ug rec (ip l k b) K nm lv ls ks) fun v k' b'=>(ip l k' b',K,nm,lv,ls++[v.1],ks++v.2):=by
 have hn:=AZ hL hT hk b;cases hc:(!b&&ie l k)
 ·rw[hc]at hn;have h:=L1 hL (K:=K) (nm:=nm) hr hls hks hn hk;rw[A3];have:RB b k ((f9 l k).bind (nz l K g))=PR.no k:=by
   cases b
   ·have:ie l k=false:=by simpa using hc
    unfold f9;rw[this];rfl
   ·rfl
  rw[this];exact h
 ·rw[hc]at hn;rw[bz,fK]at hc;obtain⟨hb,hc⟩:=hc;subst hb;have hk4:(l.getD k ae.zero).Kind≠4:=by
   unfold ie at hc;rw[bz,dU]at hc;have:=hc.1;unfold bE at this;rw[this];decide
  have h:=L1 hL (K:=K) (nm:=nm) hr hls hks hn (hL.next hk hk4);rw[A3];have:RB false k ((f9 l k).bind (nz l K g))=RB false (k+1) (nz l K g (bE l k).Text (k+1)):=by
   unfold f9;rw[hc];rfl
  rw[this];exact h
end M
namespace M
open Go.V (inB bT ai bB)
theorem Zr{l:List ae}{K:Int}{g:Nat->PR aa}{w:List UInt8}{k k':Nat}{v:List UInt8×List aa}(h:nz l K g w k=.ok v k'):v.2.length<=1:=by
 unfold nz at h;cases h16:(K==(16:Int))<;>rw[h16]at h
 ·cases h17:(K==(17:Int))<;>rw[h17]at h
  ·cases h;simp
  ·simp only[ar,af]at h;cases hc:aB l [40] k<;>rw[hc]at h
   ·cases h;simp
   ·simp only[af]at h;cases hg:g (k+1)with
    |no q=>rw[hg]at h;cases h
    |ok t q=>
     rw[hg]at h;simp only[PR.bind,bV]at h;cases hn:aB l [41] q<;>rw[hn]at h<;>cases h;simp
 ·simp only[af,bV]at h;cases hc:aB l [58] k<;>rw[hc]at h
  ·cases h
  ·simp only[af,PR.bind]at h;cases hg:g (k+1)with
   |no q=>rw[hg]at h;cases h
   |ok t q=>rw[hg]at h;cases h;simp
theorem L2{l:List ae}{K:Int}{g:Nat->PR aa}{k k':Nat}{v:List UInt8×List aa}(h:ga l K g k=.ok v k'):v.2.length<=1:=by
 rw[A3]at h;unfold f9 at h;cases hn:ie l k<;>rw[hn]at h
 ·cases h
 ·exact Zr h
theorem Gw{α β:Type}:∀(ps:List (α×List β)),(∀p∈ps,p.2.length<=1)->(ps.map (·.2)).flatten.length<=ps.length
 |[],_=>bH _
 |p::r,h=>by
  have h1:=h p (by simp);have h2:=Gw r fun q hq=>h q (by simp[hq])
  simp only[gV,List.flatten_cons,cq,dH];omega
theorem Zs{l:List ae}(hL:bI l)(hT:∀t∈l,t.Text.length<=30000){rec:Int->ad->Option (aa×ad)}{g:Nat->PR aa}{K lv:Int}{nm:List UInt8}(hr:ny l rec (Go.IntKind.wrap .i64 (lv+1)) g)
 (most:Nat) (hm:most<=100):∀(f m:Nat)(ps:List (List UInt8×List aa))(k:Nat),m<f->k<l.length->ps.length+(m+1)<=most->(∀p∈ps,p.2.length<=1)->
 Out l (dN l (ga l K g) m ps k) ((M.nV rec (most:Int) f ((most-m:Nat):Int) (ip l k false) K nm lv (ps.map (·.1)) (ps.map (·.2)).flatten).map fun r=>match r with
  |.inl x=>x
  |.inr x=>x) fun vs k' b'=>(l,(k':Int),b',K,nm,lv,vs.map (·.1),(vs.map (·.2)).flatten):=by
 intro f
 induction f with
 |zero=>intro m ks k h;omega
 |succ f ih=>
  intro m ps k hf hk hps x7;rw[M.nV,dN];have eb:∀k b,ad.bad (ip l k b)=b:=fun _ _=>rfl
  have el:∀k b,ad.list (ip l k b)=l:=fun _ _=>rfl
  have ea:∀k b,ad.at_ (ip l k b)=(k:Int):=fun _ _=>rfl
  have ep:∀(k:Nat) b,ad.mk l (k:Int) b=ip l k b:=fun _ _=>rfl
  have hfl:=Gw ps x7;have hlab:=Zq hL hT (K:=K) (lv:=lv) (nm:=nm) (ls:=ps.map (·.1)) (ks:=(ps.map (·.2)).flatten) hr (by rw[kW];omega) (by omega) hk false;rw[show RB false k (ga l K g k)=ga l K g k from rfl]at hlab;have mA:∀v:List UInt8×List aa,ps.map (·.1)++[v.1]=(ps++[v]).map (·.1):=fun v=>by rw[zI];rfl
  have mB:∀v:List UInt8×List aa,(ps.map (·.2)).flatten++v.2=((ps++[v]).map (·.2)).flatten:=fun v=>by rw[zI,List.flatten_append];simp
  unfold M.zA;simp only[eb,el,ea,ep,bp,af];cases hg:ga l K g k with
  |no k'=>
   rw[hg]at hlab;obtain⟨h1,v,h2⟩:=hlab;refine⟨h1,ps++[v],?_⟩;simp only[h2,ay,aw,bP,af,au,cF,eb,el,ea,mA,mB];rfl
  |ok v k'=>
   have hv:=L2 hg;rw[hg]at hlab;obtain⟨h1,h2⟩:=hlab;cases m with
   |zero=>
    have e:(((most-0:Nat):Int)==(most:Int))=true:=by rw[dU];omega
    refine⟨h1,?_⟩;simp only[h2,e,ay,aw,md,af,au,cF,eb,el,ea,mA,mB];rfl
   |succ m=>
    have e:(((most-(m+1):Nat):Int)==(most:Int))=false:=by rw[cN];omega
    have ht:=ic hL h1 (cz 44 (by decide)) false;simp only[h2,e,ep,ht,ay,aw,md,ar,af,au,cF,bp,bc,eb,el,ea,mA,mB];cases hb:aB l [44] k'
    ·exact⟨h1,rfl⟩
    ·have hw:Go.IntKind.wrap .i64 (((most-(m+1):Nat):Int)+1)=((most-m:Nat):Int):=by rw[wrap_i64 (by omega) (by omega)];omega
     simp only[af,bQ,ar,hw];exact ih m (ps++[v]) (k'+1) (by omega) (cC hL h1 hb) (by rw[cq,List.length_singleton];omega) (fun p hp=>by
      rcases dG.1 hp with q|q
      ·exact x7 p q
      ·rw[kV]at q;rw[q];exact hv)
theorem L6{l:List ae}(hL:bI l)(hT:∀t∈l,t.Text.length<=30000){rec:Int->ad->Option (aa×ad)}{g:Nat->PR aa}{K lv:Int}{nm:List UInt8}(hr:ny l rec (Go.IntKind.wrap .i64 (lv+1)) g)
 {k:Nat} (hk:k<l.length) (b:Bool):Out l (RB b k (dN l (ga l K g) 15 [] k)) (M.ui rec 16 (ip l k b) K nm [] [] lv) fun vs k' b'=>(ip l k' b',K,nm,lv,vs.map (·.1),(vs.map (·.2)).flatten):=by
 cases b with
 |true=>
  refine⟨hk,[],?_⟩;obtain⟨n,hn⟩:∃n,ai=n+1:=⟨ai-1,by have:=bB;omega⟩;unfold M.ui;rw[hn,M.nV];rfl
 |false=>
  have e:=Zs hL hT (K:=K) (lv:=lv) (nm:=nm) hr 16 (by omega) ai 15 [] k (by have:=bB;omega) hk (by simp) (by simp);have hs:((16-15:Nat):Int)=1:=by decide
  rw[hs]at e;rw[show RB false k (dN l (ga l K g) 15 [] k)=dN l (ga l K g) 15 [] k from rfl];unfold M.ui;unfold Out at e⊢;have e16:((16:Nat):Int)=16:=rfl;have n1:List.map (fun x:List UInt8×List aa=>x.1) []=[]:=rfl;have n2:(List.map (fun x:List UInt8×List aa=>x.2) []).flatten=[]:=rfl;rw[e16,n1,n2]at e;cases hc:dN l (ga l K g) 15 [] k with
  |ok v k'=>
   rw[hc]at e;obtain⟨h1,h2⟩:=e;refine⟨h1,?_⟩;cases ho:M.nV rec 16 ai 1 (ip l k false) K nm lv [] []with
   |none=>rw[ho]at h2;cases h2
   |some r=>
    rw[ho]at h2;cases r<;>(simp only[gk,aj]at h2;rw[h2];rfl)
  |no k'=>
   rw[hc]at e;obtain⟨h1,v,h2⟩:=e;refine⟨h1,v,?_⟩;cases ho:M.nV rec 16 ai 1 (ip l k false) K nm lv [] []with
   |none=>rw[ho]at h2;cases h2
   |some r=>
    rw[ho]at h2;cases r<;>(simp only[gk,aj]at h2;rw[h2];rfl)
theorem A4(K:Int)(nm:List UInt8)(ls:List (List UInt8))(ks:List aa)(h:ks.length<=2):M.kh K nm ls ai ks=some (K,nm,ls,ks++List.replicate (2-ks.length) dO):=by
 have step:∀f (ks:List aa),ks.length<2->M.kh K nm ls (f+1) ks=M.kh K nm ls f (ks++[dO]):=fun f ks hk=>by
  rw[M.kh,eX (show((ks.length:Nat):Int)<2 by omega)];simp only[kJ,dy (show ks.length<=1000 by omega),au,af,lA];rfl
 have stop:∀f (ks:List aa),ks.length=2->M.kh K nm ls (f+1) ks=some (K,nm,ls,ks):=fun f ks hk=>by
  rw[M.kh,fL (show ¬((ks.length:Nat):Int)<2 by omega)];rfl
 obtain⟨n,hn⟩:∃n,ai=n+3:=⟨ai-3,by have:=bB;omega⟩;rw[hn];have:ks.length=0\/ks.length=1\/ks.length=2:=by omega
 rcases this with q|q|q
 ·rw[step _ _ (by omega),step _ _ (by rw[cq,List.length_singleton];omega),stop _ _ (by simp[q]),q];simp[List.replicate]
 ·rw[step _ _ (by omega),stop _ _ (by simp[q]),q];rfl
 ·rw[stop _ _ q,q];simp
theorem Zt{l:List ae}(hL:bI l){rec:Int->ad->Option (aa×ad)}{g:Nat->PR aa}{K lv:Int}{nm:List UInt8}{ls:List (List UInt8)}(hr:ny l rec (Go.IntKind.wrap .i64 (lv+1)) g)
 {k:Nat} (hk:k<l.length):Out l (pd l g k) (M.wA rec (ip l k false) K nm lv ls []) fun ts k' b'=>(ip l k' b',K,nm,lv,ls,ts):=by
 have eb:∀k b,ad.bad (ip l k b)=b:=fun _ _=>rfl
 have el:∀k b,ad.list (ip l k b)=l:=fun _ _=>rfl
 have ea:∀k b,ad.at_ (ip l k b)=(k:Int):=fun _ _=>rfl
 have ep:∀(k:Nat) b,ad.mk l (k:Int) b=ip l k b:=fun _ _=>rfl
 have p0:=A4 K nm ls [] (by simp);have pU:=A4 K nm ls [dO] (by simp);have p1:=fun a:aa=>A4 K nm ls [a] (by simp)
 have p2:=fun a b:aa=>A4 K nm ls [a,b] (by simp)
 have s0:∀x y:aa,([]++[x]:List aa).set (Int.toNat ((([]:List aa).length:Nat):Int)) y=[y]:=fun x y=>rfl
 have i0:∀x:aa,inB ((([]:List aa).length:Nat):Int) ([]++[x]:List aa).length=true:=fun x=>kJ [] x
 have c0:∀x:aa,decide ((([]:List aa).length)+[x].length<=1073741824)=true:=fun x=>by simp
 have r2:∀a b:aa,[a,b]++List.replicate (2-[a,b].length) dO=[a,b]:=fun a b=>rfl
 have r1:∀a:aa,[a]++List.replicate (2-[a].length) dO=[a,dO]:=fun a=>rfl
 have r0:([]:List aa)++List.replicate (2-([]:List aa).length) dO=[dO,dO]:=rfl;rw[r0]at p0;simp only[r1]at p1 pU;simp only[r2]at p2;unfold M.wA pd;simp only[ic hL hk (cz 60 (by decide)) false,ay,aw,bp,bc,au];cases h60:aB l [60] k
 ·simp only[ar,p0,af];exact⟨hk,rfl⟩
 ·have hk1:=cC hL hk h60;simp only[af,ic hL hk1 (cz 95 (by decide)) false,ay,aw,bp,bc,au];cases h95:aB l [95] (k+1)
  ·simp only[ar,el,ea,eb];have bL:=pe (K:=K) (lv:=lv) (nm:=nm) (ls:=ls) (ks:=[]) hr (by simp) hk1 false;rw[show RB false (k+1) (g (k+1))=g (k+1)from rfl]at bL;cases hg:g (k+1)with
   |no k'=>
    rw[hg]at bL;obtain⟨h1,v,h2⟩:=bL;refine⟨h1,[v,dO],?_⟩;simp only[h2,ep,ic hL h1 (cz 44 (by decide)) true,eG hL h1 (cz 62 (by decide)) true,ay,aw,bQ,cD,ar,fC,p1,au,af]
   |ok a k'=>
    rw[hg]at bL;obtain⟨h1,h2⟩:=bL;simp only[h2,ep,ic hL h1 (cz 44 (by decide)) false,ay,aw,bp,bc,fC,au,PR.bind];cases iS:aB l [44] k'
    ·simp only[ar,p1,eG hL h1 (cz 62 (by decide)) false,ay,aw,bp,bc,au,af,bV];cases eA:aB l [62] k'
     ·exact⟨h1,[a,dO],rfl⟩
     ·exact⟨cC hL h1 eA,rfl⟩
    ·have hk2:=cC hL h1 iS;simp only[af,el,ea,eb];have mE:=pe (K:=K) (lv:=lv) (nm:=nm) (ls:=ls) (ks:=[a]) hr (by simp) hk2 false;rw[show RB false (k'+1) (g (k'+1))=g (k'+1)from rfl]at mE;cases hg2:g (k'+1)with
     |no k2=>
      rw[hg2]at mE;obtain⟨q1,v,q2⟩:=mE;refine⟨q1,[a,v],?_⟩;simp only[q2,ep,eG hL q1 (cz 62 (by decide)) true,ay,aw,bQ,cD,ar,List.singleton_append,p2,au,af]
     |ok c k2=>
      rw[hg2]at mE;obtain⟨q1,q2⟩:=mE;simp only[q2,ep,eG hL q1 (cz 62 (by decide)) false,ay,aw,bp,bc,List.singleton_append,p2,au,af,bV];cases eA:aB l [62] k2
      ·exact⟨q1,[a,c],rfl⟩
      ·exact⟨cC hL q1 eA,rfl⟩
  ·have mF:=cC hL hk1 h95;simp only[af,ic hL mF (cz 44 (by decide)) false,ay,aw,bp,bc,au,i0,c0,s0,PR.bind];rw[show aa.mk 1 [] [] []=dO from rfl,show k+1+1=k+2 from rfl]at*;cases iS:aB l [44] (k+2)
   ·simp only[ar,pU,eG hL mF (cz 62 (by decide)) false,ay,aw,bp,bc,au,af,bV];cases eA:aB l [62] (k+2)
    ·exact⟨mF,[dO,dO],rfl⟩
    ·exact⟨cC hL mF eA,rfl⟩
   ·have hk2:=cC hL mF iS;simp only[af,el,ea,eb];have mE:=pe (K:=K) (lv:=lv) (nm:=nm) (ls:=ls) (ks:=[dO]) hr (by simp) hk2 false;rw[show RB false (k+2+1) (g (k+2+1))=g (k+2+1)from rfl]at mE;cases hg2:g (k+2+1)with
    |no k2=>
     rw[hg2]at mE;obtain⟨q1,v,q2⟩:=mE;refine⟨q1,[dO,v],?_⟩;simp only[q2,ep,eG hL q1 (cz 62 (by decide)) true,ay,aw,bQ,cD,ar,List.singleton_append,p2,au,af]
    |ok c k2=>
     rw[hg2]at mE;obtain⟨q1,q2⟩:=mE;simp only[q2,ep,eG hL q1 (cz 62 (by decide)) false,ay,aw,bp,bc,List.singleton_append,p2,au,af,bV];cases eA:aB l [62] k2
     ·exact⟨q1,[dO,c],rfl⟩
     ·exact⟨cC hL q1 eA,rfl⟩
end M
namespace M
open Go.V (inB bT ai bB)
theorem Zu:Option.getD M.gj Inhabited.default=[]::words:=by rw[Gs];rfl
theorem Zv:Option.isSome M.gj=true:=by rw[Gs];rfl
theorem vD{l:List ae}(hL:bI l){k:Nat}(hk:k<l.length)(h:ie l k=true):k+1<l.length:=by
 refine hL.next hk ?_;unfold ie at h;rw[bz,dU]at h;have:=h.1;unfold bE at this;rw[this];decide
theorem A5{l:List ae}(hL:bI l){k:Nat}(hk:k<l.length)(h:lQ l k=true):k+1<l.length:=by
 unfold lQ at h;rw[bz]at h;exact vD hL hk h.1
theorem Zw(rec:Int->ad->Option (aa×ad)){l:List ae}(hL:bI l)(hT:∀t∈l,t.Text.length<=30000)(lv:Int){k:Nat}(hk:k<l.length):
 ∃v,M.mW rec lv (ip l k true)=some (v,ip l k true):=by
 unfold M.mW;cases decide ((4:Int)<lv)
 ·have hn:=AZ hL hT hk true;have hr:M.mX []=some false:=by rw[A1,xX];rfl
  refine⟨aa.mk 30 [] [] [],?_⟩;simp only[ar,hn,bQ,cD,aw,ay,hr,bp,au,af]
 ·exact⟨aa.mk 30 [] [] [],rfl⟩
theorem Zx{l:List ae}(hL:bI l)(hT:∀t∈l,t.Text.length<=30000){rec:Int->ad->Option (aa×ad)}{lv:Int}{d:Nat}(hlv:lv<=4)(hr:ny l rec (Go.IntKind.wrap .i64 (lv+1)) (d5 l d))
 {k:Nat} (hk:k<l.length):Out l (d5 l (d+1) k) (M.mW rec lv (ip l k false)) fun v k' b'=>(v,ip l k' b'):=by
 have el:∀k b,ad.list (ip l k b)=l:=fun _ _=>rfl
 have ea:∀k b,ad.at_ (ip l k b)=(k:Int):=fun _ _=>rfl
 have eb:∀k b,ad.bad (ip l k b)=b:=fun _ _=>rfl
 have ep:∀(k:Nat) b,ad.mk l (k:Int) b=ip l k b:=fun _ _=>rfl
 have hn:=AZ hL hT hk false;unfold M.mW;rw[fL (show ¬(4:Int)<lv by omega),ar,d5,hn];unfold f9;cases hnm:ie l k
 ·have hr:M.mX []=some false:=by rw[A1,xX];rfl
  refine⟨hk,aa.mk 30 [] [] [],?_⟩;simp only[Bool.and_false,ar,aw,ay,hr,bp,au,af]
 ·have hk1:=vD hL hk hnm;simp only[bp,au,af,aw,ay,A1,PR.bind,Zu,Zv,LZ];generalize hw:(bE l k).Text=w;have hbd:=Gt w;by_cases h0:dD w=0
  ·rw[h0];exact⟨hk1,rfl⟩
  ·have hne:w≠[]:=fun q=>h0 (by rw[q];exact xX)
   rw[aX hne,aX h0,eX (show 0<dD w by omega),show(dD w==0)=false from cN.2 h0];simp only[bQ,ar];generalize dD w=K at*;have hb0:∀(x y:Bool),((true|| !x)&&(true||y))=true:=fun x y=>rfl
   by_cases hA:K=12\/K=13\/K=22\/K=23
   ·have c1:(bif K==12 then K==12 else bif K==13 then K==13 else bif K==22 then K==22 else K==23)=true:=by
     rcases hA with q|q|q|q<;>rw[q]<;>rfl
    have c2:((K==12)||((K==13)||((K==22)||(K==23))))=true:=by
     rcases hA with q|q|q|q<;>rw[q]<;>rfl
    rw[c1,c2];simp only[af,eG hL hk1 (cz 60 (by decide)) false,ay,aw,bp,bc,el,ea,eb,bP,au];unfold bV;cases h60:aB l [60] (k+1)
    ·simp only[ar,el,ea,eb];obtain⟨h1,v,h2⟩:=pe (K:=K) (lv:=lv) (nm:=[]) (ls:=[]) (ks:=[]) hr (by simp) hk1 true;refine⟨hk1,aa.mk K [] [] [v],?_⟩;simp only[h2,ep,eG hL hk1 (cz 62 (by decide)) true,ay,aw,bQ,cD,ar,bP,au,af,fC]
    ·have hk2:=cC hL hk1 h60;simp only[af,el,ea,eb];have bL:=pe (K:=K) (lv:=lv) (nm:=[]) (ls:=[]) (ks:=[]) hr (by simp) hk2 false;rw[show RB false (k+1+1) (d5 l d (k+1+1))=d5 l d (k+1+1)from rfl]at bL;cases hg:d5 l d (k+1+1)with
     |no k'=>
      rw[hg]at bL;obtain⟨h1,v,h2⟩:=bL;refine⟨h1,aa.mk K [] [] [v],?_⟩;simp only[h2,ep,eG hL h1 (cz 62 (by decide)) true,ay,aw,bQ,cD,ar,bP,au,af,fC]
     |ok v k'=>
      rw[hg]at bL;obtain⟨h1,h2⟩:=bL;simp only[h2,ep,eG hL h1 (cz 62 (by decide)) false,ay,aw,bp,bc,bP,au,af,fC];cases eA:aB l [62] k'
      ·exact⟨h1,aa.mk K [] [] [v],rfl⟩
      ·exact⟨cC hL h1 eA,rfl⟩
   ·have c1:(bif K==12 then K==12 else bif K==13 then K==13 else bif K==22 then K==22 else K==23)=false:=by
     have e1:(K==12)=false:=by rw[cN];omega
     have e2:(K==13)=false:=by rw[cN];omega
     have e3:(K==22)=false:=by rw[cN];omega
     have e4:(K==23)=false:=by rw[cN];omega
     rw[e1,e2,e3,e4];rfl
    have c2:((K==12)||((K==13)||((K==22)||(K==23))))=false:=by
     have e1:(K==12)=false:=by rw[cN];omega
     have e2:(K==13)=false:=by rw[cN];omega
     have e3:(K==22)=false:=by rw[cN];omega
     have e4:(K==23)=false:=by rw[cN];omega
     rw[e1,e2,e3,e4];rfl
    rw[c1,c2];simp only[ar,bP,au];by_cases h15:K=15
    ·rw[h15];simp only[Int.reduceBEq,af,eG hL hk1 (cz 60 (by decide)) false,ay,aw,bp,bc,bP,au];unfold bV;cases h60:aB l [60] (k+1)
     ·simp only[ar];obtain⟨h1,v,h2⟩:=L0 hL (K:=15) (lv:=lv) (nm:=[]) (ls:=[]) hr hk1 true;refine⟨hk1,aa.mk 15 [] [] v,?_⟩;simp only[h2,eG hL hk1 (cz 62 (by decide)) true,ay,aw,bQ,cD,ar,bP,au,af]
     ·have hk2:=cC hL hk1 h60;simp only[af];have bL:=L0 hL (K:=15) (lv:=lv) (nm:=[]) (ls:=[]) hr hk2 false;rw[show RB false (k+1+1) (dN l (d5 l d) 5 [] (k+1+1))=dN l (d5 l d) 5 [] (k+1+1)from rfl]at bL;cases hg:dN l (d5 l d) 5 [] (k+1+1)with
      |no k'=>
       rw[hg]at bL;obtain⟨h1,v,h2⟩:=bL;refine⟨h1,aa.mk 15 [] [] v,?_⟩;simp only[h2,eG hL h1 (cz 62 (by decide)) true,ay,aw,bQ,cD,ar,bP,au,af]
      |ok v k'=>
       rw[hg]at bL;obtain⟨h1,h2⟩:=bL;simp only[h2,eG hL h1 (cz 62 (by decide)) false,ay,aw,bp,bc,bP,au,af];cases eA:aB l [62] k'
       ·exact⟨h1,aa.mk 15 [] [] v,rfl⟩
       ·exact⟨cC hL h1 eA,rfl⟩
    ·rw[show(K==15)=false from cN.2 h15];simp only[ar];by_cases hB:K=20\/K=21
     ·have c1:(bif K==20 then K==20 else K==21)=true:=by rcases hB with q|q<;>rw[q]<;>rfl
      have c2:((K==20)||(K==21))=true:=by rcases hB with q|q<;>rw[q]<;>rfl
      rw[c1,c2];simp only[af,eG hL hk1 (cz 60 (by decide)) false,ay,aw,bp,bc,bP,au];unfold bV ly;cases h60:aB l [60] (k+1)
      ·refine⟨hk1,aa.mk K [] [] [],?_⟩;simp only[ar,Gu hL hT hk1 true,eG hL hk1 (cz 62 (by decide)) true,ay,aw,bQ,cD,bP,au,af]
      ·have hk2:=cC hL hk1 h60;simp only[af,Gu hL hT hk2 false,ay,aw,bp,bc,bP,au];cases hid:lQ l (k+1+1)
       ·refine⟨hk2,aa.mk K [] [] [],?_⟩;simp only[ar,eG hL hk2 (cz 62 (by decide)) true,ay,aw,bQ,cD,bP,au,af]
       ·have hk3:=A5 hL hk2 hid;simp only[af,eG hL hk3 (cz 62 (by decide)) false,ay,aw,bp,bc,bP,au];cases eA:aB l [62] (k+1+1+1)
        ·exact⟨hk3,aa.mk K (bE l (k+1+1)).Text [] [],rfl⟩
        ·exact⟨cC hL hk3 eA,rfl⟩
     ·have c1:(bif K==20 then K==20 else K==21)=false:=by
       have e1:(K==20)=false:=by rw[cN];omega
       have e2:(K==21)=false:=by rw[cN];omega
       rw[e1,e2];rfl
      have c2:((K==20)||(K==21))=false:=by
       have e1:(K==20)=false:=by rw[cN];omega
       have e2:(K==21)=false:=by rw[cN];omega
       rw[e1,e2];rfl
      rw[c1,c2];simp only[ar];by_cases x8:K=14
      ·rw[x8];simp only[Int.reduceBEq,af];have bL:=Zt hL (K:=14) (lv:=lv) (nm:=[]) (ls:=[]) hr hk1;cases hg:pd l (d5 l d) (k+1)with
       |no k'=>
        rw[hg]at bL;obtain⟨h1,v,h2⟩:=bL;refine⟨h1,aa.mk 14 [] [] v,?_⟩;simp only[h2,ay,aw,bP,au,af]
       |ok v k'=>
        rw[hg]at bL;obtain⟨h1,h2⟩:=bL;refine⟨h1,?_⟩;simp only[h2,ay,aw,bP,au,af]
      ·rw[show(K==14)=false from cN.2 x8];simp only[ar];by_cases hC:K=16\/K=17\/K=18\/K=19
       ·have c1:(bif K==16 then K==16 else bif K==17 then K==17 else bif K==18 then K==18 else K==19)=true:=by
         rcases hC with q|q|q|q<;>rw[q]<;>rfl
        have c2:((K==16)||((K==17)||((K==18)||(K==19))))=true:=by
         rcases hC with q|q|q|q<;>rw[q]<;>rfl
        rw[c1,c2];simp only[af,eG hL hk1 (cz 123 (by decide)) false,ay,aw,bp,bc,bP,au];unfold bV;cases h60:aB l [123] (k+1)
        ·simp only[ar];obtain⟨h1,v,h2⟩:=L6 hL hT (K:=K) (lv:=lv) (nm:=[]) hr hk1 true;refine⟨hk1,aa.mk K [] (v.map (·.1)) (v.map (·.2)).flatten,?_⟩;simp only[h2,eG hL hk1 (cz 125 (by decide)) true,ay,aw,bQ,cD,ar,bP,au,af]
        ·have hk2:=cC hL hk1 h60;simp only[af];have bL:=L6 hL hT (K:=K) (lv:=lv) (nm:=[]) hr hk2 false;rw[show ∀r:PR (List (List UInt8×List aa)),RB false (k+1+1) r=r from fun _=>rfl]at bL;cases hg:dN l (ga l K (d5 l d)) 15 [] (k+1+1)with
         |no k'=>
          rw[hg]at bL;obtain⟨h1,v,h2⟩:=bL;refine⟨h1,aa.mk K [] (v.map (·.1)) (v.map (·.2)).flatten,?_⟩;simp only[h2,eG hL h1 (cz 125 (by decide)) true,ay,aw,bQ,cD,ar,bP,au,af]
         |ok v k'=>
          rw[hg]at bL;obtain⟨h1,h2⟩:=bL;simp only[h2,eG hL h1 (cz 125 (by decide)) false,ay,aw,bp,bc,bP,au,af];cases eA:aB l [125] k'
          ·exact⟨h1,aa.mk K [] (v.map (·.1)) (v.map (·.2)).flatten,rfl⟩
          ·exact⟨cC hL h1 eA,rfl⟩
       ·have e1:(K==16)=false:=by rw[cN];omega
        have e2:(K==17)=false:=by rw[cN];omega
        have e3:(K==18)=false:=by rw[cN];omega
        have e4:(K==19)=false:=by rw[cN];omega
        rw[e1,e2,e3,e4];refine⟨hk1,?_⟩;simp only[ar,me,bP,au,af]
theorem L8{l:List ae}(hL:bI l)(hT:∀t∈l,t.Text.length<=30000):∀(n d:Nat)(lv:Int),d<n->d<=4->lv=5-(d:Int)->ny l (M.pP n) lv (d5 l d)
 |0,d,lv,h,_,_=>by omega
 |n+1,d,lv,h,h4,hlv=>fun k b hk=>by
  show Out l _ (M.mW (M.pP n) lv (ip l k b)) _
  cases b with
  |true=>
   obtain⟨v,e⟩:=Zw (M.pP n) hL hT lv hk;exact⟨hk,v,e⟩
  |false=>
   cases d with
   |zero=>
    refine⟨hk,aa.mk 30 [] [] [],?_⟩;unfold M.mW;rw[eX (show(4:Int)<lv by omega)];rfl
   |succ d=>
    have hw:Go.IntKind.wrap .i64 (lv+1)=5-(d:Int):=by rw[wrap_i64 (by omega) (by omega)];omega
    have hr:=L8 hL hT n d (Go.IntKind.wrap .i64 (lv+1)) (by omega) (by omega) hw;exact Zx hL hT (by omega) hr hk
end M
namespace M
open Go.V (inB bT ai bB)
def kK{α:Type}(l:List ae)(el:Nat->PR α)(close:List UInt8):Nat->List α->Nat->PR (List α)
 |m,acc,k=>match el k with
  |.no k'=>.no k'
  |.ok v k1=>bif aB l close k1 then .ok (acc++[v]) (k1+1)else match m with
    |0=>.no k1
    |m+1=>bif aB l [44] k1 then kK l el close m (acc++[v]) (k1+1)else .no k1
theorem Zy{l:List ae}{a b:List UInt8}(h:a≠b){k:Nat}(ha:aB l a k=true):aB l b k=false:=by
 unfold aB at ha⊢;rw[bz,dU]at ha;rw[ha.2];have:(a==b)=false:=cN.2 h;rw[this,Bool.and_false]
theorem x9{α:Type}(l:List ae)(el:Nat->PR α)(close:List UInt8)(hc:close≠[44]):∀(m:Nat)(acc:List α)(k:Nat),
 kK l el close m acc k=(dN l el m acc k).bind fun vs k'=>(bV l close k').bind fun _ k''=>.ok vs k''
 |0,acc,k=>by
  rw[kK,dN];cases el k with
  |no k'=>rfl
  |ok v k1=>
   simp only[PR.bind,bV];cases aB l close k1<;>rfl
 |m+1,acc,k=>by
  rw[kK,dN];cases el k with
  |no k'=>rfl
  |ok v k1=>
   simp only;cases h:aB l close k1
   ·cases iS:aB l [44] k1
    ·simp only[ar,PR.bind,bV,h]
    ·simp only[ar,af];exact x9 l el close hc m (acc++[v]) (k1+1)
   ·rw[Zy hc h];simp only[af,ar,PR.bind,bV,h]
def sy(l:List ae)(rec:Int->an->Option (aa×an))(dp:Int)(g:Nat->PR aa):Prop:=
 ∀k b,k<l.length->Out l (RB b k (g k)) (rec dp (sp l k b)) fun v k' b'=>(v,sp l k' b')
theorem kL{l:List ae}(hL:bI l){k:Nat}(hk:k<l.length)(n most:Int)(b:Bool):M.jj n most (sp l k b)=some (bif decide (most<=n)then sp l k true else bif !b&&aB l [44] k then sp l (k+1) b else sp l k true):=by
 unfold M.jj;rw[fQ hL hk [44] b];cases decide (most<=n)
 ·cases (!b&&aB l [44] k)<;>rfl
 ·rfl
theorem Zz{l:List ae}(hL:bI l){rec:Int->an->Option (aa×an)}{g:Nat->PR aa}{dp:Int}(hr:sy l rec (Go.IntKind.wrap .i64 (dp-1)) g)(a1:Int)(a2:List UInt8)(a3:Int)(a4:List UInt8)(a5:List (List UInt8))(a6:List aa)(a7:List (List UInt8)):
 ∀(f m:Nat)(ks:List aa)(k:Nat),m+1<f->k<l.length->ks.length+(m+1)=6->
 Out l (kK l g [62] m ks k) (M.pf rec dp a1 a2 a3 a4 a5 a6 a7 f (sp l k false) ks) fun vs k' b'=>(l,(k':Int),b',a1,a2,a3,a4,a5,a6,a7,vs):=by
 intro f
 induction f with
 |zero=>intro m ks k h;omega
 |succ f ih=>
  intro m ks k hf hk hks;obtain⟨f',rfl⟩:∃f',f=f'+1:=⟨f-1,by omega⟩;rw[M.pf,kK];have el:∀k b,an.list (sp l k b)=l:=fun _ _=>rfl
  have ea:∀k b,an.at_ (sp l k b)=(k:Int):=fun _ _=>rfl
  have eb:∀k b,an.bad (sp l k b)=b:=fun _ _=>rfl
  have hend:∀(k:Nat)(xs:List aa),M.pf rec dp a1 a2 a3 a4 a5 a6 a7 (f'+1) (sp l k true) xs=some (l,(k:Int),true,a1,a2,a3,a4,a5,a6,a7,xs):=fun k xs=>by
   rw[M.pf];rfl
  have h:=hr k false hk;rw[show RB false k (g k)=g k from rfl]at h;simp only[eb,bp,af];cases hg:g k with
  |no k'=>
   rw[hg]at h;obtain⟨h1,v,h2⟩:=h;refine⟨h1,ks++[v],?_⟩;simp only[h2,eM hL h1 [62] true,kL hL h1,aw,ay,bQ,cD,ar,kJ,dy (show ks.length<=1000 by omega),au,af,lA,aa.bq];cases decide ((6:Int)<=(((ks++[v]).length:Nat):Int))<;>exact hend k' _
  |ok v k'=>
   rw[hg]at h;obtain⟨h1,h2⟩:=h;simp only[h2,eM hL h1 [62] false,kL hL h1,aw,ay,bp,bc,kJ,dy (show ks.length<=1000 by omega),au,af,lA,aa.bq];cases eA:aB l [62] k'
   ·simp only[ar,kL hL h1,aw,ay,au,af,bp,bc];have hlen:(((ks++[v]).length:Nat):Int)=(6:Int)-(m:Int):=by rw[cq,List.length_singleton];omega
    cases m with
    |zero=>
     rw[eX (show(6:Int)<=(((ks++[v]).length:Nat):Int) by omega)];exact⟨h1,ks++[v],hend k' _⟩
    |succ m=>
     rw[fL (show ¬(6:Int)<=(((ks++[v]).length:Nat):Int) by omega)];simp only[ar];cases iS:aB l [44] k'
     ·exact⟨h1,ks++[v],hend k' _⟩
     ·exact ih m (ks++[v]) (k'+1) (by omega) (cC hL h1 iS) (by rw[cq,List.length_singleton];omega)
   ·refine⟨cC hL h1 eA,?_⟩;simp only[af,eb,el,ea]
theorem ZA{l:List ae}(hL:bI l){rec:Int->an->Option (aa×an)}{g:Nat->PR aa}{dp:Int}(hr:sy l rec (Go.IntKind.wrap .i64 (dp-1)) g){k:Nat}(hk:k<l.length):
 Out l (pd l g k) (M.ya rec dp (sp l k false)) fun ts k' b'=>(ts,sp l k' b'):=by
 have s0:∀a b x:aa,List.set [a,b] (Int.toNat 0) x=[x,b]:=fun _ _ _=>rfl
 have s1:∀a b x:aa,List.set [a,b] (Int.toNat 1) x=[a,x]:=fun _ _ _=>rfl
 have i0:∀a b:aa,inB 0 [a,b].length=true:=fun _ _=>rfl
 have i1:∀a b:aa,inB 1 [a,b].length=true:=fun _ _=>rfl
 have eU:aa.mk 1 [] [] []=dO:=rfl;unfold M.ya pd;simp only[eM hL hk [60] false,ay,aw,bp,bc,au,eU,s0,s1,i0,i1];cases h60:aB l [60] k
 ·exact⟨hk,rfl⟩
 ·have hk1:=cC hL hk h60;simp only[af,bQ,ar,eM hL hk1 [95] false,ay,aw,bp,bc,au];cases h95:aB l [95] (k+1)
  ·simp only[ar,bp,af];have h:=hr (k+1) false hk1;rw[show RB false (k+1) (g (k+1))=g (k+1)from rfl]at h;cases hg:g (k+1)with
   |no k'=>
    rw[hg]at h;obtain⟨h1,v,h2⟩:=h;refine⟨h1,[v,dO],?_⟩;simp only[h2,eM hL h1 [44] true,fQ hL h1 [62] true,ay,aw,bQ,cD,ar,au,af,aa.bq]
   |ok a k'=>
    rw[hg]at h;obtain⟨h1,h2⟩:=h;simp only[h2,eM hL h1 [44] false,ay,aw,bp,bc,au,PR.bind,aa.bq];cases iS:aB l [44] k'
    ·simp only[ar,fQ hL h1 [62] false,ay,aw,bp,bc,au,af,bV];cases eA:aB l [62] k'
     ·exact⟨h1,[a,dO],rfl⟩
     ·exact⟨cC hL h1 eA,rfl⟩
    ·have hk2:=cC hL h1 iS;simp only[af];have hb:=hr (k'+1) false hk2;rw[show RB false (k'+1) (g (k'+1))=g (k'+1)from rfl]at hb;cases hg2:g (k'+1)with
     |no k2=>
      rw[hg2]at hb;obtain⟨q1,v,q2⟩:=hb;refine⟨q1,[a,v],?_⟩;simp only[q2,fQ hL q1 [62] true,ay,aw,bQ,cD,ar,au,af,aa.bq,s1,i1]
     |ok c k2=>
      rw[hg2]at hb;obtain⟨q1,q2⟩:=hb;simp only[q2,fQ hL q1 [62] false,ay,aw,bp,bc,au,af,bV,aa.bq,s1,i1];cases eA:aB l [62] k2
      ·exact⟨q1,[a,c],rfl⟩
      ·exact⟨cC hL q1 eA,rfl⟩
  ·have mF:=cC hL hk1 h95;simp only[af,bQ,ar,eM hL mF [44] false,ay,aw,bp,bc,au,PR.bind];rw[show k+1+1=k+2 from rfl]at*;cases iS:aB l [44] (k+2)
   ·simp only[ar,fQ hL mF [62] false,ay,aw,bp,bc,au,af,bV];cases eA:aB l [62] (k+2)
    ·exact⟨mF,[dO,dO],rfl⟩
    ·exact⟨cC hL mF eA,rfl⟩
   ·have hk2:=cC hL mF iS;simp only[af];have hb:=hr (k+2+1) false hk2;rw[show RB false (k+2+1) (g (k+2+1))=g (k+2+1)from rfl]at hb;cases hg2:g (k+2+1)with
    |no k2=>
     rw[hg2]at hb;obtain⟨q1,v,q2⟩:=hb;refine⟨q1,[dO,v],?_⟩;simp only[q2,fQ hL q1 [62] true,ay,aw,bQ,cD,ar,au,af,aa.bq]
    |ok c k2=>
     rw[hg2]at hb;obtain⟨q1,q2⟩:=hb;simp only[q2,fQ hL q1 [62] false,ay,aw,bp,bc,au,af,bV,aa.bq];cases eA:aB l [62] k2
     ·exact⟨q1,[dO,c],rfl⟩
     ·exact⟨cC hL q1 eA,rfl⟩
end M
namespace M
open Go.V (inB bT ai bB)
noncomputable def jI(l:List ae)(rec:Int->an->Option (aa×an))(dp K:Int)(t2:List UInt8)(f:Nat)(o4:List (List UInt8))(o5:List aa)(v:List UInt8×List aa)(k:Nat)(b:Bool):Option ((List M.ae)×Int×Bool×Int×(List UInt8)×(List (List UInt8))×(List M.aa)):=
 bif !b&&aB l [125] k then some (l,((k+1:Nat):Int),b,K,t2,o4++[v.1],o5++v.2)
 else M.jk rec dp K t2 f (bif decide ((16:Int)<=(((o4++[v.1]).length:Nat):Int))then sp l k true else bif !b&&aB l [44] k then sp l (k+1) b else sp l k true) (o4++[v.1]) (o5++v.2)
theorem L9{l:List ae}(hL:bI l){rec:Int->an->Option (aa×an)}{g:Nat->PR aa}{dp K:Int}{t2:List UInt8}{f:Nat}{o4:List (List UInt8)}{o5:List aa}(hr:sy l rec (Go.IntKind.wrap .i64 (dp-1)) g)
 (h4:o4.length<=1000) (h5:o5.length<=1000) {p:an} (hb:an.bad p=false) {w:List UInt8} {k1:Nat} {b1:Bool} (hname:M.fk p=some (w,sp l k1 b1)) (hk:k1<l.length):
 Out l (RB b1 k1 (nz l K g w k1)) (some (M.jk rec dp K t2 (f+1) p o4 o5)) fun v k' b'=>jI l rec dp K t2 f o4 o5 v k' b':=by
 have el:∀k b,an.list (sp l k b)=l:=fun _ _=>rfl
 have ea:∀k b,an.at_ (sp l k b)=(k:Int):=fun _ _=>rfl
 have eb:∀k b,an.bad (sp l k b)=b:=fun _ _=>rfl
 have eu:aa.mk 1 [] [] []=dO:=rfl;rw[M.jk];unfold nz;simp only[hb,bp,af,hname,ay,aw,dy h4,au,bc];cases h16:(K==(16:Int))
 ·cases h17:(K==(17:Int))
  ·simp only[ar,eM hL hk [125] b1,ay,aw,cF,au,bc];have key:∀o,o=jI l rec dp K t2 f o4 o5 (w,[]) k1 b1->Out l (RB b1 k1 (PR.ok (w,[]) k1)) (some o) fun v k' b'=>jI l rec dp K t2 f o4 o5 v k' b':=fun o e=>by
    rw[e];cases b1
    ·exact⟨hk,rfl⟩
    ·exact⟨hk,_,rfl⟩
   apply key;unfold jI;cases hc:(!b1&&aB l [125] k1)
   ·simp only[ar,kL hL hk,ay,aw,au,af,rq]
   ·simp only[af,el,ea,eb,rq]
  ·simp only[ar,af,eM hL hk [40] b1,ay,aw,cF,au,bc];cases lP:(!b1&&aB l [40] k1)
   ·simp only[ar,eM hL hk [125] b1,ay,aw,kJ,dy h5,au,bc,lA,eu];have key:∀o,o=jI l rec dp K t2 f o4 o5 (w,[dO]) k1 b1->Out l (RB b1 k1 (bif aB l [40] k1 then(g (k1+1)).bind fun t k3=>(bV l [41] k3).bind fun _ k4=>PR.ok (w,[t]) k4 else PR.ok (w,[dO]) k1)) (some o) fun v k' b'=>jI l rec dp K t2 f o4 o5 v k' b':=fun o e=>by
     rw[e];cases b1
     ·have:aB l [40] k1=false:=by simpa using lP
      rw[this];exact⟨hk,rfl⟩
     ·exact⟨hk,_,rfl⟩
    apply key;unfold jI;cases hc:(!b1&&aB l [125] k1)
    ·simp only[ar,kL hL hk,ay,aw,au,af]
    ·simp only[af,el,ea,eb]
   ·rw[bz,fK]at lP;obtain⟨hb1,lP⟩:=lP;subst hb1;rw[lP];have hk2:=cC hL hk lP;have bL:=hr (k1+1) false hk2;rw[show RB false (k1+1) (g (k1+1))=g (k1+1)from rfl]at bL;rw[show ∀r:PR (List UInt8×List aa),RB false k1 r=r from fun _=>rfl];simp only[af];cases hg:g (k1+1)with
    |no k'=>
     rw[hg]at bL;obtain⟨h1,v,h2⟩:=bL;refine⟨h1,(w,[v]),fN some ?_⟩;simp only[h2,fQ hL h1 [41] true,ay,aw,bQ,cD,ar,eM hL h1 [125] true,kL hL h1,kJ,dy h5,au,bc,lA,aa.bq,af];unfold jI;simp only[bQ,cD,ar]
    |ok v k'=>
     rw[hg]at bL;obtain⟨h1,h2⟩:=bL;simp only[h2,fQ hL h1 [41] false,ay,aw,bp,bc,PR.bind,bV];cases nA:aB l [41] k'
     ·refine⟨h1,(w,[v]),fN some ?_⟩;simp only[ar,eM hL h1 [125] true,kL hL h1,ay,aw,bQ,cD,kJ,dy h5,au,bc,lA,aa.bq,af];unfold jI;simp only[bQ,cD,ar]
     ·have h1':=cC hL h1 nA;refine⟨h1',fN some ?_⟩;simp only[af,eM hL h1' [125] false,ay,aw,bp,kJ,dy h5,au,bc,lA,aa.bq];unfold jI;simp only[bp,bc];cases hc:aB l [125] (k'+1)
      ·simp only[ar,kL hL h1',ay,aw,au,af,bp,bc]
      ·simp only[af,el,ea,eb]
 ·simp only[af,fQ hL hk [58] b1,ay,aw];cases hc:(!b1&&aB l [58] k1)
  ·simp only[ar];have bL:=hr k1 true hk;obtain⟨h1,v,h2⟩:=bL;have:RB b1 k1 ((bV l [58] k1).bind fun _ k2=>(g k2).bind fun t k3=>PR.ok (w,[t]) k3)=PR.no k1:=by
    cases b1
    ·have:aB l [58] k1=false:=by simpa using hc
     unfold bV;rw[this];rfl
    ·rfl
   rw[this];refine⟨hk,(w,[v]),fN some ?_⟩;simp only[h2,eM hL hk [125] true,kL hL hk,ay,aw,bQ,cD,ar,kJ,dy h5,au,bc,lA,aa.bq,af];unfold jI;simp only[bQ,cD,ar]
  ·rw[bz,fK]at hc;obtain⟨hb1,hc⟩:=hc;subst hb1;have hk2:=cC hL hk hc;simp only[af];have bL:=hr (k1+1) false hk2;rw[show RB false (k1+1) (g (k1+1))=g (k1+1)from rfl]at bL;rw[show RB false k1 ((bV l [58] k1).bind fun _ k2=>(g k2).bind fun t k3=>PR.ok (w,[t]) k3)=(g (k1+1)).bind fun t k3=>PR.ok (w,[t]) k3 by unfold bV;rw[hc];rfl];cases hg:g (k1+1)with
   |no k'=>
    rw[hg]at bL;obtain⟨h1,v,h2⟩:=bL;refine⟨h1,(w,[v]),fN some ?_⟩;simp only[h2,eM hL h1 [125] true,kL hL h1,ay,aw,bQ,cD,ar,kJ,dy h5,au,bc,lA,aa.bq,af];unfold jI;simp only[bQ,cD,ar]
   |ok v k'=>
    rw[hg]at bL;obtain⟨h1,h2⟩:=bL;refine⟨h1,fN some ?_⟩;simp only[h2,eM hL h1 [125] false,ay,aw,bp,kJ,dy h5,au,bc,lA,aa.bq];unfold jI;simp only[bp,bc];cases hc:aB l [125] k'
    ·simp only[ar,kL hL h1,ay,aw,au,af,bp,bc]
    ·simp only[af,el,ea,eb]
theorem ZB{l:List ae}(hL:bI l)(hT:∀t∈l,t.Text.length<=30000){rec:Int->an->Option (aa×an)}{g:Nat->PR aa}{dp K:Int}{t2:List UInt8}(hr:sy l rec (Go.IntKind.wrap .i64 (dp-1)) g):
 ∀(f m:Nat)(ps:List (List UInt8×List aa))(k:Nat),m+1<f->k<l.length->ps.length+(m+1)=16->(∀p∈ps,p.2.length<=1)->
 Out l (kK l (ga l K g) [125] m ps k) (M.jk rec dp K t2 f (sp l k false) (ps.map (·.1)) (ps.map (·.2)).flatten) fun vs k' b'=>(l,(k':Int),b',K,t2,vs.map (·.1),(vs.map (·.2)).flatten):=by
 intro f
 induction f with
 |zero=>intro m ks k h;omega
 |succ f ih=>
  intro m ps k hf hk hps x7;obtain⟨f',rfl⟩:∃f',f=f'+1:=⟨f-1,by omega⟩;have hfl:=Gw ps x7;have mA:∀v:List UInt8×List aa,ps.map (·.1)++[v.1]=(ps++[v]).map (·.1):=fun v=>by rw[zI];rfl
  have mB:∀v:List UInt8×List aa,(ps.map (·.2)).flatten++v.2=((ps++[v]).map (·.2)).flatten:=fun v=>by rw[zI,List.flatten_append];simp
  have hend:∀(k:Nat)(xs:List (List UInt8))(ys:List aa),M.jk rec dp K t2 (f'+1) (sp l k true) xs ys=some (l,(k:Int),true,K,t2,xs,ys):=fun k xs ys=>by
   rw[M.jk];rfl
  have hn:=vB hL hT hk false;rw[bp,bc]at hn;have h:Out l (ga l K g k) (some (M.jk rec dp K t2 (f'+1+1) (sp l k false) (ps.map (·.1)) (ps.map (·.2)).flatten)) fun v k' b'=>jI l rec dp K t2 (f'+1) (ps.map (·.1)) (ps.map (·.2)).flatten v k' b':=by
   rw[A3];unfold f9;cases hc:ie l k
   ·rw[hc]at hn;exact L9 hL (K:=K) (t2:=t2) (f:=f'+1) hr (by rw[kW];omega) (by omega) (show an.bad (sp l k false)=false from rfl) hn hk
   ·rw[hc]at hn;exact L9 hL (K:=K) (t2:=t2) (f:=f'+1) hr (by rw[kW];omega) (by omega) (show an.bad (sp l k false)=false from rfl) hn (vD hL hk hc)
  rw[kK];cases hg:ga l K g k with
  |no k'=>
   rw[hg]at h;obtain⟨h1,v,h2⟩:=h;refine⟨h1,ps++[v],?_⟩;rw[gU h2];unfold jI;simp only[bQ,cD,ar,mA,mB];cases decide ((16:Int)<=((((ps++[v]).map (·.1)).length:Nat):Int))<;>exact hend k' _ _
  |ok v k'=>
   have hv:=L2 hg;rw[hg]at h;obtain⟨h1,h2⟩:=h;simp only[gU h2];unfold jI;simp only[bp,bc,mA,mB];cases ZC:aB l [125] k'
   ·simp only[ar];have hlen:((((ps++[v]).map (·.1)).length:Nat):Int)=(16:Int)-(m:Int):=by rw[kW,cq,List.length_singleton];omega
    cases m with
    |zero=>
     rw[eX (show(16:Int)<=((((ps++[v]).map (·.1)).length:Nat):Int) by omega)];exact⟨h1,ps++[v],hend k' _ _⟩
    |succ m=>
     rw[fL (show ¬(16:Int)<=((((ps++[v]).map (·.1)).length:Nat):Int) by omega)];simp only[ar];cases iS:aB l [44] k'
     ·exact⟨h1,ps++[v],hend k' _ _⟩
     ·refine ih m (ps++[v]) (k'+1) (by omega) (cC hL h1 iS) (by rw[cq,List.length_singleton];omega) ?_;intro p hp;rcases dG.1 hp with q|q
      ·exact x7 p q
      ·rw[kV.1 q];exact hv
   ·exact⟨cC hL h1 ZC,rfl⟩
theorem ZD{l:List ae}(hL:bI l)(hT:∀t∈l,t.Text.length<=30000){rec:Int->an->Option (aa×an)}{g:Nat->PR aa}{dp K:Int}(hr:sy l rec (Go.IntKind.wrap .i64 (dp-1)) g){k:Nat}(hk:k<l.length):
 Out l ((bV l [123] k).bind fun _ k2=>(dN l (ga l K g) 15 [] k2).bind fun ps k3=>(bV l [125] k3).bind fun _ k4=>.ok ps k4) (M.lS rec dp (sp l k false) K [] [] []) fun vs k' b'=>(sp l k' b',K,[],vs.map (·.1),(vs.map (·.2)).flatten):=by
 unfold M.lS bV;simp only[fQ hL hk [123] false,bp,bc,ay,aw,au,af];cases A6:aB l [123] k
 ·obtain⟨n,hn⟩:∃n,ai=n+1:=⟨ai-1,by have:=bB;omega⟩;refine⟨hk,[],?_⟩;simp only[ar];rw[hn,M.jk];rfl
 ·have hk2:=cC hL hk A6;have e:=ZB hL hT (K:=K) (t2:=[]) hr ai 15 [] (k+1) (by have:=bB;omega) hk2 rfl (by simp);rw[x9 l _ [125] (by decide)]at e;simp only[af];rw[show(([]:List (List UInt8×List aa)).map (·.1))=[]from rfl,show(([]:List (List UInt8×List aa)).map (·.2)).flatten=[]from rfl]at e;rw[show(PR.ok () (k+1)).bind (fun _ k2=>(dN l (ga l K g) 15 [] k2).bind fun ps k3=>(bif aB l [125] k3 then PR.ok () (k3+1)else PR.no k3).bind fun _ k4=>PR.ok ps k4)=(dN l (ga l K g) 15 [] (k+1)).bind fun ps k3=>(bif aB l [125] k3 then PR.ok () (k3+1)else PR.no k3).bind fun _ k4=>PR.ok ps k4 from rfl];unfold bV at e;unfold Out at e⊢;cases hc:(dN l (ga l K g) 15 [] (k+1)).bind fun ps k3=>(bif aB l [125] k3 then PR.ok () (k3+1)else PR.no k3).bind fun _ k4=>PR.ok ps k4 with
  |ok v k'=>
   rw[hc]at e;obtain⟨h1,h2⟩:=e;refine⟨h1,?_⟩;rw[h2];rfl
  |no k'=>
   rw[hc]at e;obtain⟨h1,v,h2⟩:=e;refine⟨h1,v,?_⟩;rw[h2];rfl
end M
namespace M
open Go.V (inB bT ai bB)
theorem Mc(rec:Int->an->Option (aa×an)){l:List ae}(hL:bI l)(hT:∀t∈l,t.Text.length<=30000)(dp:Int){k:Nat}(hk:k<l.length)(b:Bool)(h:b=true\/dp=0):
 ∃v,M.sB rec dp (sp l k b)=some (v,sp l k true):=by
 have hn:=vB hL hT hk true;have e:(b||(dp==(0:Int)))=true:=by rcases h with q|q<;>rw[q]<;>simp
 refine⟨aa.mk 0 [] [] [],?_⟩;unfold M.sB;rw[show(an.mk (an.list (sp l k b)) (an.at_ (sp l k b)) ((an.bad (sp l k b))||(dp==(0:Int))))=sp l k true by
  show an.mk l (k:Int) (b||(dp==(0:Int)))=_
  rw[e];rfl]
 rw[hn];simp only[bQ,cD,ar,aw,ay,A0,xX,au,af];rfl
theorem ZE{l:List ae}(hL:bI l)(hT:∀t∈l,t.Text.length<=30000){rec:Int->an->Option (aa×an)}{dp:Int}{d:Nat}(hdp:dp≠0)(hr:sy l rec (Go.IntKind.wrap .i64 (dp-1)) (d5 l d))
 {k:Nat} (hk:k<l.length):Out l (d5 l (d+1) k) (M.sB rec dp (sp l k false)) fun v k' b'=>(v,sp l k' b'):=by
 have el:∀k b,an.list (sp l k b)=l:=fun _ _=>rfl
 have ea:∀k b,an.at_ (sp l k b)=(k:Int):=fun _ _=>rfl
 have eb:∀k b,an.bad (sp l k b)=b:=fun _ _=>rfl
 have ep:∀(k:Nat) b,an.mk l (k:Int) b=sp l k b:=fun _ _=>rfl
 have hn:=vB hL hT hk false;have e0:(dp==(0:Int))=false:=cN.2 hdp;unfold M.sB;rw[el,ea,eb,e0,me,ep,d5,hn];unfold f9;cases hnm:ie l k
 ·refine⟨hk,aa.mk (dD []) [] [] [],?_⟩;simp only[Bool.and_false,ar,aw,ay,eb,A0,au,af]
 ·have hk1:=vD hL hk hnm;simp only[bp,au,af,aw,ay,A0,PR.bind,eb,ar];generalize hw:(bE l k).Text=w;have hbd:=Gt w;by_cases h0:dD w=0
  ·rw[h0];exact⟨hk1,rfl⟩
  ·rw[show(dD w==0)=false from cN.2 h0];simp only[ar];generalize dD w=K at*;by_cases hA:K=12\/K=13\/K=22\/K=23
   ·have c1:(bif K==12 then K==12 else bif K==13 then K==13 else bif K==22 then K==22 else K==23)=true:=by
     rcases hA with q|q|q|q<;>rw[q]<;>rfl
    have c2:((K==12)||((K==13)||((K==22)||(K==23))))=true:=by
     rcases hA with q|q|q|q<;>rw[q]<;>rfl
    rw[c1,c2];simp only[af,fQ hL hk1 [60] false,ay,aw,bp,bc,bP,au];unfold bV;cases h60:aB l [60] (k+1)
    ·simp only[ar];obtain⟨h1,v,h2⟩:=hr (k+1) true hk1;refine⟨hk1,aa.mk K [] [] [v],?_⟩;simp only[h2,fQ hL hk1 [62] true,ay,aw,bQ,cD,ar,bP,bc,au,af,aa.bq]
    ·have hk2:=cC hL hk1 h60;simp only[af];have bL:=hr (k+1+1) false hk2;rw[show RB false (k+1+1) (d5 l d (k+1+1))=d5 l d (k+1+1)from rfl]at bL;cases hg:d5 l d (k+1+1)with
     |no k'=>
      rw[hg]at bL;obtain⟨h1,v,h2⟩:=bL;refine⟨h1,aa.mk K [] [] [v],?_⟩;simp only[h2,fQ hL h1 [62] true,ay,aw,bQ,cD,ar,bP,bc,au,af,aa.bq]
     |ok v k'=>
      rw[hg]at bL;obtain⟨h1,h2⟩:=bL;simp only[h2,fQ hL h1 [62] false,ay,aw,bp,bc,bP,au,af,aa.bq];cases eA:aB l [62] k'
      ·exact⟨h1,aa.mk K [] [] [v],rfl⟩
      ·exact⟨cC hL h1 eA,rfl⟩
   ·have e1:(K==12)=false:=by rw[cN];omega
    have e2:(K==13)=false:=by rw[cN];omega
    have e3:(K==22)=false:=by rw[cN];omega
    have e4:(K==23)=false:=by rw[cN];omega
    simp only[e1,e2,e3,e4,ar,me];by_cases h15:K=15
    ·rw[h15];have n14:((15:Int)==14)=false:=rfl;simp only[n14,cF,ar,af,fQ hL hk1 [60] false,ay,aw,bp,bc,bP,au];unfold bV;cases h60:aB l [60] (k+1)
     ·obtain⟨n,hn⟩:∃n,ai=n+1:=⟨ai-1,by have:=bB;omega⟩;refine⟨hk1,aa.mk 15 [] [] [],?_⟩;simp only[ar];rw[hn,M.pf];rfl
     ·have hk2:=cC hL hk1 h60;simp only[af];have e:=Zz hL hr 0 [] 15 [] [] [] [] ai 5 [] (k+1+1) (by have:=bB;omega) hk2 rfl;rw[x9 l _ [62] (by decide)]at e;unfold bV at e;cases hg:dN l (d5 l d) 5 [] (k+1+1)with
      |no k'=>
       rw[hg]at e;obtain⟨h1,v,h2⟩:=e;refine⟨h1,aa.mk 15 [] [] v,?_⟩;simp only[h2];rfl
      |ok v k'=>
       rw[hg]at e;simp only[PR.bind]at e⊢;cases eA:aB l [62] k'
       ·rw[eA]at e;obtain⟨h1,v,h2⟩:=e;refine⟨h1,aa.mk 15 [] [] v,?_⟩;simp only[h2];rfl
       ·rw[eA]at e;obtain⟨h1,h2⟩:=e;refine⟨h1,?_⟩;simp only[h2];rfl
    ·have e15:(K==15)=false:=cN.2 h15;simp only[e15,ar];by_cases x8:K=14
     ·rw[x8];have m20:((14:Int)==20)=false:=rfl;have m21:((14:Int)==21)=false:=rfl;simp only[m20,m21,cF,af,ar,me];have bL:=ZA hL hr hk1;cases hg:pd l (d5 l d) (k+1)with
      |no k'=>
       rw[hg]at bL;obtain⟨h1,v,h2⟩:=bL;refine⟨h1,aa.mk 14 [] [] v,?_⟩;simp only[h2,ay,aw,bP,bc,au,af]
      |ok v k'=>
       rw[hg]at bL;obtain⟨h1,h2⟩:=bL;refine⟨h1,?_⟩;simp only[h2,ay,aw,bP,bc,au,af]
     ·have e14:(K==14)=false:=cN.2 x8;simp only[e14,ar];by_cases hB:K=20\/K=21
      ·have c1:(bif K==20 then K==20 else K==21)=true:=by rcases hB with q|q<;>rw[q]<;>rfl
       have c2:((K==20)||(K==21))=true:=by rcases hB with q|q<;>rw[q]<;>rfl
       rw[c1,c2];simp only[af,fQ hL hk1 [60] false,ay,aw,bp,bc,bP,au];unfold bV ly;cases h60:aB l [60] (k+1)
       ·refine⟨hk1,aa.mk K [] [] [],?_⟩;simp only[ar,Gv hL hT hk1 true,fQ hL hk1 [62] true,ay,aw,bQ,cD,bP,bc,au,af]
       ·have hk2:=cC hL hk1 h60;simp only[af,Gv hL hT hk2 false,ay,aw,bp,bc,bP,au];cases hid:lQ l (k+1+1)
        ·refine⟨hk2,aa.mk K [] [] [],?_⟩;simp only[ar,fQ hL hk2 [62] true,ay,aw,bQ,cD,bP,bc,au,af]
        ·have hk3:=A5 hL hk2 hid;simp only[af,fQ hL hk3 [62] false,ay,aw,bp,bc,bP,au];cases eA:aB l [62] (k+1+1+1)
         ·exact⟨hk3,aa.mk K (bE l (k+1+1)).Text [] [],rfl⟩
         ·exact⟨cC hL hk3 eA,rfl⟩
      ·have f1:(K==20)=false:=by rw[cN];omega
       have f2:(K==21)=false:=by rw[cN];omega
       simp only[f1,f2,ar,me];by_cases hC:K=16\/K=17\/K=18\/K=19
       ·have c1:(bif K==16 then K==16 else bif K==17 then K==17 else bif K==18 then K==18 else K==19)=true:=by
         rcases hC with q|q|q|q<;>rw[q]<;>rfl
        have c2:((K==16)||((K==17)||((K==18)||(K==19))))=true:=by
         rcases hC with q|q|q|q<;>rw[q]<;>rfl
        rw[c1,c2];simp only[af];have e:=ZD hL hT (K:=K) hr hk1;have fin:∀(r:PR (List (List UInt8×List aa))),Out l r (M.lS rec dp (sp l (k+1) false) K [] [] []) (fun vs k' b'=>(sp l k' b',K,[],vs.map (·.1),(vs.map (·.2)).flatten))->
         Out l (r.bind fun ps k4=>PR.ok (aa.mk K [] (ps.map (·.1)) (ps.map (·.2)).flatten) k4) (bif(Option.isSome (M.lS rec dp (sp l (k+1) false) K [] [] []))then some (aa.mk (Option.getD (M.lS rec dp (sp l (k+1) false) K [] [] []) Inhabited.default).2.1 (Option.getD (M.lS rec dp (sp l (k+1) false) K [] [] []) Inhabited.default).2.2.1 (Option.getD (M.lS rec dp (sp l (k+1) false) K [] [] []) Inhabited.default).2.2.2.1 (Option.getD (M.lS rec dp (sp l (k+1) false) K [] [] []) Inhabited.default).2.2.2.2,(Option.getD (M.lS rec dp (sp l (k+1) false) K [] [] []) Inhabited.default).1)else none) fun v k' b'=>(v,sp l k' b'):=by
         intro r hr;cases r with
         |no k'=>
          obtain⟨h1,v,h2⟩:=hr;refine⟨h1,aa.mk K [] (v.map (·.1)) (v.map (·.2)).flatten,?_⟩;rw[h2];rfl
         |ok v k'=>
          obtain⟨h1,h2⟩:=hr;refine⟨h1,?_⟩;rw[h2];rfl
        have:=fin _ e;simp only[bP,bc,cO,au];unfold bV at this⊢;cases A6:aB l [123] (k+1)
        ·rw[A6]at this;exact this
        ·rw[A6]at this;simp only[af,PR.bind]at this⊢;cases hg:dN l (ga l K (d5 l d)) 15 [] (k+1+1)with
         |no k'=>rw[hg]at this;exact this
         |ok v k'=>
          rw[hg]at this;simp only at this⊢;cases eA:aB l [125] k'
          ·rw[eA]at this;exact this
          ·rw[eA]at this;exact this
       ·have g1:(K==16)=false:=by rw[cN];omega
        have g2:(K==17)=false:=by rw[cN];omega
        have g3:(K==18)=false:=by rw[cN];omega
        have g4:(K==19)=false:=by rw[cN];omega
        rw[g1,g2,g3,g4];refine⟨hk1,?_⟩;simp only[ar,me,bP,bc,au,af]
theorem Md{l:List ae}(hL:bI l)(hT:∀t∈l,t.Text.length<=30000):∀(n d:Nat),d<n->d<=4->sy l (M.qD n) (d:Int) (d5 l d)
 |0,d,h,_=>by omega
 |n+1,d,h,h4=>fun k b hk=>by
  show Out l _ (M.sB (M.qD n) (d:Int) (sp l k b)) _
  cases b with
  |true=>
   obtain⟨v,e⟩:=Mc (M.qD n) hL hT (d:Int) hk true (Or.inl rfl);exact⟨hk,v,e⟩
  |false=>
   cases d with
   |zero=>
    obtain⟨v,e⟩:=Mc (M.qD n) hL hT 0 hk false (Or.inr rfl);exact⟨hk,v,e⟩
   |succ d=>
    have hw:Go.IntKind.wrap .i64 (((d+1:Nat):Int)-1)=(d:Int):=by rw[wrap_i64 (by omega) (by omega)];omega
    have hr:=Md hL hT n d (by omega) (by omega);rw[<-hw]at hr;exact ZE hL hT (by omega) hr hk
end M
namespace M
open Go.V (inB bT ai bB)
def At{α:Type}(r:PR α)(v:α)(k:Nat)(b:Bool):Prop:=(r=.ok v k/\b=false)\/(r=.no k/\b=true)
theorem Out.at{α β:Type}{l:List ae}{r:PR α}{o:Option β}{F:α->Nat->Bool->β}(h:Out l r o F):∃v k b,k<l.length/\At r v k b/\o=some (F v k b):=by
 cases r with
 |ok v k=>exact⟨v,k,false,h.1,Or.inl ⟨rfl,rfl⟩,h.2⟩
 |no k=>obtain⟨h1,v,h2⟩:=h;exact⟨v,k,true,h1,Or.inr ⟨rfl,rfl⟩,h2⟩
theorem At.out{α β:Type}{l:List ae}{r:PR α}{o:Option β}{F:α->Nat->Bool->β}{v:α}{k:Nat}{b:Bool}(hk:k<l.length)(h:At r v k b)(ho:o=some (F v k b)):Out l r o F:=by
 rcases h with⟨e1,e2⟩|⟨e1,e2⟩
 ·rw[e1];rw[e2]at ho;exact⟨hk,ho⟩
 ·rw[e1];rw[e2]at ho;exact⟨hk,v,ho⟩
theorem sC{α β:Type}(b:Bool)(k:Nat)(r:PR α)(f:α->Nat->PR β):RB b k (r.bind f)=(RB b k r).bind f:=by cases b<;>rfl
theorem At.bind{α β:Type}{r:PR α}{f:α->Nat->PR β}{v:α}{w:β}{k1 k2:Nat}{b1 b2:Bool}(h:At r v k1 b1)(h2:At (RB b1 k1 (f v k1)) w k2 b2):At (r.bind f) w k2 b2:=by
 rcases h with⟨e1,e2⟩|⟨e1,e2⟩
 ·rw[e1];rw[e2]at h2;exact h2
 ·rw[e1];rw[e2]at h2;exact h2
theorem At.bo{α β:Type}{r:PR α}{f:α->Nat->PR β}{v:α}{w:β}{k k1 k2:Nat}{b b1 b2:Bool}(h:At (RB b k r) v k1 b1)(h2:At (RB b1 k1 (f v k1)) w k2 b2):At (RB b k (r.bind f)) w k2 b2:=by
 rw[sC];exact h.bind h2
theorem At.ret{α:Type}(v:α)(k:Nat)(b:Bool):At (RB b k (PR.ok v k)) v k b:=by
 cases b
 ·exact Or.inl ⟨rfl,rfl⟩
 ·exact Or.inr ⟨rfl,rfl⟩
theorem At.no{α:Type}(v:α)(k:Nat)(r:PR α):At (RB true k r) v k true:=Or.inr ⟨rfl,rfl⟩
theorem kM{α:Type}{l:List ae}{t:List UInt8}{k:Nat}{b:Bool}(h:(!b&&aB l t k)=true)(x y:PR α):RB b k (bif aB l t k then x else y)=x:=by
 rw[bz,fK]at h;rw[h.1,h.2];rfl
theorem lT{α:Type}{l:List ae}{t:List UInt8}{k:Nat}{b:Bool}(h:(!b&&aB l t k)=false)(x y:PR α):RB b k (bif aB l t k then x else y)=RB b k y:=by
 cases b
 ·have:aB l t k=false:=by simpa using h
  rw[this];rfl
 ·rfl
theorem lU{l:List ae}(hL:bI l){t:List UInt8}{k:Nat}{b:Bool}(hk:k<l.length)(h:(!b&&aB l t k)=true):k+1<l.length/\b=false:=by
 rw[bz,fK]at h;exact⟨cC hL hk h.2,h.1⟩
theorem kN(l:List ae)(k:Nat)(b:Bool):ad.mk l (k:Int) b=ip l k b:=rfl
theorem kb(l:List ae)(k:Nat)(b:Bool):ad.list (ip l k b)=l:=rfl
theorem jl(l:List ae)(k:Nat)(b:Bool):ad.at_ (ip l k b)=(k:Int):=rfl
theorem gd(l:List ae)(k:Nat)(b:Bool):ad.bad (ip l k b)=b:=rfl
theorem jJ(l:List ae)(k:Nat)(b:Bool):an.mk l (k:Int) b=sp l k b:=rfl
theorem ir(l:List ae)(k:Nat)(b:Bool):an.list (sp l k b)=l:=rfl
theorem iu(l:List ae)(k:Nat)(b:Bool):an.at_ (sp l k b)=(k:Int):=rfl
theorem gv(l:List ae)(k:Nat)(b:Bool):an.bad (sp l k b)=b:=rfl
theorem iT{l:List ae}(hL:bI l){k:Nat}(hk:k<l.length){t:List UInt8}(hn:qz t)(b:Bool):∃k' b',k'<l.length/\At (RB b k (bV l t k)) () k' b'/\M.bF t (ip l k b)=some (ip l k' b'):=by
 rw[eG hL hk hn b];unfold bV;cases h:(!b&&aB l t k)
 ·refine⟨k,true,hk,?_,rfl⟩;rw[lT h];exact Or.inr ⟨by cases b<;>rfl,rfl⟩
 ·obtain⟨h1,h2⟩:=lU hL hk h;refine⟨k+1,b,h1,?_,rfl⟩;rw[kM h,h2];exact Or.inl ⟨rfl,rfl⟩
theorem jK{l:List ae}(hL:bI l){k:Nat}(hk:k<l.length)(t:List UInt8)(b:Bool):∃k' b',k'<l.length/\At (RB b k (bV l t k)) () k' b'/\M.dt t (sp l k b)=some (sp l k' b'):=by
 rw[fQ hL hk t b];unfold bV;cases h:(!b&&aB l t k)
 ·refine⟨k,true,hk,?_,rfl⟩;rw[lT h];exact Or.inr ⟨by cases b<;>rfl,rfl⟩
 ·obtain⟨h1,h2⟩:=lU hL hk h;refine⟨k+1,b,h1,?_,rfl⟩;rw[kM h,h2];exact Or.inl ⟨rfl,rfl⟩
theorem vE{l:List ae}{k:Nat}(hk:k<l.length){c:Bool}(hc:c=true->k+1<l.length)(w:List UInt8)(b:Bool){β:Type}(st:Nat->Bool->β):
 ∃v k' b',k'<l.length/\At (RB b k (bif c then PR.ok w (k+1)else PR.no k)) v k' b'/\(some (bif !b&&c then(w,st (k+1) b)else([],st k true)):Option (List UInt8×β))=some (v,st k' b')/\(b'=true->v=[]):=by
 cases b with
 |true=>exact⟨[],k,true,hk,Or.inr ⟨rfl,rfl⟩,rfl,fun _=>rfl⟩
 |false=>cases c with
  |true=>exact⟨w,k+1,false,hc rfl,Or.inl ⟨rfl,rfl⟩,rfl,fun h=>by cases h⟩
  |false=>exact⟨[],k,true,hk,Or.inr ⟨rfl,rfl⟩,rfl,fun _=>rfl⟩
theorem Me{l:List ae}(hL:bI l){k:Nat}(hk:k<l.length)(h:nw l k=true):k+1<l.length:=by
 unfold nw at h;rw[bz,dU]at h;refine hL.next hk ?_;have:=h.1;unfold bE at this;rw[this];decide
theorem sD{l:List ae}(hL:bI l)(hT:∀t∈l,t.Text.length<=30000){k:Nat}(hk:k<l.length)(b:Bool):∃v k' b',k'<l.length/\At (RB b k (f9 l k)) v k' b'/\M.ek (ip l k b)=some (v,ip l k' b')/\(b'=true->v=[]):=by
 rw[AZ hL hT hk b];exact vE hk (vD hL hk) _ b fun k b=>ip l k b
theorem sE{l:List ae}(hL:bI l)(hT:∀t∈l,t.Text.length<=30000){k:Nat}(hk:k<l.length)(b:Bool):∃v k' b',k'<l.length/\At (RB b k (f9 l k)) v k' b'/\M.fk (sp l k b)=some (v,sp l k' b')/\(b'=true->v=[]):=by
 rw[vB hL hT hk b];exact vE hk (vD hL hk) _ b fun k b=>sp l k b
theorem A7{l:List ae}(hL:bI l)(hT:∀t∈l,t.Text.length<=30000){k:Nat}(hk:k<l.length)(b:Bool):∃v k' b',k'<l.length/\At (RB b k (ly l k)) v k' b'/\M.ja (ip l k b)=some (v,ip l k' b')/\(b'=true->v=[]):=by
 rw[Gu hL hT hk b];exact vE hk (A5 hL hk) _ b fun k b=>ip l k b
theorem A8{l:List ae}(hL:bI l)(hT:∀t∈l,t.Text.length<=30000){k:Nat}(hk:k<l.length)(b:Bool):∃v k' b',k'<l.length/\At (RB b k (ly l k)) v k' b'/\M.lR (sp l k b)=some (v,sp l k' b')/\(b'=true->v=[]):=by
 rw[Gv hL hT hk b];exact vE hk (A5 hL hk) _ b fun k b=>sp l k b
theorem MA{l:List ae}(hL:bI l)(hT:∀t∈l,t.Text.length<=30000){k:Nat}(hk:k<l.length)(b:Bool):∃v k' b',k'<l.length/\At (RB b k (vC l k)) v k' b'/\M.nX (ip l k b)=some (v,ip l k' b')/\(b'=true->v=[]):=by
 rw[Zl hL hT hk b];exact vE hk (Me hL hk) _ b fun k b=>ip l k b
theorem MB{l:List ae}(hL:bI l){k:Nat}(hk:k<l.length)(b:Bool):∃v k' b',k'<l.length/\At (RB b k (vC l k)) v k' b'/\M.qC (sp l k b)=some (v,sp l k' b')/\(b'=true->v=[]):=by
 rw[Zn hL hk b];exact vE hk (Me hL hk) _ b fun k b=>sp l k b
theorem A9{l:List ae}(hL:bI l)(hT:∀t∈l,t.Text.length<=30000){k:Nat}(hk:k<l.length)(b:Bool):∃v k' b',k'<l.length/\At (RB b k (d5 l 4 k)) v k' b'/\M.uj 1 (ip l k b)=some (v,ip l k' b'):=
 (L8 hL hT ai 4 1 (by have:=bB;omega) (by omega) (by omega) k b hk).at
theorem Gx{l:List ae}(hL:bI l)(hT:∀t∈l,t.Text.length<=30000){k:Nat}(hk:k<l.length)(b:Bool):∃v k' b',k'<l.length/\At (RB b k (d5 l 4 k)) v k' b'/\M.qE 4 (sp l k b)=some (v,sp l k' b'):=
 (Md hL hT ai 4 (by have:=bB;omega) (by omega) k b hk).at
def nB(l:List ae)(k:Nat):PR bh:=(f9 l k).bind fun a k1=>
 bif aB l [47] k1 then(f9 l (k1+1)).bind fun b k2=>
  bif aB l [64] k2 then(vC l (k2+1)).bind fun v k3=>.ok (bh.mk a b v) k3 else .ok (bh.mk a b []) k2
 else .ok (bh.mk [] a []) k1
theorem Gy{l:List ae}(hL:bI l)(hT:∀t∈l,t.Text.length<=30000){k:Nat}(hk:k<l.length)(b:Bool):∃v k' b',k'<l.length/\At (RB b k (nB l k)) v k' b'/\M.jc (ip l k b)=some (v,ip l k' b'):=by
 obtain⟨v1,k1,b1,h1,a1,e1,-⟩:=sD hL hT hk b;unfold M.jc nB;simp only[e1,ic hL h1 (cz 47 (by decide)) b1,aw,ay,au];cases h47:(!b1&&aB l [47] k1)
 ·refine⟨bh.mk [] v1 [],k1,b1,h1,a1.bo ?_,rfl⟩;rw[lT h47];exact At.ret _ _ _
 ·obtain⟨h2,hb⟩:=lU hL h1 h47;subst hb;obtain⟨v3,k3,b3,h3,a3,e3,-⟩:=sD hL hT h2 false;simp only[af,e3,ic hL h3 (cz 64 (by decide)) b3,aw,ay,au];cases h64:(!b3&&aB l [64] k3)
  ·refine⟨bh.mk v1 v3 [],k3,b3,h3,a1.bo ?_,rfl⟩;rw[kM h47];refine At.bind a3 ?_;rw[lT h64];exact At.ret _ _ _
  ·obtain⟨h4,hb⟩:=lU hL h3 h64;subst hb;obtain⟨v5,k5,b5,h5,a5,e5,-⟩:=MA hL hT h4 false;refine⟨bh.mk v1 v3 v5,k5,b5,h5,a1.bo ?_,?_⟩
   ·rw[kM h47];refine At.bind a3 ?_;rw[kM h64];exact At.bind a5 (At.ret _ _ _)
   ·simp only[af,e5,aw,ay,au]
theorem Gz{l:List ae}(hL:bI l)(hT:∀t∈l,t.Text.length<=30000){k:Nat}(hk:k<l.length)(b:Bool):∃v k' b',k'<l.length/\At (RB b k (nB l k)) v k' b'/\M.kO (sp l k b)=some (v,sp l k' b'):=by
 obtain⟨v1,k1,b1,h1,a1,e1,-⟩:=sE hL hT hk b;unfold M.kO nB;simp only[e1,eM hL h1 [47] b1,aw,ay,au];cases h47:(!b1&&aB l [47] k1)
 ·refine⟨bh.mk [] v1 [],k1,b1,h1,a1.bo ?_,rfl⟩;rw[lT h47];exact At.ret _ _ _
 ·obtain⟨h2,hb⟩:=lU hL h1 h47;subst hb;obtain⟨v3,k3,b3,h3,a3,e3,-⟩:=sE hL hT h2 false;simp only[af,e3,eM hL h3 [64] b3,aw,ay,au];cases h64:(!b3&&aB l [64] k3)
  ·refine⟨bh.mk v1 v3 [],k3,b3,h3,a1.bo ?_,rfl⟩;rw[kM h47];refine At.bind a3 ?_;rw[lT h64];exact At.ret _ _ _
  ·obtain⟨h4,hb⟩:=lU hL h3 h64;subst hb;obtain⟨v5,k5,b5,h5,a5,e5,-⟩:=MB hL h4 false;refine⟨bh.mk v1 v3 v5,k5,b5,h5,a1.bo ?_,?_⟩
   ·rw[kM h47];refine At.bind a3 ?_;rw[kM h64];exact At.bind a5 (At.ret _ _ _)
   ·simp only[af,e5,aw,ay,au]
end M
namespace M
open Go.V (inB bT ai bB)
def kP(l:List ae)(k:Nat):PR aA:=(f9 l k).bind fun w k1=>(bV l [58] k1).bind fun _ k2=>(d5 l 4 k2).bind fun t k3=>.ok (aA.mk w t) k3
def ke(l:List ae)(k:Nat):PR aH:=(ly l k).bind fun a k1=>
 bif aB l [97,115] k1 then(ly l (k1+1)).bind fun b k2=>.ok (aH.mk a b) k2 else .ok (aH.mk a []) k1
theorem ZF:qz [97,115]:=fun d r e=>by cases e;decide
theorem ZG{l:List ae}(hL:bI l)(hT:∀t∈l,t.Text.length<=30000)(t1:Int)(t12:List UInt8)(t13:Int)(t14:List UInt8)(t15:Bool)(t16 t17 t18:List UInt8)(o3:List (List UInt8))(o4:List aa)(o5:List aA)(o6:List aH)
 (h5:o5.length<=1000) {k:Nat} (hk:k<l.length) (b:Bool):∃v k' b',k'<l.length/\At (RB b k (kP l k)) v k' b'/\
   M.wB t1 t12 t13 t14 t15 t16 t17 t18 l (k:Int) b o3 o4 o5 o6=some (t1,t12,t13,t14,t15,t16,t17,t18,l,(k':Int),b',o3,o4,o5++[v],o6):=by
 obtain⟨v1,k1,b1,h1,a1,e1,-⟩:=sD hL hT hk b;obtain⟨k2,b2,h2,a2,e2⟩:=iT hL h1 (cz 58 (by decide)) b1;obtain⟨v3,k3,b3,h3,a3,e3⟩:=A9 hL hT h2 b2;unfold M.wB kP;refine⟨aA.mk v1 v3,k3,b3,h3,a1.bo (a2.bo (a3.bo (At.ret _ _ _))),?_⟩;simp only[kN,e1,e2,e3,aw,ay,dy h5,au,af,kb,jl,gd,aa.bq]
theorem ZH{l:List ae}(hL:bI l)(hT:∀t∈l,t.Text.length<=30000)(t1:Int)(t12:List UInt8)(t13:Int)(t14:List UInt8)(t15:Bool)(t16 t17 t18:List UInt8)(o3:List (List UInt8))(o4:List aa)(o5:List aA)(o6:List aH)
 (h6:o6.length<=1000) {k:Nat} (hk:k<l.length) (b:Bool):∃v k' b',k'<l.length/\At (RB b k (ke l k)) v k' b'/\
   M.zB t1 t12 t13 t14 t15 t16 t17 t18 l (k:Int) b o3 o4 o5 o6=some (t1,t12,t13,t14,t15,t16,t17,t18,l,(k':Int),b',o3,o4,o5,o6++[v]):=by
 obtain⟨v1,k1,b1,h1,a1,e1,-⟩:=A7 hL hT hk b;unfold M.zB ke;simp only[kN,e1,ic hL h1 ZF b1,aw,ay,au];cases h47:(!b1&&aB l [97,115] k1)
 ·refine⟨aH.mk v1 [],k1,b1,h1,a1.bo ?_,?_⟩
  ·rw[lT h47];exact At.ret _ _ _
  ·simp only[ar,dy h6,au,af,kb,jl,gd]
 ·obtain⟨h2,hb⟩:=lU hL h1 h47;subst hb;obtain⟨v3,k3,b3,h3,a3,e3,-⟩:=A7 hL hT h2 false;refine⟨aH.mk v1 v3,k3,b3,h3,a1.bo ?_,?_⟩
  ·rw[kM h47];exact At.bind a3 (At.ret _ _ _)
  ·simp only[af,e3,aw,ay,dy h6,au,kb,jl,gd]
theorem ZI{l:List ae}(hL:bI l)(hT:∀t∈l,t.Text.length<=30000)(o2:Int)(cn:List UInt8)(cA:Int)(dh:List UInt8)(di:Bool)(dj dk dm:List UInt8)(o7:List (List UInt8))(o8:List aa)(bG:List aH):
 ∀(f m:Nat)(ks:List aA)(k:Nat),m<f->k<l.length->ks.length+(m+1)<=6->∃vs k' b',k'<l.length/\At (dN l (kP l) m ks k) vs k' b'/\
  ((M.pQ 6 f ((6:Int)-(m:Int)) (ip l k false) o2 cn cA dh di dj dk dm o7 o8 ks bG).map fun r=>match r with
  |.inl x=>x
  |.inr x=>x)=some (l,(k':Int),b',o2,cn,cA,dh,di,dj,dk,dm,o7,o8,vs,bG):=by
 intro f
 induction f with
 |zero=>intro m ks k h;omega
 |succ f ih=>
  intro m ks k hf hk hks;obtain⟨v,k1,b1,h1,a1,e1⟩:=ZG hL hT o2 cn cA dh di dj dk dm o7 o8 ks bG (by omega) hk false;rw[M.pQ,dN];simp only[gd,kb,jl,bp,af,e1,aw,ay];rcases a1 with⟨q1,q2⟩|⟨q1,q2⟩
  ·rw[show RB false k (kP l k)=kP l k from rfl]at q1;rw[q1];subst q2;cases m with
   |zero=>
    have e:(((6:Int)-((0:Nat):Int))==6)=true:=by rw[dU];omega
    refine⟨ks++[v],k1,false,h1,Or.inl ⟨rfl,rfl⟩,?_⟩;simp only[e,md,af,au,cF,gk]
   |succ m=>
    have e:(((6:Int)-((m+1:Nat):Int))==6)=false:=by rw[cN];omega
    simp only[e,kN,ic hL h1 (cz 44 (by decide)) false,ay,aw,md,ar,au,cF,bp,bc];cases hb:aB l [44] k1
    ·exact⟨ks++[v],k1,false,h1,Or.inl ⟨rfl,rfl⟩,rfl⟩
    ·have hw:Go.IntKind.wrap .i64 (((6:Int)-((m+1:Nat):Int))+1)=(6:Int)-(m:Int):=by rw[wrap_i64 (by omega) (by omega)];omega
     simp only[af,bQ,ar,hw];exact ih m (ks++[v]) (k1+1) (by omega) (cC hL h1 hb) (by rw[cq,List.length_singleton];omega)
  ·rw[show RB false k (kP l k)=kP l k from rfl]at q1;rw[q1];subst q2;refine⟨ks++[v],k1,true,h1,Or.inr ⟨rfl,rfl⟩,?_⟩;simp only[bP,af,au,cF,gk]
theorem ZJ{l:List ae}(hL:bI l)(hT:∀t∈l,t.Text.length<=30000)(o2:Int)(cn:List UInt8)(cA:Int)(dh:List UInt8)(di:Bool)(dj dk dm:List UInt8)(o7:List (List UInt8))(o8:List aa)(bG:List aH){k:Nat}(hk:k<l.length)(b:Bool):
 ∃vs k' b',k'<l.length/\At (RB b k (dN l (kP l) 5 [] k)) vs k' b'/\
  M.uk 6 (ip l k b) o2 cn cA dh di dj dk dm o7 o8 [] bG=some (ip l k' b',o2,cn,cA,dh,di,dj,dk,dm,o7,o8,vs,bG):=by
 cases b with
 |true=>
  refine⟨[],k,true,hk,At.no _ _ _,?_⟩;obtain⟨n,hn⟩:∃n,ai=n+1:=⟨ai-1,by have:=bB;omega⟩;unfold M.uk;rw[hn,M.pQ];rfl
 |false=>
  obtain⟨vs,k',b',h1,a1,e1⟩:=ZI hL hT o2 cn cA dh di dj dk dm o7 o8 bG ai 5 [] k (by have:=bB;omega) hk (by simp);refine⟨vs,k',b',h1,a1,?_⟩;unfold M.uk;rw[show(6:Int)-((5:Nat):Int)=1 from rfl]at e1;cases ho:M.pQ 6 ai 1 (ip l k false) o2 cn cA dh di dj dk dm o7 o8 [] bG with
  |none=>rw[ho]at e1;cases e1
  |some r=>
   rw[ho]at e1;cases r<;>(simp only[gk,aj]at e1;rw[e1];rfl)
theorem ZK{l:List ae}(hL:bI l)(hT:∀t∈l,t.Text.length<=30000)(o2:Int)(cn:List UInt8)(cA:Int)(dh:List UInt8)(di:Bool)(dj dk dm:List UInt8)(o7:List (List UInt8))(o8:List aa)(o9:List aA):
 ∀(f m:Nat)(ks:List aH)(k:Nat),m<f->k<l.length->ks.length+(m+1)<=16->∃vs k' b',k'<l.length/\At (dN l (ke l) m ks k) vs k' b'/\
  ((M.pR 16 f ((16:Int)-(m:Int)) (ip l k false) o2 cn cA dh di dj dk dm o7 o8 o9 ks).map fun r=>match r with
  |.inl x=>x
  |.inr x=>x)=some (l,(k':Int),b',o2,cn,cA,dh,di,dj,dk,dm,o7,o8,o9,vs):=by
 intro f
 induction f with
 |zero=>intro m ks k h;omega
 |succ f ih=>
  intro m ks k hf hk hks;obtain⟨v,k1,b1,h1,a1,e1⟩:=ZH hL hT o2 cn cA dh di dj dk dm o7 o8 o9 ks (by omega) hk false;rw[M.pR,dN];simp only[gd,kb,jl,bp,af,e1,aw,ay];rcases a1 with⟨q1,q2⟩|⟨q1,q2⟩
  ·rw[show RB false k (ke l k)=ke l k from rfl]at q1;rw[q1];subst q2;cases m with
   |zero=>
    have e:(((16:Int)-((0:Nat):Int))==16)=true:=by rw[dU];omega
    refine⟨ks++[v],k1,false,h1,Or.inl ⟨rfl,rfl⟩,?_⟩;simp only[e,md,af,au,cF,gk]
   |succ m=>
    have e:(((16:Int)-((m+1:Nat):Int))==16)=false:=by rw[cN];omega
    simp only[e,kN,ic hL h1 (cz 44 (by decide)) false,ay,aw,md,ar,au,cF,bp,bc];cases hb:aB l [44] k1
    ·exact⟨ks++[v],k1,false,h1,Or.inl ⟨rfl,rfl⟩,rfl⟩
    ·have hw:Go.IntKind.wrap .i64 (((16:Int)-((m+1:Nat):Int))+1)=(16:Int)-(m:Int):=by rw[wrap_i64 (by omega) (by omega)];omega
     simp only[af,bQ,ar,hw];exact ih m (ks++[v]) (k1+1) (by omega) (cC hL h1 hb) (by rw[cq,List.length_singleton];omega)
  ·rw[show RB false k (ke l k)=ke l k from rfl]at q1;rw[q1];subst q2;refine⟨ks++[v],k1,true,h1,Or.inr ⟨rfl,rfl⟩,?_⟩;simp only[bP,af,au,cF,gk]
theorem ZL{l:List ae}(hL:bI l)(hT:∀t∈l,t.Text.length<=30000)(o2:Int)(cn:List UInt8)(cA:Int)(dh:List UInt8)(di:Bool)(dj dk dm:List UInt8)(o7:List (List UInt8))(o8:List aa)(o9:List aA){k:Nat}(hk:k<l.length)(b:Bool):
 ∃vs k' b',k'<l.length/\At (RB b k (dN l (ke l) 15 [] k)) vs k' b'/\
  M.qY 16 (ip l k b) o2 cn cA dh di dj dk dm o7 o8 o9 []=some (ip l k' b',o2,cn,cA,dh,di,dj,dk,dm,o7,o8,o9,vs):=by
 cases b with
 |true=>
  refine⟨[],k,true,hk,At.no _ _ _,?_⟩;obtain⟨n,hn⟩:∃n,ai=n+1:=⟨ai-1,by have:=bB;omega⟩;unfold M.qY;rw[hn,M.pR];rfl
 |false=>
  obtain⟨vs,k',b',h1,a1,e1⟩:=ZK hL hT o2 cn cA dh di dj dk dm o7 o8 o9 ai 15 [] k (by have:=bB;omega) hk (by simp);refine⟨vs,k',b',h1,a1,?_⟩;unfold M.qY;rw[show(16:Int)-((15:Nat):Int)=1 from rfl]at e1;cases ho:M.pR 16 ai 1 (ip l k false) o2 cn cA dh di dj dk dm o7 o8 o9 []with
  |none=>rw[ho]at e1;cases e1
  |some r=>
   rw[ho]at e1;cases r<;>(simp only[gk,aj]at e1;rw[e1];rfl)
theorem ZM{l:List ae}(hL:bI l)(hT:∀t∈l,t.Text.length<=30000):∀(f m:Nat)(ks:List aA)(k:Nat),m+1<f->k<l.length->ks.length+(m+1)=6->
 ∃vs k' b',k'<l.length/\At (kK l (kP l) [41] m ks k) vs k' b'/\M.lV  f (sp l k false) ks=some (l,(k':Int),b',vs):=by
 intro f
 induction f with
 |zero=>intro m ks k h;omega
 |succ f ih=>
  intro m ks k hf hk hks;obtain⟨f',rfl⟩:∃f',f=f'+1:=⟨f-1,by omega⟩;have hend:∀(k:Nat)(xs:List aA),M.lV  (f'+1) (sp l k true) xs=some (l,(k:Int),true,xs):=fun k xs=>by
   rw[M.lV];rfl
  have fin:∀(v:aA)(k1:Nat)(b1:Bool),k1<l.length->At (kP l k) v k1 b1->
   M.lV  (f'+1+1) (sp l k false) ks=(bif !b1&&aB l [41] k1 then some (l,((k1+1:Nat):Int),b1,ks++[v])
     else M.lV  (f'+1) (bif decide ((6:Int)<=(((ks++[v]).length:Nat):Int))then sp l k1 true else bif !b1&&aB l [44] k1 then sp l (k1+1) b1 else sp l k1 true) (ks++[v]))->
   ∃vs k' b',k'<l.length/\At (kK l (kP l) [41] m ks k) vs k' b'/\M.lV  (f'+1+1) (sp l k false) ks=some (l,(k':Int),b',vs):=by
   intro v k1 b1 h1 a1 e1;rw[e1,kK];rcases a1 with⟨q1,q2⟩|⟨q1,q2⟩
   ·rw[q1];subst q2;simp only[bp,bc];cases hc:aB l [41] k1
    ·simp only[ar];have hlen:(((ks++[v]).length:Nat):Int)=(6:Int)-(m:Int):=by rw[cq,List.length_singleton];omega
     cases m with
     |zero=>
      rw[eX (show(6:Int)<=(((ks++[v]).length:Nat):Int) by omega)];exact⟨ks++[v],k1,true,h1,Or.inr ⟨rfl,rfl⟩,hend k1 _⟩
     |succ m=>
      rw[fL (show ¬(6:Int)<=(((ks++[v]).length:Nat):Int) by omega)];simp only[ar];cases iS:aB l [44] k1
      ·exact⟨ks++[v],k1,true,h1,Or.inr ⟨rfl,rfl⟩,hend k1 _⟩
      ·exact ih m (ks++[v]) (k1+1) (by omega) (cC hL h1 iS) (by rw[cq,List.length_singleton];omega)
    ·exact⟨ks++[v],k1+1,false,cC hL h1 hc,Or.inl ⟨rfl,rfl⟩,rfl⟩
   ·rw[q1];subst q2;refine⟨ks++[v],k1,true,h1,Or.inr ⟨rfl,rfl⟩,?_⟩;simp only[bQ,cD,ar];cases decide ((6:Int)<=(((ks++[v]).length:Nat):Int))<;>exact hend k1 _
  obtain⟨v1,k1,b1,h1,a1,e1,-⟩:=sE hL hT hk false;obtain⟨k2,b2,h2,a2,e2⟩:=jK hL h1 [58] b1;obtain⟨v3,k3,b3,h3,a3,e3⟩:=Gx hL hT h2 b2;refine fin (aA.mk v1 v3) k3 b3 h3 (At.bind (r:=f9 l k) a1 (a2.bo (a3.bo (At.ret _ _ _)))) ?_;rw[M.lV];simp only[gv,bp,af,e1,e2,e3,eM hL h3 [41] b3,aw,ay,dy (show ks.length<=1000 by omega),au,bc,aa.bq];cases hc:(!b3&&aB l [41] k3)
  ·simp only[ar,kL hL h3,aw,ay,au,af]
  ·simp only[af,ir,iu,gv]
theorem ZN{l:List ae}(hL:bI l)(hT:∀t∈l,t.Text.length<=30000)(P N V:List UInt8):∀(f m:Nat)(ks:List aH)(k:Nat),m+1<f->k<l.length->ks.length+(m+1)=16->
 ∃vs k' b',k'<l.length/\At (kK l (ke l) [125] m ks k) vs k' b'/\M.kQ 0 [] 0 [] false [] [] [] 4 [] 0 [] false P N V [] [] [] [] [] [] [] f (sp l k false) ks=some (l,(k':Int),b',0,[],0,[],false,[],[],[],4,[],0,[],false,P,N,V,[],[],[],[],[],[],[],vs):=by
 intro f
 induction f with
 |zero=>intro m ks k h;omega
 |succ f ih=>
  intro m ks k hf hk hks;obtain⟨f',rfl⟩:∃f',f=f'+1:=⟨f-1,by omega⟩;have hend:∀(k:Nat)(xs:List aH),M.kQ 0 [] 0 [] false [] [] [] 4 [] 0 [] false P N V [] [] [] [] [] [] [] (f'+1) (sp l k true) xs=some (l,(k:Int),true,0,[],0,[],false,[],[],[],4,[],0,[],false,P,N,V,[],[],[],[],[],[],[],xs):=fun k xs=>by
   rw[M.kQ];rfl
  have fin:∀(v:aH)(k1:Nat)(b1:Bool),k1<l.length->At (ke l k) v k1 b1->
   M.kQ 0 [] 0 [] false [] [] [] 4 [] 0 [] false P N V [] [] [] [] [] [] [] (f'+1+1) (sp l k false) ks=(bif !b1&&aB l [125] k1 then some (l,((k1+1:Nat):Int),b1,0,[],0,[],false,[],[],[],4,[],0,[],false,P,N,V,[],[],[],[],[],[],[],ks++[v])
     else M.kQ 0 [] 0 [] false [] [] [] 4 [] 0 [] false P N V [] [] [] [] [] [] [] (f'+1) (bif decide ((16:Int)<=(((ks++[v]).length:Nat):Int))then sp l k1 true else bif !b1&&aB l [44] k1 then sp l (k1+1) b1 else sp l k1 true) (ks++[v]))->
   ∃vs k' b',k'<l.length/\At (kK l (ke l) [125] m ks k) vs k' b'/\M.kQ 0 [] 0 [] false [] [] [] 4 [] 0 [] false P N V [] [] [] [] [] [] [] (f'+1+1) (sp l k false) ks=some (l,(k':Int),b',0,[],0,[],false,[],[],[],4,[],0,[],false,P,N,V,[],[],[],[],[],[],[],vs):=by
   intro v k1 b1 h1 a1 e1;rw[e1,kK];rcases a1 with⟨q1,q2⟩|⟨q1,q2⟩
   ·rw[q1];subst q2;simp only[bp,bc];cases hc:aB l [125] k1
    ·simp only[ar];have hlen:(((ks++[v]).length:Nat):Int)=(16:Int)-(m:Int):=by rw[cq,List.length_singleton];omega
     cases m with
     |zero=>
      rw[eX (show(16:Int)<=(((ks++[v]).length:Nat):Int) by omega)];exact⟨ks++[v],k1,true,h1,Or.inr ⟨rfl,rfl⟩,hend k1 _⟩
     |succ m=>
      rw[fL (show ¬(16:Int)<=(((ks++[v]).length:Nat):Int) by omega)];simp only[ar];cases iS:aB l [44] k1
      ·exact⟨ks++[v],k1,true,h1,Or.inr ⟨rfl,rfl⟩,hend k1 _⟩
      ·exact ih m (ks++[v]) (k1+1) (by omega) (cC hL h1 iS) (by rw[cq,List.length_singleton];omega)
    ·exact⟨ks++[v],k1+1,false,cC hL h1 hc,Or.inl ⟨rfl,rfl⟩,rfl⟩
   ·rw[q1];subst q2;refine⟨ks++[v],k1,true,h1,Or.inr ⟨rfl,rfl⟩,?_⟩;simp only[bQ,cD,ar];cases decide ((16:Int)<=(((ks++[v]).length:Nat):Int))<;>exact hend k1 _
  obtain⟨v1,k1,b1,h1,a1,e1,-⟩:=A8 hL hT hk false;cases h47:(!b1&&aB l [97,115] k1)
  ·refine fin (aH.mk v1 []) k1 b1 h1 (At.bind (r:=ly l k) a1 ?_) ?_
   ·rw[lT h47];exact At.ret _ _ _
   ·rw[M.kQ];simp only[gv,bp,af,e1,eM hL h1 [97,115] b1,h47,ar,eM hL h1 [125] b1,aw,ay,dy (show ks.length<=1000 by omega),au,bc];cases hc:(!b1&&aB l [125] k1)
    ·simp only[ar,kL hL h1,aw,ay,au,af]
    ·simp only[af,ir,iu,gv]
  ·obtain⟨h2,hb⟩:=lU hL h1 h47;subst hb;obtain⟨v3,k3,b3,h3,a3,e3,-⟩:=A8 hL hT h2 false;refine fin (aH.mk v1 v3) k3 b3 h3 (At.bind (r:=ly l k) a1 ?_) ?_
   ·rw[kM h47];exact At.bind a3 (At.ret _ _ _)
   ·rw[M.kQ];have ht:M.dC [97,115] (sp l k1 false)=some (true,sp l (k1+1) false):=by rw[eM hL h1,h47];rfl
    simp only[gv,bp,af,e1,ht,e3,eM hL h3 [125] b3,aw,ay,dy (show ks.length<=1000 by omega),au,bc];cases hc:(!b3&&aB l [125] k3)
    ·simp only[ar,kL hL h3,aw,ay,au,af]
    ·simp only[af,ir,iu,gv]
end M
