/-
  TOKENS: white space, words and numbers, as both lexers read them.
-/
import Derived.Test.YtkljhbbnhbklnaaGreatDoorXZCM
import Derived.Test.YtkljhbbnhbklnaaGreatDoorXXplA
import Derived.Test.YtkljhbbnhbklnaaGreatDoorXXTF
set_option linter.unusedVariables false
set_option linter.unusedSimpArgs false
namespace M
open Go.V (inB bV ah bq)
def ia(c:UInt8):Bool:=decide ((97:Int)<=(c.toNat:Int))&&decide ((c.toNat:Int)<=122)
def fu(c:UInt8):Bool:=decide ((48:Int)<=(c.toNat:Int))&&decide ((c.toNat:Int)<=57)
def hd(l:List UInt8):UInt8:=l.getD 0 0
def fS:List UInt8->Nat
 |[]=>0
 |c::r=>if(c.toNat:Int)=10 then 0 else fS r+1
def cD:Bool->List UInt8->Int->Nat×Int
 |_,[],l=>(0,l)
 |true,c::r,l=>if(c.toNat:Int)=10 then((cD false r (l+1)).1+1,(cD false r (l+1)).2)else((cD true r l).1+1,(cD true r l).2)
 |false,c::r,l=>if(c.toNat:Int)=10 then((cD false r (l+1)).1+1,(cD false r (l+1)).2)else if(c.toNat:Int)=32 then((cD false r l).1+1,(cD false r l).2)
   else if(c.toNat:Int)=47/\r≠[]/\((hd r).toNat:Int)=47 then((cD true r l).1+1,(cD true r l).2)else(0,l)
theorem MF:∀(l:List UInt8)(n:Int),cD true l n=((cD false (l.drop (fS l)) n).1+fS l,(cD false (l.drop (fS l)) n).2)
 |[],n=>rfl
 |c::r,n=>by
  unfold cD fS;by_cases h:(c.toNat:Int)=10
  ·rw[ba h,ba h,gX];simp only[cD,ba h,Nat.add_zero]
  ·rw[aX h,aX h,List.drop_succ_cons,MF r n];simp only[kF];cases r.drop (fS r)<;>rfl
theorem qA:∀(b:Bool)(l:List UInt8)(n:Int),(cD b l n).1<=l.length/\n<=(cD b l n).2/\(cD b l n).2<=n+(l.length:Int)
 |b,[],n=>by cases b<;>simp[cD]
 |true,c::r,n=>by
  unfold cD;have h1:=qA false r (n+1);have h2:=qA true r n;split
  ·simp only[aU];omega
  ·simp only[aU];omega
 |false,c::r,n=>by
  unfold cD;have h1:=qA false r (n+1);have h2:=qA true r n;have h3:=qA false r n;split
  ·simp only[aU];omega
  ·split
   ·simp only[aU];omega
   ·split
    ·simp only[aU];omega
    ·simp only[aU];omega
theorem MG:∀l:List UInt8,fS l<=l.length
 |[]=>ct _
 |c::r=>by
  unfold fS;have:=MG r;split
  ·omega
  ·simp only[aU];omega
theorem ki{s:List UInt8}{a:Nat}(h:a<s.length):s.drop a=s[a]::s.drop (a+1):=sn h
theorem ai0(s:List UInt8)(line:Int)(hs:s.length<=30000):∀f a,s.length-a<f->a<=s.length->M.xe s line f (a:Int)=some (s,((a+fS (s.drop a):Nat):Int),line):=by
 intro f
 induction f with
 |zero=>intro a h;omega
 |succ f ih=>
  intro a h1 h2;rw[M.xe];rcases cN a s.length with h|h
  ·rw[ki h];unfold fS;simp only[bP,getD_lt h,dA,fL,h,ed,bA,bo,cT,bS h (by omega:s.length<2^62)];by_cases c:(s[a].toNat:Int)=10
   ·rw[show((s[a].toNat:Int) !=10)=false by rw[bne_eq_false_iff_eq];exact c,ba c];rfl
   ·rw[show((s[a].toNat:Int) !=10)=true by rw[yU];exact c,aX c,ad,ad,ih (a+1) (by omega) (by omega)];congr 4;omega
  ·rw[List.drop_eq_nil_of_le h];have e:decide ((a:Int)<((s.length:Nat):Int))=false:=by rw[eV];omega
   simp only[e,cG,ak,dT,al,ad,fS,Nat.add_zero,da,bM,ln,bw,jT,cA];simp
def fE(s:List UInt8)(a:Nat)(line:Int):Int×Int:=(((a+(cD false (s.drop a) line).1:Nat):Int),(cD false (s.drop a) line).2)
theorem ai1(s:List UInt8)(hs:s.length<=30000):∀(f a:Nat)(line:Int),s.length-a<f->a<=s.length->0<=line->line+(s.length-a:Nat)<=100000->
 M.qB f s (a:Int) line=some (.inl (fE s a line))\/M.qB f s (a:Int) line=some (.inr (fE s a line)):=by
 intro f
 induction f with
 |zero=>intro a l h;omega
 |succ f ih=>
  intro a line h1 h2 h3 h4;rw[M.qB];rcases cN a s.length with h|h
  ·have w1:=bS h (by omega:s.length<2^62);have w2:Go.IntKind.wrap .i64 (line+1)=line+1:=wrap_i64 (by omega) (by omega);unfold fE;rw[ki h];unfold cD;simp only[bP,getD_lt h,dA,fL,h,ed,bA,bo,cT,al,ad,w1,w2];by_cases c10:(s[a].toNat:Int)=10
   ·rw[show((s[a].toNat:Int)==10)=true from cA.2 c10,ba c10,ad];have:=ih (a+1) (line+1) (by omega) (by omega) (by omega) (by omega);unfold fE at this;rw[show a+1+(cD false (s.drop (a+1)) (line+1)).1=a+((cD false (s.drop (a+1)) (line+1)).1+1) by omega]at this;exact this
   ·rw[show((s[a].toNat:Int)==10)=false from cM.2 c10,aX c10,ak];by_cases c32:(s[a].toNat:Int)=32
    ·rw[show((s[a].toNat:Int)==32)=true from cA.2 c32,ba c32,ad];have:=ih (a+1) line (by omega) (by omega) (by omega) (by omega);unfold fE at this;rw[show a+1+(cD false (s.drop (a+1)) line).1=a+((cD false (s.drop (a+1)) line).1+1) by omega]at this;exact this
    ·rw[show((s[a].toNat:Int)==32)=false from cM.2 c32,aX c32,ak];have hcond:((((s[a].toNat:Int)==47)&&decide (a+1<s.length))&&(((s.getD (a+1) 0).toNat:Int)==47))=decide ((s[a].toNat:Int)=47/\s.drop (a+1)≠[]/\((hd (s.drop (a+1))).toNat:Int)=47):=by
      have e1:hd (s.drop (a+1))=s.getD (a+1) 0:=by
       unfold hd;rcases cN (a+1) s.length with q|q
       ·rw[ki q,getD_lt q];rfl
       ·rw[List.drop_eq_nil_of_le q];simp[List.getD,jS q]
      have e2:(s.drop (a+1)≠[])↔a+1<s.length:=by
       rw[ne_eq,List.drop_eq_nil_iff];omega
      rw[e1,mm];simp only[bB,cA,bU,e2];constructor
      ·rintro ⟨⟨x,y⟩,z⟩;exact⟨x,y,z⟩
      ·rintro ⟨x,y,z⟩;exact⟨⟨x,y⟩,z⟩
     have hin:(decide (a+1<s.length)|| !((((s[a].toNat:Int)==47)&&decide (a+1<s.length))==true))=true:=by
      by_cases q:a+1<s.length
      ·simp[q]
      ·simp[q]
     rw[hcond];by_cases qC:(s[a].toNat:Int)=47/\s.drop (a+1)≠[]/\((hd (s.drop (a+1))).toNat:Int)=47
     ·rw[db qC,ba qC,ad,ai0 s line hs ah a (by have:=bq;omega) h2];simp only[hin,ad];have hcl:=MG (s.drop a);rw[List.length_drop]at hcl;have hc1:fS (s.drop a)=fS (s.drop (a+1))+1:=by
       rw[ki h,fS,aX (by omega)]
      have:=ih (a+fS (s.drop a)) line (by omega) (by omega) h3 (by omega);have hk:fE s (a+fS (s.drop a)) line=(((a+((cD true (s.drop (a+1)) line).1+1):Nat):Int),(cD true (s.drop (a+1)) line).2):=by
       unfold fE;rw[MF,hc1,yX];rw[show a+(fS (s.drop (a+1))+1)=a+1+fS (s.drop (a+1)) by omega];congr 2;omega
      rw[hk]at this;exact this
     ·rw[cQ qC,aX qC,ak];simp only[hin,ad];exact .inl rfl
  ·unfold fE;rw[List.drop_eq_nil_of_le h,cQ (show ¬(a:Int)<((s.length:Nat):Int) by omega)];exact .inr rfl
theorem Tc(s:List UInt8)(hs:s.length<=30000)(a:Nat)(line:Int)(h2:a<=s.length)(h3:0<=line)(h4:line+(s.length-a:Nat)<=100000):M.uT s (a:Int) line=some (fE s a line):=by
 unfold M.uT;rcases ai1 s hs ah a line (by have:=bq;omega) h2 h3 h4 with e|e<;>rw[e]
end M
namespace M
open Go.V (inB bV ah bq)
theorem ai2(s:List UInt8)(line:Int)(o:List aj)(hs:s.length<=30000):∀f a,s.length-a<f->a<=s.length->M.xf s line o f (a:Int)=some (s,((a+fS (s.drop a):Nat):Int),line,o):=by
 intro f
 induction f with
 |zero=>intro a h;omega
 |succ f ih=>
  intro a h1 h2;rw[M.xf];rcases cN a s.length with h|h
  ·rw[ki h];unfold fS;simp only[bP,getD_lt h,dA,fL,h,ed,bA,bo,cT,bS h (by omega:s.length<2^62)];by_cases c:(s[a].toNat:Int)=10
   ·rw[show((s[a].toNat:Int) !=10)=false by rw[bne_eq_false_iff_eq];exact c,ba c];rfl
   ·rw[show((s[a].toNat:Int) !=10)=true by rw[yU];exact c,aX c,ad,ad,ih (a+1) (by omega) (by omega)];congr 4;omega
  ·rw[List.drop_eq_nil_of_le h];have e:decide ((a:Int)<((s.length:Nat):Int))=false:=by rw[eV];omega
   simp only[e,cG,ak,dT,al,ad,fS,Nat.add_zero,da,bM,ln,bw,jT,cA];simp
theorem pre2(s:List UInt8)(hs:s.length<=30000)(a:Nat)(x y:UInt8)(h:a<s.length):
 M.strings_HasPrefix (List.drop a (List.take s.length s)) [x,y]=some (decide (s[a]=x/\s.drop (a+1)≠[]/\hd (s.drop (a+1))=y)):=by
 have e0:List.drop a (List.take s.length s)=s[a]::s.drop (a+1):=by
  rw[DI,ki h]
 rw[e0];unfold M.strings_HasPrefix M.EV;generalize s[a]=c;cases hd0:s.drop (a+1)with
 |nil=>simp[bV]
 |cons d r=>
  have e1:decide ((([x,y].length:Nat):Int)<=(((c::d::r).length:Nat):Int))=true:=by rw[bU];simp only[aU,bf];omega
  have e2:bV 0 (([x,y].length:Nat):Int) (c::d::r).length=true:=by
   unfold bV;simp only[bB,bU];simp only[aU,bf];omega
  simp only[e1,e2,bo,al,ad,bA,aw,av];congr 1;rw[mm,cA,bU];show[c,d]=[x,y]↔_
  simp[hd]
theorem toNat_eq{a b:UInt8}:(a.toNat:Int)=(b.toNat:Int)↔a=b:=by
 rw[Int.ofNat_inj];exact UInt8.toNat_inj
theorem ai3(s:List UInt8)(o:List aj)(hs:s.length<=30000):∀(f a:Nat)(line:Int),s.length-a<f->a<=s.length->0<=line->line+(s.length-a:Nat)<=100000->
 M.qD f s (a:Int) line o=some (.inl (s,(fE s a line).1,(fE s a line).2,o))\/M.qD f s (a:Int) line o=some (.inr (s,(fE s a line).1,(fE s a line).2,o)):=by
 intro f
 induction f with
 |zero=>intro a l h;omega
 |succ f ih=>
  intro a line h1 h2 h3 h4;rw[M.qD];rcases cN a s.length with h|h
  ·have w1:=bS h (by omega:s.length<2^62);have w2:Go.IntKind.wrap .i64 (line+1)=line+1:=wrap_i64 (by omega) (by omega);have hp:=pre2 s hs a 47 47 h;have hsl:bV (a:Int) ((s.length:Nat):Int) s.length=true:=by unfold bV;simp only[bB,bU];omega
   unfold fE;rw[ki h];unfold cD;simp only[hp,hsl,bP,getD_lt h,dA,fL,h,ed,bA,bo,cT,al,ad,w1,w2,av,aw];by_cases c10:(s[a].toNat:Int)=10
   ·rw[show((s[a].toNat:Int)==10)=true from cA.2 c10,ba c10,ad];have:=ih (a+1) (line+1) (by omega) (by omega) (by omega) (by omega);unfold fE at this;rw[show a+1+(cD false (s.drop (a+1)) (line+1)).1=a+((cD false (s.drop (a+1)) (line+1)).1+1) by omega]at this;exact this
   ·rw[show((s[a].toNat:Int)==10)=false from cM.2 c10,aX c10,ak];by_cases c32:(s[a].toNat:Int)=32
    ·rw[show((s[a].toNat:Int)==32)=true from cA.2 c32,ba c32,ad];have:=ih (a+1) line (by omega) (by omega) (by omega) (by omega);unfold fE at this;rw[show a+1+(cD false (s.drop (a+1)) line).1=a+((cD false (s.drop (a+1)) line).1+1) by omega]at this;exact this
    ·rw[show((s[a].toNat:Int)==32)=false from cM.2 c32,aX c32,ak];have hcond:decide (s[a]=47/\s.drop (a+1)≠[]/\hd (s.drop (a+1))=47)=decide ((s[a].toNat:Int)=47/\s.drop (a+1)≠[]/\((hd (s.drop (a+1))).toNat:Int)=47):=by
      rw[ml];have e1:((s[a].toNat:Int)=47)↔s[a]=47:=toNat_eq (b:=47);have e2:(((hd (s.drop (a+1))).toNat:Int)=47)↔hd (s.drop (a+1))=47:=toNat_eq (b:=47);rw[e1,e2]
     rw[hcond];by_cases qC:(s[a].toNat:Int)=47/\s.drop (a+1)≠[]/\((hd (s.drop (a+1))).toNat:Int)=47
     ·rw[db qC,ba qC,ad,ai2 s line o hs ah a (by have:=bq;omega) h2];simp only[ad];have hcl:=MG (s.drop a);rw[List.length_drop]at hcl;have hc1:fS (s.drop a)=fS (s.drop (a+1))+1:=by
       rw[ki h,fS,aX (by omega)]
      have:=ih (a+fS (s.drop a)) line (by omega) (by omega) h3 (by omega);have hk:fE s (a+fS (s.drop a)) line=(((a+((cD true (s.drop (a+1)) line).1+1):Nat):Int),(cD true (s.drop (a+1)) line).2):=by
       unfold fE;rw[MF,hc1,yX];rw[show a+(fS (s.drop (a+1))+1)=a+1+fS (s.drop (a+1)) by omega];congr 2;omega
      rw[hk]at this;exact this
     ·rw[cQ qC,aX qC,ak];simp only[ad];exact .inl rfl
  ·unfold fE;rw[List.drop_eq_nil_of_le h,cQ (show ¬(a:Int)<((s.length:Nat):Int) by omega)];exact .inr rfl
theorem Td(s:List UInt8)(o:List aj)(hs:s.length<=30000)(a:Nat)(line:Int)(h2:a<=s.length)(h3:0<=line)(h4:line+(s.length-a:Nat)<=100000):M.uU s (a:Int) line o=some (s,(fE s a line).1,(fE s a line).2,o):=by
 unfold M.uU;rcases ai3 s o hs ah a line (by have:=bq;omega) h2 h3 h4 with e|e<;>rw[e]
def iO:List UInt8->Nat
 |[]=>0
 |c::r=>if(ia c||fu c)||((decide ((c.toNat:Int)=45)&&decide (r≠[]))&&(ia (hd r)||fu (hd r)))then iO r+1 else 0
def iH:List UInt8->Nat
 |[]=>0
 |c::r=>if fu c||((decide ((c.toNat:Int)=46)&&decide (r≠[]))&&fu (hd r))then iH r+1 else 0
theorem MH:∀l:List UInt8,iO l<=l.length
 |[]=>ct _
 |c::r=>by
  unfold iO;have:=MH r;split
  ·simp only[aU];omega
  ·omega
theorem MI:∀l:List UInt8,iH l<=l.length
 |[]=>ct _
 |c::r=>by
  unfold iH;have:=MI r;split
  ·simp only[aU];omega
  ·omega
theorem zO(s:List UInt8)(a:Nat):hd (s.drop (a+1))=s.getD (a+1) 0:=by
 unfold hd;rcases cN (a+1) s.length with q|q
 ·rw[ki q,getD_lt q];rfl
 ·rw[List.drop_eq_nil_of_le q];simp[List.getD,jS q]
theorem EW(s:List UInt8)(a:Nat):decide (s.drop (a+1)≠[])=decide (a+1<s.length):=by
 rw[ml,ne_eq,List.drop_eq_nil_iff];omega
theorem ai4(s:List UInt8)(hs:s.length<=30000):∀(f a:Nat),s.length-a<f->a<=s.length->
 M.uV s f (a:Int)=some (.inl ((a+iO (s.drop a):Nat):Int))\/M.uV s f (a:Int)=some (.inr ((a+iO (s.drop a):Nat):Int)):=by
 intro f
 induction f with
 |zero=>intro a h;omega
 |succ f ih=>
  intro a h1 h2;rw[M.uV];rcases cN a s.length with h|h
  ·have w1:=bS h (by omega:s.length<2^62);rw[ki h];unfold iO;rw[zO,EW];simp only[bP,getD_lt h,dA,fL,h,ed,bA,bo,cT,al,ad,w1];have eL:∀c:UInt8,(decide ((97:Int)<=(c.toNat:Int))&&decide ((c.toNat:Int)<=122))=ia c:=fun c=>rfl
   have eD:∀c:UInt8,(decide ((48:Int)<=(c.toNat:Int))&&decide ((c.toNat:Int)<=57))=fu c:=fun c=>rfl
   simp only[eL,eD];have e45:((s[a].toNat:Int)==45)=decide ((s[a].toNat:Int)=45):=by rw[mm,cA,bU]
   rw[e45];have ih':=ih (a+1) (by omega) (by omega);rw[show a+1+iO (s.drop (a+1))=a+(iO (s.drop (a+1))+1) by omega]at ih';generalize s.getD (a+1) 0=d;generalize decide (a+1<s.length)=b1;generalize decide ((s[a].toNat:Int)=45)=b2;cases ia s[a]<;>cases fu s[a]<;>cases b1<;>cases b2<;>cases ia d<;>cases fu d<;>first|exact ih'|exact .inl rfl
  ·rw[List.drop_eq_nil_of_le h,cQ (show ¬(a:Int)<((s.length:Nat):Int) by omega)];exact .inr rfl
theorem ai5(s:List UInt8)(hs:s.length<=30000):∀(f a:Nat),s.length-a<f->a<=s.length->
 M.uW s f (a:Int)=some (.inl ((a+iH (s.drop a):Nat):Int))\/M.uW s f (a:Int)=some (.inr ((a+iH (s.drop a):Nat):Int)):=by
 intro f
 induction f with
 |zero=>intro a h;omega
 |succ f ih=>
  intro a h1 h2;rw[M.uW];rcases cN a s.length with h|h
  ·have w1:=bS h (by omega:s.length<2^62);rw[ki h];unfold iH;rw[zO,EW];simp only[bP,getD_lt h,dA,fL,h,ed,bA,bo,cT,al,ad,w1];have eD:∀c:UInt8,(decide ((48:Int)<=(c.toNat:Int))&&decide ((c.toNat:Int)<=57))=fu c:=fun c=>rfl
   simp only[eD];have e45:((s[a].toNat:Int)==46)=decide ((s[a].toNat:Int)=46):=by rw[mm,cA,bU]
   rw[e45];have ih':=ih (a+1) (by omega) (by omega);rw[show a+1+iH (s.drop (a+1))=a+(iH (s.drop (a+1))+1) by omega]at ih';generalize s.getD (a+1) 0=d;generalize decide (a+1<s.length)=b1;generalize decide ((s[a].toNat:Int)=46)=b2;cases fu s[a]<;>cases b1<;>cases b2<;>cases fu d<;>first|exact ih'|exact .inl rfl
  ·rw[List.drop_eq_nil_of_le h,cQ (show ¬(a:Int)<((s.length:Nat):Int) by omega)];exact .inr rfl
theorem ai6(s:List UInt8)(hs:s.length<=30000)(a:Nat)(h2:a<=s.length):M.zP s (a:Int)=some ((a+iO (s.drop a):Nat):Int):=by
 unfold M.zP;rcases ai4 s hs ah a (by have:=bq;omega) h2 with e|e<;>rw[e]
theorem ai7(s:List UInt8)(hs:s.length<=30000)(a:Nat)(h2:a<=s.length):M.zQ s (a:Int)=some ((a+iH (s.drop a):Nat):Int):=by
 unfold M.zQ;rcases ai5 s hs ah a (by have:=bq;omega) h2 with e|e<;>rw[e]
end M
namespace M
open Go.V (inB bV ah bq)
theorem ai8(s:List UInt8)(x2 x3:Int)(o:List aj)(hs:s.length<=30000)(a:Nat):M.zR (iv.mk s x2 x3 o) (a:Int)=some ((s.getD a 0).toNat:Int):=by
 unfold M.zR;by_cases h:a<s.length
 ·have e:decide (((s.length:Nat):Int)<=(a:Int))=false:=by rw[eV];omega
  have e2:inB (a:Int) s.length=true:=by rw[dA];simpa using h
  simp only[e,e2,ak,al,ad,bP]
 ·have e:decide (((s.length:Nat):Int)<=(a:Int))=true:=by rw[bU];omega
  rw[show s.getD a 0=0 by simp[List.getD,jS (Nat.le_of_not_lt h)]];simp only[e,ad];rfl
theorem ai9:ia 0=false:=by decide
theorem aja:fu 0=false:=by decide
def xg(word:Bool)(l:List UInt8):Nat:=bif word then iO l else iH l
theorem getD_none{s:List UInt8}{a:Nat}(h:¬a<s.length):s.getD a 0=0:=by simp[List.getD,jS (Nat.le_of_not_lt h)]
theorem ajb(s:List UInt8)(x2 x3:Int)(o:List aj)(word:Bool)(hs:s.length<=30000):∀(f a:Nat),s.length-a<f->a<=s.length->
 M.xh (iv.mk s x2 x3 o) word f (a:Int)=some ((a+xg word (s.drop a):Nat):Int):=by
 intro f
 induction f with
 |zero=>intro a h;omega
 |succ f ih=>
  intro a h1 h2;rw[M.xh];rcases cN a s.length with h|h
  ·have w1:=bS h (by omega:s.length<2^62);rw[ki h];have ih':=ih (a+1) (by omega) (by omega);have eL:∀c:UInt8,(decide ((97:Int)<=(c.toNat:Int))&&decide ((c.toNat:Int)<=122))=ia c:=fun c=>rfl
   have eD:∀c:UInt8,(decide ((48:Int)<=(c.toNat:Int))&&decide ((c.toNat:Int)<=57))=fu c:=fun c=>rfl
   simp only[w1,ai8 s x2 x3 o hs,av,aw,bP,getD_lt h,dA,fL,h,ed,bA,cT,al,ad,eL,eD];have e45:((s[a].toNat:Int)==45)=decide ((s[a].toNat:Int)=45):=by rw[mm,cA,bU]
   have e46:((s[a].toNat:Int)==46)=decide ((s[a].toNat:Int)=46):=by rw[mm,cA,bU]
   rw[e45,e46];have hz:¬a+1<s.length->ia (s.getD (a+1) 0)=false/\fu (s.getD (a+1) 0)=false:=fun q=>by rw[getD_none q];exact⟨ai9,aja⟩
   have hz1:decide (a+1<s.length)=false->ia (s.getD (a+1) 0)=false/\fu (s.getD (a+1) 0)=false:=fun q=>hz (by simpa using q)
   cases word
   ·simp only[xg,ak]at ih'⊢;rw[show a+1+iH (s.drop (a+1))=a+(iH (s.drop (a+1))+1) by omega]at ih';unfold iH;rw[zO,EW];generalize s.getD (a+1) 0=d at*;generalize decide (a+1<s.length)=b1 at*;generalize decide ((s[a].toNat:Int)=46)=b2;cases b1
    ·rw[(hz1 rfl).2];cases fu s[a]<;>cases b2<;>first|exact ih'|rfl
    ·cases fu s[a]<;>cases b2<;>cases fu d<;>first|exact ih'|rfl
   ·simp only[xg,ad]at ih'⊢;rw[show a+1+iO (s.drop (a+1))=a+(iO (s.drop (a+1))+1) by omega]at ih';unfold iO;rw[zO,EW];generalize s.getD (a+1) 0=d at*;generalize decide (a+1<s.length)=b1 at*;generalize decide ((s[a].toNat:Int)=45)=b2;cases b1
    ·rw[(hz1 rfl).1,(hz1 rfl).2];cases ia s[a]<;>cases fu s[a]<;>cases b2<;>first|exact ih'|rfl
    ·cases ia s[a]<;>cases fu s[a]<;>cases b2<;>cases ia d<;>cases fu d<;>first|exact ih'|rfl
  ·rw[List.drop_eq_nil_of_le h,cQ (show ¬(a:Int)<((s.length:Nat):Int) by omega)];cases word<;>rfl
theorem ajc(s:List UInt8)(x2 x3:Int)(o:List aj)(hs:s.length<=30000)(a:Nat)(h:a<s.length):M.xi (iv.mk s x2 x3 o) (a:Int)=some ((a+1+xg (ia s[a]) (s.drop (a+1)):Nat):Int):=by
 unfold M.xi;have w1:=bS h (by omega:s.length<2^62);have eL:(decide ((97:Int)<=(s[a].toNat:Int))&&decide ((s[a].toNat:Int)<=122))=ia s[a]:=rfl;have e:=ajb s x2 x3 o (ia s[a]) hs ah (a+1) (by have:=bq;omega) (by omega);have hin:inB (a:Int) s.length=true:=by rw[dA];simpa using h
 simp only[bP,getD_lt h,eL,w1,e,hin,al,ad]
def so:List UInt8:=[123,125,40,41,60,62,44,59,58,61,46,47,64,95]
def isS(c:UInt8):Bool:=so.any fun x=>x==c
theorem Tf:∀(l:List UInt8)(c:UInt8),decide ((0:Int)<=Go.Lib.indexByte l c)=l.any fun x=>x==c
 |[],c=>rfl
 |b::l,c=>by
  have ih:=Tf l c;have hg:=Go.Lib.indexByte_ge l c;unfold Go.Lib.indexByte;rw[List.any_cons,<-ih];cases hb:(b==c)
  ·rw[aX (by simp),jV];by_cases h:Go.Lib.indexByte l c= -1
   ·rw[ba (by rw[h];rfl),h]
   ·rw[aX (by rw[cA];exact h),db (by omega),db (by omega)]
  ·rw[ba rfl];rfl
theorem ajd(c:UInt8):decide ((0:Int)<=M.zN [(123:UInt8),(125:UInt8),(40:UInt8),(41:UInt8),(60:UInt8),(62:UInt8),(44:UInt8),(59:UInt8),(58:UInt8),(61:UInt8),(46:UInt8),(47:UInt8),(64:UInt8),(95:UInt8)] ((c.toNat:Nat):Int))=isS c:=by
 unfold M.zN isS so;rw[bP,show c.toNat.toUInt8=c from UInt8.ofNat_toNat];exact Tf _ c
theorem aje(c:UInt8):M.zS ((c.toNat:Nat):Int)=some (isS c):=by
 have e:=MJ (p:=fun x:UInt8=>x==c) (F:=M.sq ((c.toNat:Nat):Int) so) (e:=()) (fun _=>true) so (by decide) (fun f k hk=>by
  rw[M.sq];have hb:(((so[k].toNat:Nat):Int)==((c.toNat:Nat):Int))=(so[k]==c):=by
   rw[mm,cA,cA];exact toNat_eq
  simp only[getD_lt hk,bP,dA,fL,hk,ed,ad,cT,hb,bS hk (by decide:so.length<2^62)]) (fun f=>by
  rw[M.sq];simp)
 unfold M.zS isS;rw[show M.sq ((c.toNat:Nat):Int) [(123:UInt8),(125:UInt8),(40:UInt8),(41:UInt8),(60:UInt8),(62:UInt8),(44:UInt8),(59:UInt8),(58:UInt8),(61:UInt8),(46:UInt8),(47:UInt8),(64:UInt8),(95:UInt8)] ah 0=_ from e,ajf];cases so.findIdx? (fun x=>x==c)<;>rfl
def gm(c:UInt8)(r:List UInt8):Int×Nat:=
 bif ia c then(1,1+iO r)else bif fu c then(2,1+iH r)else bif decide (c=45/\r≠[]/\hd r=62)then(3,2)else bif isS c then(3,1)else(0,0)
theorem Ti(c:UInt8)(r:List UInt8):(gm c r).2<=1+r.length:=by
 unfold gm;have h1:=MH r;have h2:=MI r;cases ia c
 ·cases fu c
  ·cases hc:decide (c=45/\r≠[]/\hd r=62)
   ·cases isS c<;>simp
   ·rw[bU]at hc;have:0<r.length:=List.length_pos_iff.2 hc.2.1;simp only[ak,ad];omega
  ·simp only[ak,ad];omega
 ·simp only[ad];omega
theorem MK(c:UInt8)(r:List UInt8)(h:(gm c r).1≠0):1<=(gm c r).2:=by
 unfold gm at h⊢;cases h1:ia c
 ·cases h2:fu c
  ·cases hc:decide (c=45/\r≠[]/\hd r=62)
   ·cases hS:isS c
    ·rw[h1,h2,hc,hS]at h;exact(h rfl).elim
    ·simp
   ·simp
  ·simp
 ·simp
theorem ajg(s:List UInt8)(x3:Int)(o:List aj)(hs:s.length<=30000)(a:Nat)(h:a<s.length):
 M.zT (iv.mk s (a:Int) x3 o)=some ((gm s[a] (s.drop (a+1))).1,bif(gm s[a] (s.drop (a+1))).1==0 then 0 else((a+(gm s[a] (s.drop (a+1))).2:Nat):Int)):=by
 unfold M.zT gm;have eL:(decide ((97:Int)<=(s[a].toNat:Int))&&decide ((s[a].toNat:Int)<=122))=ia s[a]:=rfl;have eD:(decide ((48:Int)<=(s[a].toNat:Int))&&decide ((s[a].toNat:Int)<=57))=fu s[a]:=rfl;have hin:inB (a:Int) s.length=true:=by rw[dA];simpa using h
 have hp:=pre2 s hs a 45 62 h;have hsl:bV (a:Int) ((s.length:Nat):Int) s.length=true:=by unfold bV;simp only[bB,bU];omega
 have w1:=bS h (by omega:s.length<2^62);have w2:Go.IntKind.wrap .i64 ((a:Int)+2)=((a+2:Nat):Int):=by rw[wrap_i64 (by omega) (by omega)];omega
 simp only[bP,getD_lt h,eL,eD,ajc s _ x3 o hs a h,hp,hsl,hin,w1,w2,ajd,av,aw,al,ad];cases hl:ia s[a]
 ·cases hd':fu s[a]
  ·simp only[ak];cases decide (s[a]=45/\s.drop (a+1)≠[]/\hd (s.drop (a+1))=62)
   ·cases isS s[a]<;>rfl
   ·rfl
  ·simp only[ak,ad,xg];rw[show a+1+iH (s.drop (a+1))=a+(1+iH (s.drop (a+1))) by omega];rfl
 ·simp only[ad,xg];rw[show a+1+iO (s.drop (a+1))=a+(1+iO (s.drop (a+1))) by omega];rfl
def nG(s:List UInt8)(a n:Nat):List UInt8:=(s.drop a).take n
theorem EX(s:List UInt8)(a n:Nat):List.drop a (List.take (a+n) s)=nG s a n:=by
 unfold nG;rw[List.drop_take];congr 1;omega
theorem ajh(s:List UInt8)(hs:s.length<=30000)(a:Nat)(h:a<s.length):
 M.zU s (a:Int)=some (bif(gm s[a] (s.drop (a+1))).1==0 then(aj.mk 0 [] 0,0)else(aj.mk (gm s[a] (s.drop (a+1))).1 (nG s a (gm s[a] (s.drop (a+1))).2) 0,((a+(gm s[a] (s.drop (a+1))).2:Nat):Int))):=by
 unfold M.zU gm;have eL:(decide ((97:Int)<=(s[a].toNat:Int))&&decide ((s[a].toNat:Int)<=122))=ia s[a]:=rfl;have eD:(decide ((48:Int)<=(s[a].toNat:Int))&&decide ((s[a].toNat:Int)<=57))=fu s[a]:=rfl;have hin:inB (a:Int) s.length=true:=by rw[dA];simpa using h
 have w1:=bS h (by omega:s.length<2^62);have w2:Go.IntKind.wrap .i64 ((a:Int)+2)=((a+2:Nat):Int):=by rw[wrap_i64 (by omega) (by omega)];omega
 have hw:=ai6 s hs a (by omega);have hn:=ai7 s hs a (by omega);simp only[bP,getD_lt h,eL,eD,hin,hw,hn,w1,w2,aje,av,aw,al,ad];have hlen:(s.drop (a+1)).length=s.length-(a+1):=List.length_drop;cases hl:ia s[a]
 ·cases hd':fu s[a]
  ·simp only[ak];have hcond:(((((s[a].toNat:Nat):Int)==45)&&decide (((a+1:Nat):Int)<((s.length:Nat):Int)))&&((((s.getD (a+1) 0).toNat:Nat):Int)==62))=decide (s[a]=45/\s.drop (a+1)≠[]/\hd (s.drop (a+1))=62):=by
    have e1:((s[a].toNat:Int)=45)↔s[a]=45:=toNat_eq (b:=45);have e3:(((s.getD (a+1) 0).toNat:Int)=62)↔s.getD (a+1) 0=62:=toNat_eq (b:=62);have e2:(s.drop (a+1)≠[])↔a+1<s.length:=by
     rw[ne_eq,List.drop_eq_nil_iff];omega
    rw[zO,mm];simp only[bB,cA,bU,e1,e2,e3,fL];constructor
    ·rintro ⟨⟨x,y⟩,z⟩;exact⟨x,y,z⟩
    ·rintro ⟨x,y,z⟩;exact⟨⟨x,y⟩,z⟩
   have hin2:(inB ((a+1:Nat):Int) s.length|| !(((((s[a].toNat:Nat):Int)==45)&&decide (((a+1:Nat):Int)<((s.length:Nat):Int)))==true))=true:=by
    rw[dA];by_cases q:a+1<s.length
    ·simp[q]
    ·have:decide (((a+1:Nat):Int)<(s.length:Int))=false:=by rw[eV];omega
     rw[this,Bool.and_false];simp
   have hsl1:bV (a:Int) ((a+1:Nat):Int) s.length=true:=by unfold bV;simp only[bB,bU];omega
   rw[hcond,hin2,hsl1];cases hc:decide (s[a]=45/\s.drop (a+1)≠[]/\hd (s.drop (a+1))=62)with
   |false=>
    cases isS s[a]
    ·rfl
    ·rw[EX];rfl
   |true=>
    rw[bU]at hc;have hT:nG s a 2=[45,62]:=by
     unfold nG;rw[ki h,hc.1];cases hq:s.drop (a+1)with
     |nil=>exact absurd hq hc.2.1
     |cons d r=>
      have:=hc.2.2;rw[hq]at this;show(45:UInt8)::[d]=[45,62]
      rw[show d=62 from this]
    simp only[ad,hT];rfl
  ·simp only[ak,ad];have e:iH (s.drop a)=1+iH (s.drop (a+1)):=by
    rw[ki h,iH,ba (by rw[hd',bo])];omega
   have hle:=MI (s.drop (a+1));have hsl:bV (a:Int) ((a+(1+iH (s.drop (a+1))):Nat):Int) s.length=true:=by unfold bV;simp only[bB,bU];omega
   rw[e,hsl,EX];rfl
 ·simp only[ad];have e:iO (s.drop a)=1+iO (s.drop (a+1)):=by
   rw[ki h,iO,ba (by rw[hl,bo,bo])];omega
  have hle:=MH (s.drop (a+1));have hsl:bV (a:Int) ((a+(1+iO (s.drop (a+1))):Nat):Int) s.length=true:=by unfold bV;simp only[bB,bU];omega
  rw[e,hsl,EX];rfl
end M
namespace M
open Go.V (inB bV ah bq)
theorem uX:∀(b:Bool)(l:List UInt8)(n:Int),(cD b l n).2<=n+((cD b l n).1:Int)
 |b,[],n=>by cases b<;>simp[cD]
 |true,c::r,n=>by
  unfold cD;have h1:=uX false r (n+1);have h2:=uX true r n;split
  ·simp only;omega
  ·simp only;omega
 |false,c::r,n=>by
  unfold cD;have h1:=uX false r (n+1);have h2:=uX true r n;have h3:=uX false r n;split
  ·simp only;omega
  ·split
   ·simp only;omega
   ·split
    ·simp only;omega
    ·simp only;omega
def jv(s:List UInt8):Nat->Nat->Int->List aj->(Int×Int)⊕(Int×List aj)
 |0,_,_,_=>.inl (0,0)
 |n+1,a,line,out=>if a<s.length then
   if(gm (s.getD a 0) (s.drop (a+1))).1=0 then .inl (line,6)else if out.length=4000 then .inl (line,4)
   else jv s n (a+(gm (s.getD a 0) (s.drop (a+1))).2+(cD false (s.drop (a+(gm (s.getD a 0) (s.drop (a+1))).2)) line).1) (cD false (s.drop (a+(gm (s.getD a 0) (s.drop (a+1))).2)) line).2
    (out++[aj.mk (gm (s.getD a 0) (s.drop (a+1))).1 (nG s a (gm (s.getD a 0) (s.drop (a+1))).2) line])
  else .inr (line,out)
theorem aji(s:List UInt8)(hs:s.length<=30000):∀(f a:Nat)(line:Int)(out:List aj),s.length-a<f->a<=s.length->0<=line->line<=50000+(a:Int)->out.length<=4000->
 M.xj s f (a:Int) line out=some (match jv s f a line out with
   |.inl x=>.inl (x.1,x.2,[])
   |.inr y=>.inr y):=by
 intro f
 induction f with
 |zero=>intro a l o h;omega
 |succ f ih=>
  intro a line out h1 h2 h3 h4 ho;rw[M.xj,jv];rcases cN a s.length with h|h
  ·rw[ba h,db (show(a:Int)<((s.length:Nat):Int) by omega),ad,ajh s hs a h,getD_lt h];have hle:=Ti s[a] (s.drop (a+1));have hpos:=MK s[a] (s.drop (a+1));rw[List.length_drop]at hle;generalize gm s[a] (s.drop (a+1))=x at*;by_cases hx:x.1=0
   ·rw[ba hx,show(x.1==0)=true from cA.2 hx];rfl
   ·have hp:=hpos hx;have hne:(((a+x.2:Nat):Int)==0)=false:=by rw[cM];omega
    have hsk:=Tc s hs (a+x.2) line (by omega) h3 (by omega);have hcl:=qA false (s.drop (a+x.2)) line;have hcn:=uX false (s.drop (a+x.2)) line;rw[List.length_drop]at hcl;rw[aX hx,show(x.1==0)=false from cM.2 hx];simp only[ak,av,aw,hne,al,ad];by_cases mH:out.length=4000
    ·rw[ba mH,show(((out.length:Nat):Int)==4000)=true by rw[cA];omega];rfl
    ·rw[aX mH,show(((out.length:Nat):Int)==4000)=false by rw[cM];omega];have hc:∀t:aj,decide (out.length+[t].length<=1073741824)=true:=fun t=>by rw[bU,List.length_singleton];omega
     simp only[ak,hsk,hc,av,aw,al,ad];unfold fE;exact ih _ _ _ (by omega) (by omega) (by omega) (by omega) (by rw[aR,List.length_singleton];omega)
  ·rw[aX (by omega),cQ (show ¬(a:Int)<((s.length:Nat):Int) by omega)];rfl
theorem ajj(s:List UInt8)(hs:s.length<=30000):∀(f a:Nat)(line:Int)(out:List aj),s.length-a<f->a<=s.length->0<=line->line<=50000+(a:Int)->out.length<=4000->
 ∃a':Int,M.xk s f s (a:Int) line out=some (match jv s f a line out with
  |.inl x=>.inl (x.1,x.2)
  |.inr y=>.inr (s,a',y.1,y.2)):=by
 intro f
 induction f with
 |zero=>intro a l o h;omega
 |succ f ih=>
  intro a line out h1 h2 h3 h4 ho;rw[M.xk,jv];rcases cN a s.length with h|h
  ·rw[ba h,db (show(a:Int)<((s.length:Nat):Int) by omega),ad,ajg s line out hs a h,getD_lt h];have hle:=Ti s[a] (s.drop (a+1));have hpos:=MK s[a] (s.drop (a+1));rw[List.length_drop]at hle;generalize gm s[a] (s.drop (a+1))=x at*;by_cases hx:x.1=0
   ·rw[ba hx];simp only[av,aw,show(x.1==0)=true from cA.2 hx,ad,al];exact⟨0,trivial⟩
   ·have hp:=hpos hx;have hsk:=Td s (out++[aj.mk x.1 (nG s a x.2) line]) hs (a+x.2) line (by omega) h3 (by omega);have hcl:=qA false (s.drop (a+x.2)) line;have hcn:=uX false (s.drop (a+x.2)) line;rw[List.length_drop]at hcl;rw[aX hx];simp only[av,aw,show(x.1==0)=false from cM.2 hx,ak,ad,al];by_cases mH:out.length=4000
    ·rw[ba mH,show(((out.length:Nat):Int)==4000)=true by rw[cA];omega];exact⟨0,rfl⟩
    ·rw[aX mH,show(((out.length:Nat):Int)==4000)=false by rw[cM];omega];have hc:∀t:aj,decide (out.length+[t].length<=1073741824)=true:=fun t=>by rw[bU,List.length_singleton];omega
     have hsl:bV (a:Int) ((a+x.2:Nat):Int) s.length=true:=by unfold bV;simp only[bB,bU];omega
     simp only[ak,bP,EX,hsk,hc,hsl,av,aw,al,ad];unfold fE;exact ih _ _ _ (by omega) (by omega) (by omega) (by omega) (by rw[aR,List.length_singleton];omega)
  ·rw[aX (by omega),cQ (show ¬(a:Int)<((s.length:Nat):Int) by omega)];exact⟨_,rfl⟩
theorem EY(s:List UInt8):∀(f a:Nat)(line:Int)(out:List aj)(y:Int×List aj),out.length<=4000->jv s f a line out=.inr y->y.2.length<=4000
 |0,a,line,out,y,ho,h=>by cases h
 |f+1,a,line,out,y,ho,h=>by
  unfold jv at h;split at h
  ·split at h
   ·cases h
   ·split at h
    ·cases h
    ·exact EY s f _ _ _ y (by rw[aR,List.length_singleton];omega) h
  ·cases h;exact ho
noncomputable def eC(s:List UInt8):List aj×Int×Int:=
 if 30000<s.length then([],0,4)else match jv s ah (cD false s 1).1 (cD false s 1).2 []with
  |.inl x=>([],x.1,x.2)
  |.inr y=>(y.2++[aj.mk 4 [] y.1],0,0)
theorem ajk(s:List UInt8):M.zV s=some (eC s):=by
 unfold M.zV eC;by_cases h:30000<s.length
 ·rw[ba h,db (show(30000:Int)<((s.length:Nat):Int) by omega)];rfl
 ·rw[aX h,cQ (show ¬(30000:Int)<((s.length:Nat):Int) by omega)];have hsk:M.uT s 0 1=some (fE s 0 1):=Tc s (by omega) 0 1 (dL _) (by omega) (by omega);have hcl:=qA false s 1;have e:fE s 0 1=((((cD false s 1).1:Nat):Int),(cD false s 1).2):=by unfold fE;rw[gX,fB]
  have ht:=aji s (by omega) ah (cD false s 1).1 (cD false s 1).2 [] (by have:=bq;omega) hcl.1 (by omega) (by omega) (by simp);have hlen:=EY s ah (cD false s 1).1 (cD false s 1).2 [];rw[hsk,e];simp only[ak,av,aw,ht,al];generalize jv s ah (cD false s 1).1 (cD false s 1).2 []=r at*;cases r with
  |inl x=>rfl
  |inr y=>
   have:=hlen y (by simp) rfl;have hc:∀t:aj,decide (y.2.length+[t].length<=1073741824)=true:=fun t=>by rw[bU,List.length_singleton];omega
   simp only[hc,al,ad]
theorem ajl(s:List UInt8):M.zW s=some (eC s):=by
 unfold M.zW eC;by_cases h:30000<s.length
 ·rw[ba h,db (show(30000:Int)<((s.length:Nat):Int) by omega)];rfl
 ·rw[aX h,cQ (show ¬(30000:Int)<((s.length:Nat):Int) by omega)];have hsk:M.uU s 0 1 []=some (s,(fE s 0 1).1,(fE s 0 1).2,[]):=Td s [] (by omega) 0 1 (dL _) (by omega) (by omega);have hcl:=qA false s 1;have e:fE s 0 1=((((cD false s 1).1:Nat):Int),(cD false s 1).2):=by unfold fE;rw[gX,fB]
  obtain⟨a',ht⟩:=ajj s (by omega) ah (cD false s 1).1 (cD false s 1).2 [] (by have:=bq;omega) hcl.1 (by omega) (by omega) (by simp);have hlen:=EY s ah (cD false s 1).1 (cD false s 1).2 [];rw[hsk,e];simp only[ak,av,aw,ht,al];generalize jv s ah (cD false s 1).1 (cD false s 1).2 []=r at*;cases r with
  |inl x=>rfl
  |inr y=>
   have:=hlen y (by simp) rfl;have hc:∀t:aj,decide (y.2.length+[t].length<=1073741824)=true:=fun t=>by rw[bU,List.length_singleton];omega
   simp only[hc,al,ad]
def xl(t:aj):Prop:=(t.Kind=1\/t.Kind=2\/t.Kind=3)/\(t.Kind=2->∃c r,t.Text=c::r/\fu c=true)
theorem ajm(s:List UInt8)(a:Nat)(line:Int)(h:a<s.length)(hx:(gm (s.getD a 0) (s.drop (a+1))).1≠0):
 xl (aj.mk (gm (s.getD a 0) (s.drop (a+1))).1 (nG s a (gm (s.getD a 0) (s.drop (a+1))).2) line):=by
 rw[getD_lt h]at hx⊢;unfold gm at hx⊢;unfold xl;cases h1:ia s[a]
 ·cases h2:fu s[a]
  ·cases h3:decide (s[a]=45/\s.drop (a+1)≠[]/\hd (s.drop (a+1))=62)
   ·cases h4:isS s[a]
    ·rw[h1,h2,h3,h4]at hx;exact(hx rfl).elim
    ·exact⟨.inr (.inr rfl),fun q=>by cases q⟩
   ·exact⟨.inr (.inr rfl),fun q=>by cases q⟩
  ·refine⟨.inr (.inl rfl),fun _=>⟨s[a],(s.drop (a+1)).take (iH (s.drop (a+1))),?_,h2⟩⟩;simp only[ak,ad];unfold nG;rw[ki h,wo 1,List.take_succ_cons]
 ·exact⟨.inl rfl,fun q=>by cases q⟩
theorem Tj(s:List UInt8):∀(f a:Nat)(line:Int)(out:List aj)(y:Int×List aj),(∀t∈out,xl t)->jv s f a line out=.inr y->∀t∈y.2,xl t
 |0,a,line,out,y,ho,h=>by cases h
 |f+1,a,line,out,y,ho,h=>by
  unfold jv at h;split at h
  ·rename_i hl;split at h
   ·cases h
   ·rename_i hx;split at h
    ·cases h
    ·refine Tj s f _ _ _ y (fun t ht=>?_) h;rcases dN.1 ht with q|q
     ·exact ho t q
     ·rw[jj]at q;rw[q];exact ajm s a line hl hx
  ·cases h;exact ho
structure bW (l:List aj):Prop where
 ex:∃o e,l=o++[e]/\e.Kind=4/\e.Text=[]/\(∀t∈o,xl t)/\o.length<=4000
theorem ML(s:List UInt8)(h:(eC s).2.2=0):bW (eC s).1:=by
 unfold eC at h⊢;split at h
 ·cases h
 ·rename_i hl;rw[aX hl];have hlen:=EY s ah (cD false s 1).1 (cD false s 1).2 [];have hok:=Tj s ah (cD false s 1).1 (cD false s 1).2 [];have hcode:∀(f a:Nat)(line:Int)(out:List aj)(x:Int×Int),s.length-a<f->jv s f a line out=.inl x->x.2≠0:=fun f=>by
   induction f with
   |zero=>intro a line out x hf;omega
   |succ f ih=>
    intro a line out x hf hx;unfold jv at hx;split at hx
    ·rename_i ha;split at hx
     ·cases hx;intro q;cases q
     ·rename_i hx0;split at hx
      ·cases hx;intro q;cases q
      ·have hp:=MK _ _ hx0;exact ih _ _ _ x (by omega) hx
    ·cases hx
  have hc:=hcode ah (cD false s 1).1 (cD false s 1).2 [];generalize jv s ah (cD false s 1).1 (cD false s 1).2 []=r at*;cases r with
  |inl x=>exact absurd h (hc x (by have:=bq;omega) rfl)
  |inr y=>exact⟨y.2,_,rfl,rfl,rfl,hok y (by simp) rfl,hlen y (by simp) rfl⟩
end M
namespace M
open Go.V (inB bV ah bq)
theorem bW.pos{l:List aj}(h:bW l):0<l.length:=by
 obtain⟨o,e,rfl,-⟩:=h.ex;simp
theorem bW.len{l:List aj}(h:bW l):l.length<=4001:=by
 obtain⟨o,e,rfl,-,-,-,h4⟩:=h.ex;simp;omega
theorem bW.mid{l:List aj}(h:bW l){k:Nat}(hk:k+1<l.length):xl (l.getD k aj.zero):=by
 obtain⟨o,e,rfl,-,-,ho,-⟩:=h.ex;rw[aR,List.length_singleton]at hk;have hk':k<o.length:=by omega
 rw[getD_lt (show k<(o++[e]).length by rw[aR,List.length_singleton];omega),List.getElem_append_left hk'];exact ho _ (cw hk')
theorem bW.last{l:List aj}(h:bW l){k:Nat}(hk:k+1=l.length):(l.getD k aj.zero).Kind=4/\(l.getD k aj.zero).Text=[]:=by
 obtain⟨o,e,rfl,h1,h2,-,-⟩:=h.ex;rw[aR,List.length_singleton]at hk;have:k=o.length:=by omega
 subst this;rw[getD_lt (show o.length<(o++[e]).length by simp)];simp[h1,h2]
theorem bW.next{l:List aj}(h:bW l){k:Nat}(hk:k<l.length)(h4:(l.getD k aj.zero).Kind≠4):k+1<l.length:=by
 rcases cN (k+1) l.length with q|q
 ·exact q
 ·exact absurd (h.last (by omega)).1 h4
def bT(l:List aj)(k:Nat):aj:=l.getD k aj.zero
def aH(l:List aj)(text:List UInt8)(k:Nat):Bool:=((bT l k).Kind !=4)&&((bT l k).Text==text)
def sr(text:List UInt8):Prop:=∀c r,text=c::r->fu c=false
theorem ajn{l:List aj}(h:bW l){k:Nat}(hk:k<l.length){text:List UInt8}(hn:sr text):
 ((((bT l k).Kind==1)||((bT l k).Kind==3))&&((bT l k).Text==text))=aH l text k:=by
 unfold aH;by_cases hl:k+1<l.length
 ·obtain⟨h1,h2⟩:=h.mid hl;have e:(l.getD k aj.zero)=bT l k:=rfl;rw[e]at h1 h2;rcases h1 with q|q|q
  ·rw[q];rfl
  ·rw[q];obtain⟨c,r,ht,hc⟩:=h2 q;have:((bT l k).Text==text)=false:=by
    rw[cM,ht];intro e;rw[hn c r e.symm]at hc;cases hc
   rw[this,Bool.and_false,Bool.and_false]
  ·rw[q];rfl
 ·have:=(h.last (k:=k) (by omega)).1;have e:(l.getD k aj.zero)=bT l k:=rfl;rw[e]at this;rw[this];rfl
def ip(l:List aj)(k:Nat)(b:Bool):ar:=ar.mk l (k:Int) b
def sp(l:List aj)(k:Nat)(b:Bool):aC:=aC.mk l (k:Int) b
theorem kj{l:List aj}{k:Nat}(hk:k<l.length):inB (k:Int) l.length=true:=by rw[dA];simpa using hk
theorem zX{l:List aj}(h:bW l){k:Nat}(hk:k<l.length){text:List UInt8}(hn:sr text)(b:Bool):M.l9 text (ip l k b)=some (!b&&aH l text k,ip l k b):=by
 unfold M.l9 ip;have e:=ajn h hk hn;unfold bT at e;simp only[kj hk,al,ad,bP,Bool.and_assoc];rw[<-e]
theorem iP{l:List aj}(h:bW l){k:Nat}(hk:k<l.length){text:List UInt8}(hn:sr text)(b:Bool):M.eE text (ip l k b)=some (bif !b&&aH l text k then(true,ip l (k+1) b)else(false,ip l k b)):=by
 unfold M.eE;rw[zX h hk hn b];have hlen:=h.len;have w:=bS (k:=k) hk (by omega:l.length<2^62);cases hb:(!b&&aH l text k)
 ·rfl
 ·simp only[av,aw,bM,ak,al,ad];unfold ip;rw[w]
theorem eY{l:List aj}(h:bW l){k:Nat}(hk:k<l.length){text:List UInt8}(hn:sr text)(b:Bool):M.dk text (ip l k b)=some (bif !b&&aH l text k then ip l (k+1) b else ip l k true):=by
 unfold M.dk;rw[iP h hk hn b];cases (!b&&aH l text k)<;>rfl
theorem cU{l:List aj}(h:bW l){k:Nat}(hk:k<l.length){text:List UInt8}(hb:aH l text k=true):k+1<l.length:=by
 unfold aH at hb;rw[bB,yU]at hb;exact h.next hk hb.1
theorem MM{l:List aj}(h:bW l){k:Nat}(hk:k+1<l.length)(b:Bool):M.qE (sp l k b)=some (sp l (k+1) b):=by
 unfold M.qE sp;have hlen:=h.len;have w:=bS (k:=k) (n:=l.length) (by omega) (by omega:l.length<2^62);simp only[w,db (show((k+1:Nat):Int)<((l.length:Nat):Int) by omega),ad]
theorem lD{l:List aj}{k:Nat}(hk:k<l.length)(b:Bool):M.kS (sp l k b)=some (bT l k,sp l k b):=by
 unfold M.kS sp bT;simp only[kj hk,al,ad,bP]
theorem ajo{l:List aj}{k:Nat}(hk:k<l.length)(text:List UInt8)(b:Bool):M.zY text (sp l k b)=some (aH l text k,sp l k b):=by
 unfold M.zY;rw[lD hk b];rfl
theorem fh{l:List aj}(h:bW l){k:Nat}(hk:k<l.length)(text:List UInt8)(b:Bool):M.dI text (sp l k b)=some (bif !b&&aH l text k then(true,sp l (k+1) b)else(false,sp l k b)):=by
 unfold M.dI;have e:aC.bad (sp l k b)=b:=rfl;rw[e];cases b
 ·simp only[ajo hk,av,aw,ak,bw,bA];cases hb:aH l text k
  ·rfl
  ·simp only[MM h (cU h hk hb),av,aw];rfl
 ·rfl
theorem gz{l:List aj}(h:bW l){k:Nat}(hk:k<l.length)(text:List UInt8)(b:Bool):M.dE text (sp l k b)=some (bif !b&&aH l text k then sp l (k+1) b else sp l k true):=by
 unfold M.dE;rw[fh h hk text b];cases (!b&&aH l text k)<;>rfl
def gP(l:List aj)(k:Nat):Bool:=((bT l k).Kind==1)&&ib (bT l k).Text
theorem EZ{l:List aj}(hT:∀t∈l,t.Text.length<=30000){k:Nat}(hk:k<l.length):(bT l k).Text.length<=1048576:=by
 have:=hT (bT l k) (by unfold bT;rw[getD_lt hk];exact cw hk);omega
theorem xm{l:List aj}(h:bW l)(hT:∀t∈l,t.Text.length<=30000){k:Nat}(hk:k<l.length)(b:Bool):M.fU (sp l k b)=some (bif !b&&gP l k then((bT l k).Text,sp l (k+1) b)else([],sp l k true)):=by
 have hN:M.mI (bT l k).Text=some (ib (bT l k).Text):=by
  unfold M.mI;rw[MN _ (EZ hT hk)];rfl
 unfold M.fU gP;rw[lD hk b];simp only[av,aw,hN,bo,al,ad];have e:aC.bad (sp l k b)=b:=rfl;rw[e];cases b
 ·cases hk1:((bT l k).Kind==(1:Int))
  ·rw[show((bT l k).Kind !=(1:Int))=true by rw[bne,hk1];rfl];rfl
  ·rw[show((bT l k).Kind !=(1:Int))=false by rw[bne,hk1];rfl];cases ib (bT l k).Text
   ·rfl
   ·have hn:k+1<l.length:=h.next hk (by
     have:(bT l k).Kind=1:=by simpa using hk1
     unfold bT at this;rw[this];decide)
    simp only[MM h hn,av,aw];rfl
 ·rfl
theorem E0{l:List aj}(h:bW l)(hT:∀t∈l,t.Text.length<=30000){k:Nat}(hk:k<l.length)(b:Bool):M.gA (ip l k b)=some (bif !b&&gP l k then((bT l k).Text,ip l (k+1) b)else([],ip l k true)):=by
 have hN:=E1 (bT l k).Text (EZ hT hk);have hlen:=h.len;have w:=bS (k:=k) hk (by omega:l.length<2^62);have e1:M.zZ 1 (ip l k b)=some (bif !b&&gP l k then((bT l k).Text,ip l (k+1) b)else([],ip l k true)):=by
  unfold M.zZ gP ip;have e:l.getD k aj.zero=bT l k:=rfl;simp only[kj hk,bP,e,hN,w,av,aw];cases b
  ·cases hk1:((bT l k).Kind==(1:Int))
   ·rw[show((bT l k).Kind !=(1:Int))=true by rw[bne,hk1];rfl];rfl
   ·rw[show((bT l k).Kind !=(1:Int))=false by rw[bne,hk1];rfl];cases ib (bT l k).Text<;>rfl
  ·rfl
 unfold M.gA;rw[e1];rfl
end M
namespace M
open Go.V (inB bV ah bq)
def words:List (List UInt8):=M.jw.getD []++M.jx.getD []
theorem Aa:words.length=23:=by decide
theorem E2:M.fN=some ([]::words):=by decide
def dJ(w:List UInt8):Int:=match words.findIdx? (fun x=>x==w)with
 |some i=>(i:Int)+1
 |none=>0
theorem E3(w:List UInt8):0<=dJ w/\dJ w<=23:=by
 unfold dJ;cases h:words.findIdx? (fun x=>x==w)with
 |none=>simp
 |some i=>
  rw[List.findIdx?_eq_some_iff_getElem]at h;obtain⟨hi,-⟩:=h;rw[Aa]at hi;simp only;omega
theorem Ab:dJ []=0:=by decide
theorem E4(w:List UInt8):M.su w=some (dJ w):=by
 have e:=MJ (p:=fun x:List UInt8=>x==w) (F:=M.sw w words) (e:=()) (fun k=>Go.IntKind.wrap .i64 (k+1)) words (by rw[Aa];omega) (fun f k hk=>by
  rw[M.sw];simp only[getD_lt hk,bP,dA,fL,hk,ed,ad,cT,bS hk (by rw[Aa];omega:words.length<2^62)]) (fun f=>by
  rw[M.sw];simp)
 unfold M.su;rw[show M.sw w ((Option.getD M.jw Inhabited.default)++(Option.getD M.jx Inhabited.default)) ah 0=_ from e];unfold dJ;cases h:words.findIdx? (fun x=>x==w)with
 |none=>rfl
 |some i=>
  rw[List.findIdx?_eq_some_iff_getElem]at h;obtain⟨hi,-⟩:=h;have:=bS hi (by rw[Aa];omega:words.length<2^62);simp only[this];rw[show((i+1:Nat):Int)=(i:Int)+1 by omega]
theorem ajp(w:List UInt8):M.Ac w=some (decide (0<dJ w)):=by
 unfold M.Ac;rw[E4];rfl
theorem Tm(w:List UInt8):M.uY ([]::words) w=some (if w=[]then 0 else if dJ w=0 then -1 else dJ w):=by
 have hl:([]::words).length=24:=by rw[aU,Aa]
 have e:=MJ (p:=fun x:List UInt8=>w==x) (F:=M.uZ ([]::words) w ((([]::words:List (List UInt8)).length:Nat):Int)) (e:=()) (fun k=>k) ([]::words) (by rw[hl];omega) (fun f k hk=>by
  rw[M.uZ];simp only[getD_lt hk,bP,dA,fL,hk,ed,ad,cT,bS hk (by rw[hl];omega:([]::words).length<2^62)]) (fun f=>by
  rw[M.uZ];simp)
 have hc:(fun x:List UInt8=>w==x)=fun x=>x==w:=funext fun x=>by rw[mm,cA,cA];exact eq_comm
 unfold M.uY;rw[e,hc,List.findIdx?_cons];by_cases h0:w=[]
 ·rw[h0,ba rfl];rfl
 ·rw[aX h0,aX (by rw[cA];exact fun q=>h0 q.symm)];unfold dJ;cases h:words.findIdx? (fun x=>x==w)with
  |none=>rfl
  |some i=>
   simp only[iC];rw[aX (by omega)];congr 1
theorem E5(w:List UInt8):M.qF w=some (decide (0<dJ w)):=by
 unfold M.qF M.E6;rw[E2];simp only[av,aw,Tm,bo,al,ad];by_cases h0:w=[]
 ·rw[h0,Ab];rfl
 ·have hb:=E3 w;rw[aX h0,show(w==[])=false from cM.2 h0,bw,bA];by_cases hk:dJ w=0
  ·rw[ba hk,hk];rfl
  ·rw[aX hk,db (by omega),db (by omega)]
def mJ(l:List aj)(k:Nat):Bool:=gP l k&& !decide (0<dJ (bT l k).Text)
def sx(l:List aj)(k:Nat):Bool:=((bT l k).Kind==2)&&km (bT l k).Text
theorem MO{l:List aj}(h:bW l)(hT:∀t∈l,t.Text.length<=30000){k:Nat}(hk:k<l.length)(b:Bool):M.mK (ip l k b)=some (bif !b&&mJ l k then((bT l k).Text,ip l (k+1) b)else([],ip l k true)):=by
 have hN:M.Ad (bT l k).Text=some (ib (bT l k).Text&& !decide (0<dJ (bT l k).Text)):=by
  unfold M.Ad;rw[E5,E1 _ (EZ hT hk)];simp only[av,aw,bo,al,ad]
 have hlen:=h.len;have w:=bS (k:=k) hk (by omega:l.length<2^62);have e1:M.Ae 1 (ip l k b)=some (bif !b&&mJ l k then((bT l k).Text,ip l (k+1) b)else([],ip l k true)):=by
  unfold M.Ae mJ gP ip;have e:l.getD k aj.zero=bT l k:=rfl;simp only[kj hk,bP,e,hN,w,av,aw,Bool.and_assoc];cases b
  ·cases hk1:((bT l k).Kind==(1:Int))
   ·rw[show((bT l k).Kind !=(1:Int))=true by rw[bne,hk1];rfl];rfl
   ·rw[show((bT l k).Kind !=(1:Int))=false by rw[bne,hk1];rfl];cases (ib (bT l k).Text&& !decide (0<dJ (bT l k).Text))<;>rfl
  ·rfl
 unfold M.mK;rw[e1];rfl
theorem MP{l:List aj}(h:bW l)(hT:∀t∈l,t.Text.length<=30000){k:Nat}(hk:k<l.length)(b:Bool):M.mL (sp l k b)=some (bif !b&&mJ l k then((bT l k).Text,sp l (k+1) b)else([],sp l k true)):=by
 unfold M.mL mJ;rw[lD hk b];simp only[av,aw,ajp,al];cases hr:decide (0<dJ (bT l k).Text)
 ·simp only[ak,xm h hT hk b,av,aw,al,ad,bw,cT]
 ·have e:aC.mk (aC.list (sp l k b)) (aC.at_ (sp l k b)) true=sp l k true:=rfl;simp only[ad,e,xm h hT hk true,av,aw,al,bM,cG,Bool.and_false,ak]
theorem ajq{l:List aj}(h:bW l)(hT:∀t∈l,t.Text.length<=30000){k:Nat}(hk:k<l.length)(b:Bool):M.sy (ip l k b)=some (bif !b&&sx l k then((bT l k).Text,ip l (k+1) b)else([],ip l k true)):=by
 have hN:=MQ (bT l k).Text (EZ hT hk);have hlen:=h.len;have w:=bS (k:=k) hk (by omega:l.length<2^62);have e1:M.Af 2 (ip l k b)=some (bif !b&&sx l k then((bT l k).Text,ip l (k+1) b)else([],ip l k true)):=by
  unfold M.Af sx ip;have e:l.getD k aj.zero=bT l k:=rfl;simp only[kj hk,bP,e,hN,w,av,aw];cases b
  ·cases hk1:((bT l k).Kind==(2:Int))
   ·rw[show((bT l k).Kind !=(2:Int))=true by rw[bne,hk1];rfl];rfl
   ·rw[show((bT l k).Kind !=(2:Int))=false by rw[bne,hk1];rfl];cases km (bT l k).Text<;>rfl
  ·rfl
 unfold M.sy;rw[e1];rfl
theorem ajr{l:List aj}(h:bW l){k:Nat}(hk:k<l.length)(b:Bool):M.sB (sp l k b)=some (bif !b&&sx l k then((bT l k).Text,sp l (k+1) b)else([],sp l k true)):=by
 have hN:=Tn (bT l k).Text;unfold M.sB sx;rw[lD hk b];simp only[av,aw,hN,bo,al,ad];have e:aC.bad (sp l k b)=b:=rfl;rw[e];cases b
 ·cases hk1:((bT l k).Kind==(2:Int))
  ·rw[show((bT l k).Kind !=(2:Int))=true by rw[bne,hk1];rfl];rfl
  ·rw[show((bT l k).Kind !=(2:Int))=false by rw[bne,hk1];rfl];cases km (bT l k).Text
   ·rfl
   ·have hn:k+1<l.length:=h.next hk (by
     have:(bT l k).Kind=2:=by simpa using hk1
     unfold bT at this;rw[this];decide)
    simp only[MM h hn,av,aw];rfl
 ·rfl
end M
namespace M
open Go.V (inB bV ah bq)
inductive PR (α:Type) where
 |ok (v:α) (k:Nat)
 |no (k:Nat)
def PR.bind{α β:Type}(r:PR α)(f:α->Nat->PR β):PR β:=match r with
 |.ok v k=>f v k
 |.no k=>.no k
def cq(l:List aj)(text:List UInt8)(k:Nat):PR Unit:=bif aH l text k then .ok () (k+1)else .no k
def gQ(l:List aj)(k:Nat):PR (List UInt8):=bif gP l k then .ok (bT l k).Text (k+1)else .no k
def ma(l:List aj)(k:Nat):PR (List UInt8):=bif mJ l k then .ok (bT l k).Text (k+1)else .no k
def E7(l:List aj)(k:Nat):PR (List UInt8):=bif sx l k then .ok (bT l k).Text (k+1)else .no k
def dV{α:Type}(l:List aj)(el:Nat->PR α):Nat->List α->Nat->PR (List α)
 |m,acc,k=>match el k with
  |.no k'=>.no k'
  |.ok v k1=>match m with
    |0=>.ok (acc++[v]) k1
    |m+1=>bif aH l [44] k1 then dV l el m (acc++[v]) (k1+1)else .ok (acc++[v]) k1
def dG:aa:=aa.mk 1 [] [] []
def gB(l:List aj)(K:Int)(term:Nat->PR aa)(k:Nat):PR (List UInt8×List aa):=
 (gQ l k).bind fun nm k1=>
   bif K==16 then(cq l [58] k1).bind fun _ k2=>(term k2).bind fun t k3=>.ok (nm,[t]) k3
   else bif K==17 then(bif aH l [40] k1 then(term (k1+1)).bind fun t k3=>(cq l [41] k3).bind fun _ k4=>.ok (nm,[t]) k4 else .ok (nm,[dG]) k1)
   else .ok (nm,[]) k1
def nH(l:List aj)(term:Nat->PR aa)(k:Nat):PR (List aa):=
 bif aH l [60] k then
  (bif aH l [95] (k+1)then .ok dG (k+2)else term (k+1)).bind fun a k1=>
    (bif aH l [44] k1 then term (k1+1)else .ok dG k1).bind fun b k2=>(cq l [62] k2).bind fun _ k3=>.ok [a,b] k3
 else .ok [dG,dG] k
def dY(l:List aj):Nat->Nat->PR aa
 |0,k=>.no k
 |d+1,k=>(gQ l k).bind fun w k1=>
  bif dJ w==0 then .ok (aa.mk 30 w [] []) k1
  else bif(dJ w==12)||((dJ w==13)||((dJ w==22)||(dJ w==23)))then(cq l [60] k1).bind fun _ k2=>(dY l d k2).bind fun t k3=>(cq l [62] k3).bind fun _ k4=>.ok (aa.mk (dJ w) [] [] [t]) k4
  else bif dJ w==15 then(cq l [60] k1).bind fun _ k2=>(dV l (dY l d) 5 [] k2).bind fun ts k3=>(cq l [62] k3).bind fun _ k4=>.ok (aa.mk (dJ w) [] [] ts) k4
  else bif(dJ w==20)||(dJ w==21)then(cq l [60] k1).bind fun _ k2=>(ma l k2).bind fun nm k3=>(cq l [62] k3).bind fun _ k4=>.ok (aa.mk (dJ w) nm [] []) k4
  else bif dJ w==14 then(nH l (dY l d) k1).bind fun ts k2=>.ok (aa.mk (dJ w) [] [] ts) k2
  else bif(dJ w==16)||((dJ w==17)||((dJ w==18)||(dJ w==19)))then(cq l [123] k1).bind fun _ k2=>(dV l (gB l (dJ w) (dY l d)) 15 [] k2).bind fun ps k3=>(cq l [125] k3).bind fun _ k4=>.ok (aa.mk (dJ w) [] (ps.map (·.1)) (ps.map (·.2)).flatten) k4
  else .ok (aa.mk (dJ w) [] [] []) k1
def Out{α β:Type}(l:List aj)(r:PR α)(o:Option β)(F:α->Nat->Bool->β):Prop:=match r with
 |.ok v k=>k<l.length/\o=some (F v k false)
 |.no k=>k<l.length/\∃v,o=some (F v k true)
def RB{α:Type}(b:Bool)(k:Nat)(r:PR α):PR α:=bif b then .no k else r
theorem cP(c:UInt8)(h:fu c=false):sr [c]:=fun d r e=>by cases e;exact h
def oQ(l:List aj)(rec:Int->ar->Option (aa×ar))(lv:Int)(g:Nat->PR aa):Prop:=
 ∀k b,k<l.length->Out l (RB b k (g k)) (rec lv (ip l k b)) fun v k' b'=>(v,ip l k' b')
theorem mc{α:Type}(l:List α)(x y:α):(l++[x]).set (Int.toNat ((l.length:Nat):Int)) y=l++[y]:=by
 rw[bP,List.set_append_right _ _ (ct _),DN];rfl
theorem lE{α:Type}(l:List α)(x:α):inB ((l.length:Nat):Int) (l++[x]).length=true:=by rw[dA];simp
theorem dH{α:Type}{l:List α}{x:α}(h:l.length<=1000):decide (l.length+[x].length<=1073741824)=true:=by
 rw[bU,List.length_singleton];omega
theorem qG{l:List aj}{rec:Int->ar->Option (aa×ar)}{g:Nat->PR aa}{K lv:Int}{nm:List UInt8}{ls:List (List UInt8)}{ks:List aa}(hr:oQ l rec (Go.IntKind.wrap .i64 (lv+1)) g)
 (hks:ks.length<=1000) {k:Nat} (hk:k<l.length) (b:Bool):
 Out l (RB b k (g k)) (M.lF rec K nm lv ls ks l (k:Int) b) fun v k' b'=>(K,nm,lv,l,(k':Int),b',ls,ks++[v]):=by
 have h:=hr k b hk;unfold M.lF;have e:ar.mk l (k:Int) b=ip l k b:=rfl;rw[e];unfold Out at h⊢;cases hg:RB b k (g k)with
 |ok v k'=>
  rw[hg]at h;obtain⟨h1,h2⟩:=h;refine⟨h1,?_⟩;simp only[h2,lE,dH hks,aw,av,al,ad,mc,aa.aB];rfl
 |no k'=>
  rw[hg]at h;obtain⟨h1,v,h2⟩:=h;refine⟨h1,v,?_⟩;simp only[h2,lE,dH hks,aw,av,al,ad,mc,aa.aB];rfl
theorem ajs{l:List aj}(hL:bW l){rec:Int->ar->Option (aa×ar)}{g:Nat->PR aa}{K lv:Int}{nm:List UInt8}{ls:List (List UInt8)}(hr:oQ l rec (Go.IntKind.wrap .i64 (lv+1)) g)
 (most:Nat) (hm:most<=100):∀(f m:Nat)(ks:List aa)(k:Nat),m<f->k<l.length->ks.length+(m+1)<=most->
 Out l (dV l g m ks k) ((M.qH rec (most:Int) f ((most-m:Nat):Int) (ip l k false) K nm lv ls ks).map fun r=>match r with
  |.inl x=>x
  |.inr x=>x) fun vs k' b'=>(l,(k':Int),b',K,nm,lv,ls,vs):=by
 intro f
 induction f with
 |zero=>intro m ks k h;omega
 |succ f ih=>
  intro m ks k hf hk hks;rw[M.qH,dV];have eb:ar.bad (ip l k false)=false:=rfl;have el:ar.list (ip l k false)=l:=rfl;have ea:ar.at_ (ip l k false)=(k:Int):=rfl;simp only[eb,el,ea,bw,ad];have cg:=qG (K:=K) (lv:=lv) (nm:=nm) (ls:=ls) (ks:=ks) hr (by omega) hk false;unfold Out at cg;rw[show RB false k (g k)=g k from rfl]at cg;cases hg:g k with
  |no k'=>
   rw[hg]at cg;obtain⟨h1,v,h2⟩:=cg;refine⟨h1,ks++[v],?_⟩;simp only[h2,aw,av,bo,ad,al,da];rfl
  |ok v k'=>
   rw[hg]at cg;obtain⟨h1,h2⟩:=cg;cases m with
   |zero=>
    have e:(((most-0:Nat):Int)==(most:Int))=true:=by rw[cA];omega
    refine⟨h1,?_⟩;simp only[h2,e,aw,av,jV,ad,al,da];rfl
   |succ m=>
    have e:(((most-(m+1):Nat):Int)==(most:Int))=false:=by rw[cM];omega
    have ht:=iP hL h1 (cP 44 (by decide)) false;have ep:ar.mk l (k':Int) false=ip l k' false:=rfl;simp only[h2,e,ep,ht,aw,av,jV,ak,ad,al,da,bw,bA];cases hb:aH l [44] k'
    ·exact⟨h1,rfl⟩
    ·have hw:Go.IntKind.wrap .i64 (((most-(m+1):Nat):Int)+1)=((most-m:Nat):Int):=by rw[wrap_i64 (by omega) (by omega)];omega
     simp only[ad,bM,ak,hw];exact ih m (ks++[v]) (k'+1) (by omega) (cU hL h1 hb) (by rw[aR,List.length_singleton];omega)
theorem To{l:List aj}(hL:bW l){rec:Int->ar->Option (aa×ar)}{g:Nat->PR aa}{K lv:Int}{nm:List UInt8}{ls:List (List UInt8)}(hr:oQ l rec (Go.IntKind.wrap .i64 (lv+1)) g)
 {k:Nat} (hk:k<l.length) (b:Bool):Out l (RB b k (dV l g 5 [] k)) (M.xn rec 6 (ip l k b) K nm lv ls []) fun vs k' b'=>(ip l k' b',K,nm,lv,ls,vs):=by
 cases b with
 |true=>
  refine⟨hk,[],?_⟩;obtain⟨n,hn⟩:∃n,ah=n+1:=⟨ah-1,by have:=bq;omega⟩;unfold M.xn;rw[hn,M.qH];rfl
 |false=>
  have e:=ajs hL (K:=K) (lv:=lv) (nm:=nm) (ls:=ls) hr 6 (by omega) ah 5 [] k (by have:=bq;omega) hk (by simp);have hs:((6-5:Nat):Int)=1:=by decide
  rw[hs]at e;rw[show RB false k (dV l g 5 [] k)=dV l g 5 [] k from rfl];unfold M.xn;unfold Out at e⊢;cases hc:dV l g 5 [] k with
  |ok v k'=>
   rw[hc]at e;obtain⟨h1,h2⟩:=e;refine⟨h1,?_⟩;cases ho:M.qH rec 6 ah 1 (ip l k false) K nm lv ls []with
   |none=>rw[show((6:Nat):Int)=6 from rfl,ho]at h2;cases h2
   |some r=>
    rw[show((6:Nat):Int)=6 from rfl,ho]at h2;cases r<;>(simp only[iC,ax]at h2;rw[h2];rfl)
  |no k'=>
   rw[hc]at e;obtain⟨h1,v,h2⟩:=e;refine⟨h1,v,?_⟩;cases ho:M.qH rec 6 ah 1 (ip l k false) K nm lv ls []with
   |none=>rw[show((6:Nat):Int)=6 from rfl,ho]at h2;cases h2
   |some r=>
    rw[show((6:Nat):Int)=6 from rfl,ho]at h2;cases r<;>(simp only[iC,ax]at h2;rw[h2];rfl)
end M
namespace M
open Go.V (inB bV ah bq)
def oR(l:List aj)(K:Int)(term:Nat->PR aa)(nm:List UInt8)(k1:Nat):PR (List UInt8×List aa):=
    bif K==16 then(cq l [58] k1).bind fun _ k2=>(term k2).bind fun t k3=>.ok (nm,[t]) k3
    else bif K==17 then(bif aH l [40] k1 then(term (k1+1)).bind fun t k3=>(cq l [41] k3).bind fun _ k4=>.ok (nm,[t]) k4 else .ok (nm,[dG]) k1)
    else .ok (nm,[]) k1
theorem E8(l:List aj)(K:Int)(term:Nat->PR aa)(k:Nat):gB l K term k=(gQ l k).bind (oR l K term):=rfl
theorem Tq{l:List aj}(hL:bW l){rec:Int->ar->Option (aa×ar)}{g:Nat->PR aa}{K lv:Int}{nm:List UInt8}{ls:List (List UInt8)}{ks:List aa}(hr:oQ l rec (Go.IntKind.wrap .i64 (lv+1)) g)
 (hls:ls.length<=1000) (hks:ks.length<=1000) {p:ar} {w:List UInt8} {k1:Nat} {b1:Bool} (hname:M.gA p=some (w,ip l k1 b1)) (hk:k1<l.length):
 Out l (RB b1 k1 (oR l K g w k1)) (M.xo rec p K nm lv ls ks) fun v k' b'=>(ip l k' b',K,nm,lv,ls++[v.1],ks++v.2):=by
 unfold M.xo oR;simp only[hname,dH hls,aw,av,al];have el:∀k b,ar.list (ip l k b)=l:=fun _ _=>rfl
 have ea:∀k b,ar.at_ (ip l k b)=(k:Int):=fun _ _=>rfl
 have eb:∀k b,ar.bad (ip l k b)=b:=fun _ _=>rfl
 have ep:∀(k:Nat) b,ar.mk l (k:Int) b=ip l k b:=fun _ _=>rfl
 cases h16:(K==(16:Int))
 ·cases h17:(K==(17:Int))
  ·
   simp only[ak,da,al,ad];cases b1
   ·exact⟨hk,by simp⟩
   ·exact⟨hk,(w,[]),by simp⟩
  ·simp only[ak,ad,iP hL hk (cP 40 (by decide)) b1,aw,av,da,al];cases hc:(!b1&&aH l [40] k1)
   ·simp only[ak,lE,dH hks,al,ad,mc];cases b1
    ·have:aH l [40] k1=false:=by simpa using hc
     rw[this];exact⟨hk,rfl⟩
    ·exact⟨hk,(w,[dG]),rfl⟩
   ·rw[bB,fK]at hc;obtain⟨hb1,hc⟩:=hc;subst hb1;rw[hc];simp only[ad,el,ea,eb];have hk2:=cU hL hk hc;have cg:=qG (K:=K) (lv:=lv) (nm:=nm) (ls:=ls++[w]) (ks:=ks) hr hks hk2 false;rw[show RB false (k1+1) (g (k1+1))=g (k1+1)from rfl]at cg;rw[show ∀r:PR (List UInt8×List aa),RB false k1 r=r from fun _=>rfl];cases hg:g (k1+1)with
    |no k'=>
     rw[hg]at cg;obtain⟨h1,v,h2⟩:=cg;refine⟨h1,(w,[v]),?_⟩;simp only[h2,ep,eY hL h1 (cP 41 (by decide)) true,aw,av,al,ad];rfl
    |ok v k'=>
     rw[hg]at cg;obtain⟨h1,h2⟩:=cg;simp only[h2,ep,eY hL h1 (cP 41 (by decide)) false,aw,av,al,ad,PR.bind,cq];cases hn:aH l [41] k'
     ·exact⟨h1,(w,[v]),rfl⟩
     ·exact⟨cU hL h1 hn,rfl⟩
 ·simp only[ad,eY hL hk (cP 58 (by decide)) b1,aw,av];cases hc:(!b1&&aH l [58] k1)
  ·simp only[ak,el,ea,eb];have cg:=qG (K:=K) (lv:=lv) (nm:=nm) (ls:=ls++[w]) (ks:=ks) hr hks hk true;obtain⟨h1,v,h2⟩:=cg;have:RB b1 k1 ((cq l [58] k1).bind fun _ k2=>(g k2).bind fun t k3=>PR.ok (w,[t]) k3)=PR.no k1:=by
    cases b1
    ·have:aH l [58] k1=false:=by simpa using hc
     unfold cq;rw[this];rfl
    ·rfl
   rw[this];refine⟨hk,(w,[v]),?_⟩;simp only[h2,ep,aw,av,al,ad]
  ·rw[bB,fK]at hc;obtain⟨hb1,hc⟩:=hc;subst hb1;have hk2:=cU hL hk hc;simp only[ad,el,ea,eb];have cg:=qG (K:=K) (lv:=lv) (nm:=nm) (ls:=ls++[w]) (ks:=ks) hr hks hk2 false;rw[show RB false (k1+1) (g (k1+1))=g (k1+1)from rfl]at cg;rw[show RB false k1 ((cq l [58] k1).bind fun _ k2=>(g k2).bind fun t k3=>PR.ok (w,[t]) k3)=(g (k1+1)).bind fun t k3=>PR.ok (w,[t]) k3 by unfold cq;rw[hc];rfl];cases hg:g (k1+1)with
   |no k'=>
    rw[hg]at cg;obtain⟨h1,v,h2⟩:=cg;refine⟨h1,(w,[v]),?_⟩;simp only[h2,ep,aw,av,al,ad]
   |ok v k'=>
    rw[hg]at cg;obtain⟨h1,h2⟩:=cg;refine⟨h1,?_⟩;simp only[h2,ep,aw,av,al,ad]
theorem ajt{l:List aj}(hL:bW l)(hT:∀t∈l,t.Text.length<=30000){rec:Int->ar->Option (aa×ar)}{g:Nat->PR aa}{K lv:Int}{nm:List UInt8}{ls:List (List UInt8)}{ks:List aa}(hr:oQ l rec (Go.IntKind.wrap .i64 (lv+1)) g)
 (hls:ls.length<=1000) (hks:ks.length<=1000) {k:Nat} (hk:k<l.length) (b:Bool):
 Out l (RB b k (gB l K g k)) (M.xo rec (ip l k b) K nm lv ls ks) fun v k' b'=>(ip l k' b',K,nm,lv,ls++[v.1],ks++v.2):=by
 have hn:=E0 hL hT hk b;cases hc:(!b&&gP l k)
 ·rw[hc]at hn;have h:=Tq hL (K:=K) (nm:=nm) hr hls hks hn hk;rw[E8];have:RB b k ((gQ l k).bind (oR l K g))=PR.no k:=by
   cases b
   ·have:gP l k=false:=by simpa using hc
    unfold gQ;rw[this];rfl
   ·rfl
  rw[this];exact h
 ·rw[hc]at hn;rw[bB,fK]at hc;obtain⟨hb,hc⟩:=hc;subst hb;have hk4:(l.getD k aj.zero).Kind≠4:=by
   unfold gP at hc;rw[bB,cA]at hc;have:=hc.1;unfold bT at this;rw[this];decide
  have h:=Tq hL (K:=K) (nm:=nm) hr hls hks hn (hL.next hk hk4);rw[E8];have:RB false k ((gQ l k).bind (oR l K g))=RB false (k+1) (oR l K g (bT l k).Text (k+1)):=by
   unfold gQ;rw[hc];rfl
  rw[this];exact h
end M
namespace M
open Go.V (inB bV ah bq)
theorem aju{l:List aj}{K:Int}{g:Nat->PR aa}{w:List UInt8}{k k':Nat}{v:List UInt8×List aa}(h:oR l K g w k=.ok v k'):v.2.length<=1:=by
 unfold oR at h;cases h16:(K==(16:Int))<;>rw[h16]at h
 ·cases h17:(K==(17:Int))<;>rw[h17]at h
  ·cases h;simp
  ·simp only[ak,ad]at h;cases hc:aH l [40] k<;>rw[hc]at h
   ·cases h;simp
   ·simp only[ad]at h;cases hg:g (k+1)with
    |no q=>rw[hg]at h;cases h
    |ok t q=>
     rw[hg]at h;simp only[PR.bind,cq]at h;cases hn:aH l [41] q<;>rw[hn]at h<;>cases h;simp
 ·simp only[ad,cq]at h;cases hc:aH l [58] k<;>rw[hc]at h
  ·cases h
  ·simp only[ad,PR.bind]at h;cases hg:g (k+1)with
   |no q=>rw[hg]at h;cases h
   |ok t q=>rw[hg]at h;cases h;simp
theorem Tt{l:List aj}{K:Int}{g:Nat->PR aa}{k k':Nat}{v:List UInt8×List aa}(h:gB l K g k=.ok v k'):v.2.length<=1:=by
 rw[E8]at h;unfold gQ at h;cases hn:gP l k<;>rw[hn]at h
 ·cases h
 ·exact aju h
theorem MR{α β:Type}:∀(ps:List (α×List β)),(∀p∈ps,p.2.length<=1)->(ps.map (·.2)).flatten.length<=ps.length
 |[],_=>ct _
 |p::r,h=>by
  have h1:=h p (by simp);have h2:=MR r fun q hq=>h q (by simp[hq])
  simp only[eN,List.flatten_cons,aR,aU];omega
theorem ajv{l:List aj}(hL:bW l)(hT:∀t∈l,t.Text.length<=30000){rec:Int->ar->Option (aa×ar)}{g:Nat->PR aa}{K lv:Int}{nm:List UInt8}(hr:oQ l rec (Go.IntKind.wrap .i64 (lv+1)) g)
 (most:Nat) (hm:most<=100):∀(f m:Nat)(ps:List (List UInt8×List aa))(k:Nat),m<f->k<l.length->ps.length+(m+1)<=most->(∀p∈ps,p.2.length<=1)->
 Out l (dV l (gB l K g) m ps k) ((M.qI rec (most:Int) f ((most-m:Nat):Int) (ip l k false) K nm lv (ps.map (·.1)) (ps.map (·.2)).flatten).map fun r=>match r with
  |.inl x=>x
  |.inr x=>x) fun vs k' b'=>(l,(k':Int),b',K,nm,lv,vs.map (·.1),(vs.map (·.2)).flatten):=by
 intro f
 induction f with
 |zero=>intro m ks k h;omega
 |succ f ih=>
  intro m ps k hf hk hps Ag;rw[M.qI,dV];have eb:∀k b,ar.bad (ip l k b)=b:=fun _ _=>rfl
  have el:∀k b,ar.list (ip l k b)=l:=fun _ _=>rfl
  have ea:∀k b,ar.at_ (ip l k b)=(k:Int):=fun _ _=>rfl
  have ep:∀(k:Nat) b,ar.mk l (k:Int) b=ip l k b:=fun _ _=>rfl
  have hfl:=MR ps Ag;have hlab:=ajt hL hT (K:=K) (lv:=lv) (nm:=nm) (ls:=ps.map (·.1)) (ks:=(ps.map (·.2)).flatten) hr (by rw[fk];omega) (by omega) hk false;rw[show RB false k (gB l K g k)=gB l K g k from rfl]at hlab;have mA:∀v:List UInt8×List aa,ps.map (·.1)++[v.1]=(ps++[v]).map (·.1):=fun v=>by rw[yW];rfl
  have mB:∀v:List UInt8×List aa,(ps.map (·.2)).flatten++v.2=((ps++[v]).map (·.2)).flatten:=fun v=>by rw[yW,List.flatten_append];simp
  unfold M.E9;simp only[eb,el,ea,ep,bw,ad];cases hg:gB l K g k with
  |no k'=>
   rw[hg]at hlab;obtain⟨h1,v,h2⟩:=hlab;refine⟨h1,ps++[v],?_⟩;simp only[h2,aw,av,bo,ad,al,da,eb,el,ea,mA,mB];rfl
  |ok v k'=>
   have hv:=Tt hg;rw[hg]at hlab;obtain⟨h1,h2⟩:=hlab;cases m with
   |zero=>
    have e:(((most-0:Nat):Int)==(most:Int))=true:=by rw[cA];omega
    refine⟨h1,?_⟩;simp only[h2,e,aw,av,jV,ad,al,da,eb,el,ea,mA,mB];rfl
   |succ m=>
    have e:(((most-(m+1):Nat):Int)==(most:Int))=false:=by rw[cM];omega
    have ht:=iP hL h1 (cP 44 (by decide)) false;simp only[h2,e,ep,ht,aw,av,jV,ak,ad,al,da,bw,bA,eb,el,ea,mA,mB];cases hb:aH l [44] k'
    ·exact⟨h1,rfl⟩
    ·have hw:Go.IntKind.wrap .i64 (((most-(m+1):Nat):Int)+1)=((most-m:Nat):Int):=by rw[wrap_i64 (by omega) (by omega)];omega
     simp only[ad,bM,ak,hw];exact ih m (ps++[v]) (k'+1) (by omega) (cU hL h1 hb) (by rw[aR,List.length_singleton];omega) (fun p hp=>by
      rcases dN.1 hp with q|q
      ·exact Ag p q
      ·rw[jj]at q;rw[q];exact hv)
theorem Tu{l:List aj}(hL:bW l)(hT:∀t∈l,t.Text.length<=30000){rec:Int->ar->Option (aa×ar)}{g:Nat->PR aa}{K lv:Int}{nm:List UInt8}(hr:oQ l rec (Go.IntKind.wrap .i64 (lv+1)) g)
 {k:Nat} (hk:k<l.length) (b:Bool):Out l (RB b k (dV l (gB l K g) 15 [] k)) (M.xp rec 16 (ip l k b) K nm [] [] lv) fun vs k' b'=>(ip l k' b',K,nm,lv,vs.map (·.1),(vs.map (·.2)).flatten):=by
 cases b with
 |true=>
  refine⟨hk,[],?_⟩;obtain⟨n,hn⟩:∃n,ah=n+1:=⟨ah-1,by have:=bq;omega⟩;unfold M.xp;rw[hn,M.qI];rfl
 |false=>
  have e:=ajv hL hT (K:=K) (lv:=lv) (nm:=nm) hr 16 (by omega) ah 15 [] k (by have:=bq;omega) hk (by simp) (by simp);have hs:((16-15:Nat):Int)=1:=by decide
  rw[hs]at e;rw[show RB false k (dV l (gB l K g) 15 [] k)=dV l (gB l K g) 15 [] k from rfl];unfold M.xp;unfold Out at e⊢;have e16:((16:Nat):Int)=16:=rfl;have n1:List.map (fun x:List UInt8×List aa=>x.1) []=[]:=rfl;have n2:(List.map (fun x:List UInt8×List aa=>x.2) []).flatten=[]:=rfl;rw[e16,n1,n2]at e;cases hc:dV l (gB l K g) 15 [] k with
  |ok v k'=>
   rw[hc]at e;obtain⟨h1,h2⟩:=e;refine⟨h1,?_⟩;cases ho:M.qI rec 16 ah 1 (ip l k false) K nm lv [] []with
   |none=>rw[ho]at h2;cases h2
   |some r=>
    rw[ho]at h2;cases r<;>(simp only[iC,ax]at h2;rw[h2];rfl)
  |no k'=>
   rw[hc]at e;obtain⟨h1,v,h2⟩:=e;refine⟨h1,v,?_⟩;cases ho:M.qI rec 16 ah 1 (ip l k false) K nm lv [] []with
   |none=>rw[ho]at h2;cases h2
   |some r=>
    rw[ho]at h2;cases r<;>(simp only[iC,ax]at h2;rw[h2];rfl)
theorem Fa(K:Int)(nm:List UInt8)(ls:List (List UInt8))(ks:List aa)(h:ks.length<=2):M.lG K nm ls ah ks=some (K,nm,ls,ks++List.replicate (2-ks.length) dG):=by
 have step:∀f (ks:List aa),ks.length<2->M.lG K nm ls (f+1) ks=M.lG K nm ls f (ks++[dG]):=fun f ks hk=>by
  rw[M.lG,db (show((ks.length:Nat):Int)<2 by omega)];simp only[lE,dH (show ks.length<=1000 by omega),al,ad,mc];rfl
 have stop:∀f (ks:List aa),ks.length=2->M.lG K nm ls (f+1) ks=some (K,nm,ls,ks):=fun f ks hk=>by
  rw[M.lG,cQ (show ¬((ks.length:Nat):Int)<2 by omega)];rfl
 obtain⟨n,hn⟩:∃n,ah=n+3:=⟨ah-3,by have:=bq;omega⟩;rw[hn];have:ks.length=0\/ks.length=1\/ks.length=2:=by omega
 rcases this with q|q|q
 ·rw[step _ _ (by omega),step _ _ (by rw[aR,List.length_singleton];omega),stop _ _ (by simp[q]),q];simp[List.replicate]
 ·rw[step _ _ (by omega),stop _ _ (by simp[q]),q];rfl
 ·rw[stop _ _ q,q];simp
theorem ajw{l:List aj}(hL:bW l){rec:Int->ar->Option (aa×ar)}{g:Nat->PR aa}{K lv:Int}{nm:List UInt8}{ls:List (List UInt8)}(hr:oQ l rec (Go.IntKind.wrap .i64 (lv+1)) g)
 {k:Nat} (hk:k<l.length):Out l (nH l g k) (M.Ah rec (ip l k false) K nm lv ls []) fun ts k' b'=>(ip l k' b',K,nm,lv,ls,ts):=by
 have eb:∀k b,ar.bad (ip l k b)=b:=fun _ _=>rfl
 have el:∀k b,ar.list (ip l k b)=l:=fun _ _=>rfl
 have ea:∀k b,ar.at_ (ip l k b)=(k:Int):=fun _ _=>rfl
 have ep:∀(k:Nat) b,ar.mk l (k:Int) b=ip l k b:=fun _ _=>rfl
 have p0:=Fa K nm ls [] (by simp);have pU:=Fa K nm ls [dG] (by simp);have p1:=fun a:aa=>Fa K nm ls [a] (by simp)
 have p2:=fun a b:aa=>Fa K nm ls [a,b] (by simp)
 have s0:∀x y:aa,([]++[x]:List aa).set (Int.toNat ((([]:List aa).length:Nat):Int)) y=[y]:=fun x y=>rfl
 have i0:∀x:aa,inB ((([]:List aa).length:Nat):Int) ([]++[x]:List aa).length=true:=fun x=>lE [] x
 have c0:∀x:aa,decide ((([]:List aa).length)+[x].length<=1073741824)=true:=fun x=>by simp
 have r2:∀a b:aa,[a,b]++List.replicate (2-[a,b].length) dG=[a,b]:=fun a b=>rfl
 have r1:∀a:aa,[a]++List.replicate (2-[a].length) dG=[a,dG]:=fun a=>rfl
 have r0:([]:List aa)++List.replicate (2-([]:List aa).length) dG=[dG,dG]:=rfl;rw[r0]at p0;simp only[r1]at p1 pU;simp only[r2]at p2;unfold M.Ah nH;simp only[iP hL hk (cP 60 (by decide)) false,aw,av,bw,bA,al];cases h60:aH l [60] k
 ·simp only[ak,p0,ad];exact⟨hk,rfl⟩
 ·have hk1:=cU hL hk h60;simp only[ad,iP hL hk1 (cP 95 (by decide)) false,aw,av,bw,bA,al];cases h95:aH l [95] (k+1)
  ·simp only[ak,el,ea,eb];have cg:=qG (K:=K) (lv:=lv) (nm:=nm) (ls:=ls) (ks:=[]) hr (by simp) hk1 false;rw[show RB false (k+1) (g (k+1))=g (k+1)from rfl]at cg;cases hg:g (k+1)with
   |no k'=>
    rw[hg]at cg;obtain⟨h1,v,h2⟩:=cg;refine⟨h1,[v,dG],?_⟩;simp only[h2,ep,iP hL h1 (cP 44 (by decide)) true,eY hL h1 (cP 62 (by decide)) true,aw,av,bM,cG,ak,fA,p1,al,ad]
   |ok a k'=>
    rw[hg]at cg;obtain⟨h1,h2⟩:=cg;simp only[h2,ep,iP hL h1 (cP 44 (by decide)) false,aw,av,bw,bA,fA,al,PR.bind];cases iQ:aH l [44] k'
    ·simp only[ak,p1,eY hL h1 (cP 62 (by decide)) false,aw,av,bw,bA,al,ad,cq];cases eQ:aH l [62] k'
     ·exact⟨h1,[a,dG],rfl⟩
     ·exact⟨cU hL h1 eQ,rfl⟩
    ·have hk2:=cU hL h1 iQ;simp only[ad,el,ea,eb];have nI:=qG (K:=K) (lv:=lv) (nm:=nm) (ls:=ls) (ks:=[a]) hr (by simp) hk2 false;rw[show RB false (k'+1) (g (k'+1))=g (k'+1)from rfl]at nI;cases hg2:g (k'+1)with
     |no k2=>
      rw[hg2]at nI;obtain⟨q1,v,q2⟩:=nI;refine⟨q1,[a,v],?_⟩;simp only[q2,ep,eY hL q1 (cP 62 (by decide)) true,aw,av,bM,cG,ak,List.singleton_append,p2,al,ad]
     |ok c k2=>
      rw[hg2]at nI;obtain⟨q1,q2⟩:=nI;simp only[q2,ep,eY hL q1 (cP 62 (by decide)) false,aw,av,bw,bA,List.singleton_append,p2,al,ad,cq];cases eQ:aH l [62] k2
      ·exact⟨q1,[a,c],rfl⟩
      ·exact⟨cU hL q1 eQ,rfl⟩
  ·have nJ:=cU hL hk1 h95;simp only[ad,iP hL nJ (cP 44 (by decide)) false,aw,av,bw,bA,al,i0,c0,s0,PR.bind];rw[show aa.mk 1 [] [] []=dG from rfl,show k+1+1=k+2 from rfl]at*;cases iQ:aH l [44] (k+2)
   ·simp only[ak,pU,eY hL nJ (cP 62 (by decide)) false,aw,av,bw,bA,al,ad,cq];cases eQ:aH l [62] (k+2)
    ·exact⟨nJ,[dG,dG],rfl⟩
    ·exact⟨cU hL nJ eQ,rfl⟩
   ·have hk2:=cU hL nJ iQ;simp only[ad,el,ea,eb];have nI:=qG (K:=K) (lv:=lv) (nm:=nm) (ls:=ls) (ks:=[dG]) hr (by simp) hk2 false;rw[show RB false (k+2+1) (g (k+2+1))=g (k+2+1)from rfl]at nI;cases hg2:g (k+2+1)with
    |no k2=>
     rw[hg2]at nI;obtain⟨q1,v,q2⟩:=nI;refine⟨q1,[dG,v],?_⟩;simp only[q2,ep,eY hL q1 (cP 62 (by decide)) true,aw,av,bM,cG,ak,List.singleton_append,p2,al,ad]
    |ok c k2=>
     rw[hg2]at nI;obtain⟨q1,q2⟩:=nI;simp only[q2,ep,eY hL q1 (cP 62 (by decide)) false,aw,av,bw,bA,List.singleton_append,p2,al,ad,cq];cases eQ:aH l [62] k2
     ·exact⟨q1,[dG,c],rfl⟩
     ·exact⟨cU hL q1 eQ,rfl⟩
end M
namespace M
open Go.V (inB bV ah bq)
theorem ajx:Option.getD M.fN Inhabited.default=[]::words:=by rw[E2];rfl
theorem ajy:Option.isSome M.fN=true:=by rw[E2];rfl
theorem xq{l:List aj}(hL:bW l){k:Nat}(hk:k<l.length)(h:gP l k=true):k+1<l.length:=by
 refine hL.next hk ?_;unfold gP at h;rw[bB,cA]at h;have:=h.1;unfold bT at this;rw[this];decide
theorem Fb{l:List aj}(hL:bW l){k:Nat}(hk:k<l.length)(h:mJ l k=true):k+1<l.length:=by
 unfold mJ at h;rw[bB]at h;exact xq hL hk h.1
theorem ajz(rec:Int->ar->Option (aa×ar)){l:List aj}(hL:bW l)(hT:∀t∈l,t.Text.length<=30000)(lv:Int){k:Nat}(hk:k<l.length):
 ∃v,M.sC rec lv (ip l k true)=some (v,ip l k true):=by
 unfold M.sC;cases decide ((4:Int)<lv)
 ·have hn:=E0 hL hT hk true;have hr:M.qF []=some false:=by rw[E5,Ab];rfl
  refine⟨aa.mk 30 [] [] [],?_⟩;simp only[ak,hn,bM,cG,av,aw,hr,bw,al,ad]
 ·exact⟨aa.mk 30 [] [] [],rfl⟩
theorem ajA{l:List aj}(hL:bW l)(hT:∀t∈l,t.Text.length<=30000){rec:Int->ar->Option (aa×ar)}{lv:Int}{d:Nat}(hlv:lv<=4)(hr:oQ l rec (Go.IntKind.wrap .i64 (lv+1)) (dY l d))
 {k:Nat} (hk:k<l.length):Out l (dY l (d+1) k) (M.sC rec lv (ip l k false)) fun v k' b'=>(v,ip l k' b'):=by
 have el:∀k b,ar.list (ip l k b)=l:=fun _ _=>rfl
 have ea:∀k b,ar.at_ (ip l k b)=(k:Int):=fun _ _=>rfl
 have eb:∀k b,ar.bad (ip l k b)=b:=fun _ _=>rfl
 have ep:∀(k:Nat) b,ar.mk l (k:Int) b=ip l k b:=fun _ _=>rfl
 have hn:=E0 hL hT hk false;unfold M.sC;rw[cQ (show ¬(4:Int)<lv by omega),ak,dY,hn];unfold gQ;cases hnm:gP l k
 ·have hr:M.qF []=some false:=by rw[E5,Ab];rfl
  refine⟨hk,aa.mk 30 [] [] [],?_⟩;simp only[Bool.and_false,ak,av,aw,hr,bw,al,ad]
 ·have hk1:=xq hL hk hnm;simp only[bw,al,ad,av,aw,E5,PR.bind,ajx,ajy,Tm];generalize hw:(bT l k).Text=w;have hbd:=E3 w;by_cases h0:dJ w=0
  ·rw[h0];exact⟨hk1,rfl⟩
  ·have hne:w≠[]:=fun q=>h0 (by rw[q];exact Ab)
   rw[aX hne,aX h0,db (show 0<dJ w by omega),show(dJ w==0)=false from cM.2 h0];simp only[bM,ak];generalize dJ w=K at*;have hb0:∀(x y:Bool),((true|| !x)&&(true||y))=true:=fun x y=>rfl
   by_cases hA:K=12\/K=13\/K=22\/K=23
   ·have c1:(bif K==12 then K==12 else bif K==13 then K==13 else bif K==22 then K==22 else K==23)=true:=by
     rcases hA with q|q|q|q<;>rw[q]<;>rfl
    have c2:((K==12)||((K==13)||((K==22)||(K==23))))=true:=by
     rcases hA with q|q|q|q<;>rw[q]<;>rfl
    rw[c1,c2];simp only[ad,eY hL hk1 (cP 60 (by decide)) false,aw,av,bw,bA,el,ea,eb,bo,al];unfold cq;cases h60:aH l [60] (k+1)
    ·simp only[ak,el,ea,eb];obtain⟨h1,v,h2⟩:=qG (K:=K) (lv:=lv) (nm:=[]) (ls:=[]) (ks:=[]) hr (by simp) hk1 true;refine⟨hk1,aa.mk K [] [] [v],?_⟩;simp only[h2,ep,eY hL hk1 (cP 62 (by decide)) true,aw,av,bM,cG,ak,bo,al,ad,fA]
    ·have hk2:=cU hL hk1 h60;simp only[ad,el,ea,eb];have cg:=qG (K:=K) (lv:=lv) (nm:=[]) (ls:=[]) (ks:=[]) hr (by simp) hk2 false;rw[show RB false (k+1+1) (dY l d (k+1+1))=dY l d (k+1+1)from rfl]at cg;cases hg:dY l d (k+1+1)with
     |no k'=>
      rw[hg]at cg;obtain⟨h1,v,h2⟩:=cg;refine⟨h1,aa.mk K [] [] [v],?_⟩;simp only[h2,ep,eY hL h1 (cP 62 (by decide)) true,aw,av,bM,cG,ak,bo,al,ad,fA]
     |ok v k'=>
      rw[hg]at cg;obtain⟨h1,h2⟩:=cg;simp only[h2,ep,eY hL h1 (cP 62 (by decide)) false,aw,av,bw,bA,bo,al,ad,fA];cases eQ:aH l [62] k'
      ·exact⟨h1,aa.mk K [] [] [v],rfl⟩
      ·exact⟨cU hL h1 eQ,rfl⟩
   ·have c1:(bif K==12 then K==12 else bif K==13 then K==13 else bif K==22 then K==22 else K==23)=false:=by
     have e1:(K==12)=false:=by rw[cM];omega
     have e2:(K==13)=false:=by rw[cM];omega
     have e3:(K==22)=false:=by rw[cM];omega
     have e4:(K==23)=false:=by rw[cM];omega
     rw[e1,e2,e3,e4];rfl
    have c2:((K==12)||((K==13)||((K==22)||(K==23))))=false:=by
     have e1:(K==12)=false:=by rw[cM];omega
     have e2:(K==13)=false:=by rw[cM];omega
     have e3:(K==22)=false:=by rw[cM];omega
     have e4:(K==23)=false:=by rw[cM];omega
     rw[e1,e2,e3,e4];rfl
    rw[c1,c2];simp only[ak,bo,al];by_cases h15:K=15
    ·rw[h15];simp only[Int.reduceBEq,ad,eY hL hk1 (cP 60 (by decide)) false,aw,av,bw,bA,bo,al];unfold cq;cases h60:aH l [60] (k+1)
     ·simp only[ak];obtain⟨h1,v,h2⟩:=To hL (K:=15) (lv:=lv) (nm:=[]) (ls:=[]) hr hk1 true;refine⟨hk1,aa.mk 15 [] [] v,?_⟩;simp only[h2,eY hL hk1 (cP 62 (by decide)) true,aw,av,bM,cG,ak,bo,al,ad]
     ·have hk2:=cU hL hk1 h60;simp only[ad];have cg:=To hL (K:=15) (lv:=lv) (nm:=[]) (ls:=[]) hr hk2 false;rw[show RB false (k+1+1) (dV l (dY l d) 5 [] (k+1+1))=dV l (dY l d) 5 [] (k+1+1)from rfl]at cg;cases hg:dV l (dY l d) 5 [] (k+1+1)with
      |no k'=>
       rw[hg]at cg;obtain⟨h1,v,h2⟩:=cg;refine⟨h1,aa.mk 15 [] [] v,?_⟩;simp only[h2,eY hL h1 (cP 62 (by decide)) true,aw,av,bM,cG,ak,bo,al,ad]
      |ok v k'=>
       rw[hg]at cg;obtain⟨h1,h2⟩:=cg;simp only[h2,eY hL h1 (cP 62 (by decide)) false,aw,av,bw,bA,bo,al,ad];cases eQ:aH l [62] k'
       ·exact⟨h1,aa.mk 15 [] [] v,rfl⟩
       ·exact⟨cU hL h1 eQ,rfl⟩
    ·rw[show(K==15)=false from cM.2 h15];simp only[ak];by_cases hB:K=20\/K=21
     ·have c1:(bif K==20 then K==20 else K==21)=true:=by rcases hB with q|q<;>rw[q]<;>rfl
      have c2:((K==20)||(K==21))=true:=by rcases hB with q|q<;>rw[q]<;>rfl
      rw[c1,c2];simp only[ad,eY hL hk1 (cP 60 (by decide)) false,aw,av,bw,bA,bo,al];unfold cq ma;cases h60:aH l [60] (k+1)
      ·refine⟨hk1,aa.mk K [] [] [],?_⟩;simp only[ak,MO hL hT hk1 true,eY hL hk1 (cP 62 (by decide)) true,aw,av,bM,cG,bo,al,ad]
      ·have hk2:=cU hL hk1 h60;simp only[ad,MO hL hT hk2 false,aw,av,bw,bA,bo,al];cases hid:mJ l (k+1+1)
       ·refine⟨hk2,aa.mk K [] [] [],?_⟩;simp only[ak,eY hL hk2 (cP 62 (by decide)) true,aw,av,bM,cG,bo,al,ad]
       ·have hk3:=Fb hL hk2 hid;simp only[ad,eY hL hk3 (cP 62 (by decide)) false,aw,av,bw,bA,bo,al];cases eQ:aH l [62] (k+1+1+1)
        ·exact⟨hk3,aa.mk K (bT l (k+1+1)).Text [] [],rfl⟩
        ·exact⟨cU hL hk3 eQ,rfl⟩
     ·have c1:(bif K==20 then K==20 else K==21)=false:=by
       have e1:(K==20)=false:=by rw[cM];omega
       have e2:(K==21)=false:=by rw[cM];omega
       rw[e1,e2];rfl
      have c2:((K==20)||(K==21))=false:=by
       have e1:(K==20)=false:=by rw[cM];omega
       have e2:(K==21)=false:=by rw[cM];omega
       rw[e1,e2];rfl
      rw[c1,c2];simp only[ak];by_cases u0:K=14
      ·rw[u0];simp only[Int.reduceBEq,ad];have cg:=ajw hL (K:=14) (lv:=lv) (nm:=[]) (ls:=[]) hr hk1;cases hg:nH l (dY l d) (k+1)with
       |no k'=>
        rw[hg]at cg;obtain⟨h1,v,h2⟩:=cg;refine⟨h1,aa.mk 14 [] [] v,?_⟩;simp only[h2,aw,av,bo,al,ad]
       |ok v k'=>
        rw[hg]at cg;obtain⟨h1,h2⟩:=cg;refine⟨h1,?_⟩;simp only[h2,aw,av,bo,al,ad]
      ·rw[show(K==14)=false from cM.2 u0];simp only[ak];by_cases hC:K=16\/K=17\/K=18\/K=19
       ·have c1:(bif K==16 then K==16 else bif K==17 then K==17 else bif K==18 then K==18 else K==19)=true:=by
         rcases hC with q|q|q|q<;>rw[q]<;>rfl
        have c2:((K==16)||((K==17)||((K==18)||(K==19))))=true:=by
         rcases hC with q|q|q|q<;>rw[q]<;>rfl
        rw[c1,c2];simp only[ad,eY hL hk1 (cP 123 (by decide)) false,aw,av,bw,bA,bo,al];unfold cq;cases h60:aH l [123] (k+1)
        ·simp only[ak];obtain⟨h1,v,h2⟩:=Tu hL hT (K:=K) (lv:=lv) (nm:=[]) hr hk1 true;refine⟨hk1,aa.mk K [] (v.map (·.1)) (v.map (·.2)).flatten,?_⟩;simp only[h2,eY hL hk1 (cP 125 (by decide)) true,aw,av,bM,cG,ak,bo,al,ad]
        ·have hk2:=cU hL hk1 h60;simp only[ad];have cg:=Tu hL hT (K:=K) (lv:=lv) (nm:=[]) hr hk2 false;rw[show ∀r:PR (List (List UInt8×List aa)),RB false (k+1+1) r=r from fun _=>rfl]at cg;cases hg:dV l (gB l K (dY l d)) 15 [] (k+1+1)with
         |no k'=>
          rw[hg]at cg;obtain⟨h1,v,h2⟩:=cg;refine⟨h1,aa.mk K [] (v.map (·.1)) (v.map (·.2)).flatten,?_⟩;simp only[h2,eY hL h1 (cP 125 (by decide)) true,aw,av,bM,cG,ak,bo,al,ad]
         |ok v k'=>
          rw[hg]at cg;obtain⟨h1,h2⟩:=cg;simp only[h2,eY hL h1 (cP 125 (by decide)) false,aw,av,bw,bA,bo,al,ad];cases eQ:aH l [125] k'
          ·exact⟨h1,aa.mk K [] (v.map (·.1)) (v.map (·.2)).flatten,rfl⟩
          ·exact⟨cU hL h1 eQ,rfl⟩
       ·have e1:(K==16)=false:=by rw[cM];omega
        have e2:(K==17)=false:=by rw[cM];omega
        have e3:(K==18)=false:=by rw[cM];omega
        have e4:(K==19)=false:=by rw[cM];omega
        rw[e1,e2,e3,e4];refine⟨hk1,?_⟩;simp only[ak,kH,bo,al,ad]
theorem Tv{l:List aj}(hL:bW l)(hT:∀t∈l,t.Text.length<=30000):∀(n d:Nat)(lv:Int),d<n->d<=4->lv=5-(d:Int)->oQ l (M.u4 n) lv (dY l d)
 |0,d,lv,h,_,_=>by omega
 |n+1,d,lv,h,h4,hlv=>fun k b hk=>by
  show Out l _ (M.sC (M.u4 n) lv (ip l k b)) _
  cases b with
  |true=>
   obtain⟨v,e⟩:=ajz (M.u4 n) hL hT lv hk;exact⟨hk,v,e⟩
  |false=>
   cases d with
   |zero=>
    refine⟨hk,aa.mk 30 [] [] [],?_⟩;unfold M.sC;rw[db (show(4:Int)<lv by omega)];rfl
   |succ d=>
    have hw:Go.IntKind.wrap .i64 (lv+1)=5-(d:Int):=by rw[wrap_i64 (by omega) (by omega)];omega
    have hr:=Tv hL hT n d (Go.IntKind.wrap .i64 (lv+1)) (by omega) (by omega) hw;exact ajA hL hT (by omega) hr hk
end M
namespace M
open Go.V (inB bV ah bq)
def lH{α:Type}(l:List aj)(el:Nat->PR α)(close:List UInt8):Nat->List α->Nat->PR (List α)
 |m,acc,k=>match el k with
  |.no k'=>.no k'
  |.ok v k1=>bif aH l close k1 then .ok (acc++[v]) (k1+1)else match m with
    |0=>.no k1
    |m+1=>bif aH l [44] k1 then lH l el close m (acc++[v]) (k1+1)else .no k1
theorem ajB{l:List aj}{a b:List UInt8}(h:a≠b){k:Nat}(ha:aH l a k=true):aH l b k=false:=by
 unfold aH at ha⊢;rw[bB,cA]at ha;rw[ha.2];have:(a==b)=false:=cM.2 h;rw[this,Bool.and_false]
theorem Ai{α:Type}(l:List aj)(el:Nat->PR α)(close:List UInt8)(hc:close≠[44]):∀(m:Nat)(acc:List α)(k:Nat),
 lH l el close m acc k=(dV l el m acc k).bind fun vs k'=>(cq l close k').bind fun _ k''=>.ok vs k''
 |0,acc,k=>by
  rw[lH,dV];cases el k with
  |no k'=>rfl
  |ok v k1=>
   simp only[PR.bind,cq];cases aH l close k1<;>rfl
 |m+1,acc,k=>by
  rw[lH,dV];cases el k with
  |no k'=>rfl
  |ok v k1=>
   simp only;cases h:aH l close k1
   ·cases iQ:aH l [44] k1
    ·simp only[ak,PR.bind,cq,h]
    ·simp only[ak,ad];exact Ai l el close hc m (acc++[v]) (k1+1)
   ·rw[ajB hc h];simp only[ad,ak,PR.bind,cq,h]
def u6(l:List aj)(rec:Int->aC->Option (aa×aC))(dp:Int)(g:Nat->PR aa):Prop:=
 ∀k b,k<l.length->Out l (RB b k (g k)) (rec dp (sp l k b)) fun v k' b'=>(v,sp l k' b')
theorem lI{l:List aj}(hL:bW l){k:Nat}(hk:k<l.length)(n most:Int)(b:Bool):M.jJ n most (sp l k b)=some (bif decide (most<=n)then sp l k true else bif !b&&aH l [44] k then sp l (k+1) b else sp l k true):=by
 unfold M.jJ;rw[gz hL hk [44] b];cases decide (most<=n)
 ·cases (!b&&aH l [44] k)<;>rfl
 ·rfl
theorem ajC{l:List aj}(hL:bW l){rec:Int->aC->Option (aa×aC)}{g:Nat->PR aa}{dp:Int}(hr:u6 l rec (Go.IntKind.wrap .i64 (dp-1)) g)(a1:Int)(a2:List UInt8)(a3:Int)(a4:List UInt8)(a5:List (List UInt8))(a6:List aa)(a7:List (List UInt8)):
 ∀(f m:Nat)(ks:List aa)(k:Nat),m+1<f->k<l.length->ks.length+(m+1)=6->
 Out l (lH l g [62] m ks k) (M.qJ rec dp a1 a2 a3 a4 a5 a6 a7 f (sp l k false) ks) fun vs k' b'=>(l,(k':Int),b',a1,a2,a3,a4,a5,a6,a7,vs):=by
 intro f
 induction f with
 |zero=>intro m ks k h;omega
 |succ f ih=>
  intro m ks k hf hk hks;obtain⟨f',rfl⟩:∃f',f=f'+1:=⟨f-1,by omega⟩;rw[M.qJ,lH];have el:∀k b,aC.list (sp l k b)=l:=fun _ _=>rfl
  have ea:∀k b,aC.at_ (sp l k b)=(k:Int):=fun _ _=>rfl
  have eb:∀k b,aC.bad (sp l k b)=b:=fun _ _=>rfl
  have hend:∀(k:Nat)(xs:List aa),M.qJ rec dp a1 a2 a3 a4 a5 a6 a7 (f'+1) (sp l k true) xs=some (l,(k:Int),true,a1,a2,a3,a4,a5,a6,a7,xs):=fun k xs=>by
   rw[M.qJ];rfl
  have h:=hr k false hk;rw[show RB false k (g k)=g k from rfl]at h;simp only[eb,bw,ad];cases hg:g k with
  |no k'=>
   rw[hg]at h;obtain⟨h1,v,h2⟩:=h;refine⟨h1,ks++[v],?_⟩;simp only[h2,fh hL h1 [62] true,lI hL h1,av,aw,bM,cG,ak,lE,dH (show ks.length<=1000 by omega),al,ad,mc,aa.aB];cases decide ((6:Int)<=(((ks++[v]).length:Nat):Int))<;>exact hend k' _
  |ok v k'=>
   rw[hg]at h;obtain⟨h1,h2⟩:=h;simp only[h2,fh hL h1 [62] false,lI hL h1,av,aw,bw,bA,lE,dH (show ks.length<=1000 by omega),al,ad,mc,aa.aB];cases eQ:aH l [62] k'
   ·simp only[ak,lI hL h1,av,aw,al,ad,bw,bA];have hlen:(((ks++[v]).length:Nat):Int)=(6:Int)-(m:Int):=by rw[aR,List.length_singleton];omega
    cases m with
    |zero=>
     rw[db (show(6:Int)<=(((ks++[v]).length:Nat):Int) by omega)];exact⟨h1,ks++[v],hend k' _⟩
    |succ m=>
     rw[cQ (show ¬(6:Int)<=(((ks++[v]).length:Nat):Int) by omega)];simp only[ak];cases iQ:aH l [44] k'
     ·exact⟨h1,ks++[v],hend k' _⟩
     ·exact ih m (ks++[v]) (k'+1) (by omega) (cU hL h1 iQ) (by rw[aR,List.length_singleton];omega)
   ·refine⟨cU hL h1 eQ,?_⟩;simp only[ad,eb,el,ea]
theorem ajD{l:List aj}(hL:bW l){rec:Int->aC->Option (aa×aC)}{g:Nat->PR aa}{dp:Int}(hr:u6 l rec (Go.IntKind.wrap .i64 (dp-1)) g){k:Nat}(hk:k<l.length):
 Out l (nH l g k) (M.Aj rec dp (sp l k false)) fun ts k' b'=>(ts,sp l k' b'):=by
 have s0:∀a b x:aa,List.set [a,b] (Int.toNat 0) x=[x,b]:=fun _ _ _=>rfl
 have s1:∀a b x:aa,List.set [a,b] (Int.toNat 1) x=[a,x]:=fun _ _ _=>rfl
 have i0:∀a b:aa,inB 0 [a,b].length=true:=fun _ _=>rfl
 have i1:∀a b:aa,inB 1 [a,b].length=true:=fun _ _=>rfl
 have eU:aa.mk 1 [] [] []=dG:=rfl;unfold M.Aj nH;simp only[fh hL hk [60] false,aw,av,bw,bA,al,eU,s0,s1,i0,i1];cases h60:aH l [60] k
 ·exact⟨hk,rfl⟩
 ·have hk1:=cU hL hk h60;simp only[ad,bM,ak,fh hL hk1 [95] false,aw,av,bw,bA,al];cases h95:aH l [95] (k+1)
  ·simp only[ak,bw,ad];have h:=hr (k+1) false hk1;rw[show RB false (k+1) (g (k+1))=g (k+1)from rfl]at h;cases hg:g (k+1)with
   |no k'=>
    rw[hg]at h;obtain⟨h1,v,h2⟩:=h;refine⟨h1,[v,dG],?_⟩;simp only[h2,fh hL h1 [44] true,gz hL h1 [62] true,aw,av,bM,cG,ak,al,ad,aa.aB]
   |ok a k'=>
    rw[hg]at h;obtain⟨h1,h2⟩:=h;simp only[h2,fh hL h1 [44] false,aw,av,bw,bA,al,PR.bind,aa.aB];cases iQ:aH l [44] k'
    ·simp only[ak,gz hL h1 [62] false,aw,av,bw,bA,al,ad,cq];cases eQ:aH l [62] k'
     ·exact⟨h1,[a,dG],rfl⟩
     ·exact⟨cU hL h1 eQ,rfl⟩
    ·have hk2:=cU hL h1 iQ;simp only[ad];have hb:=hr (k'+1) false hk2;rw[show RB false (k'+1) (g (k'+1))=g (k'+1)from rfl]at hb;cases hg2:g (k'+1)with
     |no k2=>
      rw[hg2]at hb;obtain⟨q1,v,q2⟩:=hb;refine⟨q1,[a,v],?_⟩;simp only[q2,gz hL q1 [62] true,aw,av,bM,cG,ak,al,ad,aa.aB,s1,i1]
     |ok c k2=>
      rw[hg2]at hb;obtain⟨q1,q2⟩:=hb;simp only[q2,gz hL q1 [62] false,aw,av,bw,bA,al,ad,cq,aa.aB,s1,i1];cases eQ:aH l [62] k2
      ·exact⟨q1,[a,c],rfl⟩
      ·exact⟨cU hL q1 eQ,rfl⟩
  ·have nJ:=cU hL hk1 h95;simp only[ad,bM,ak,fh hL nJ [44] false,aw,av,bw,bA,al,PR.bind];rw[show k+1+1=k+2 from rfl]at*;cases iQ:aH l [44] (k+2)
   ·simp only[ak,gz hL nJ [62] false,aw,av,bw,bA,al,ad,cq];cases eQ:aH l [62] (k+2)
    ·exact⟨nJ,[dG,dG],rfl⟩
    ·exact⟨cU hL nJ eQ,rfl⟩
   ·have hk2:=cU hL nJ iQ;simp only[ad];have hb:=hr (k+2+1) false hk2;rw[show RB false (k+2+1) (g (k+2+1))=g (k+2+1)from rfl]at hb;cases hg2:g (k+2+1)with
    |no k2=>
     rw[hg2]at hb;obtain⟨q1,v,q2⟩:=hb;refine⟨q1,[dG,v],?_⟩;simp only[q2,gz hL q1 [62] true,aw,av,bM,cG,ak,al,ad,aa.aB]
    |ok c k2=>
     rw[hg2]at hb;obtain⟨q1,q2⟩:=hb;simp only[q2,gz hL q1 [62] false,aw,av,bw,bA,al,ad,cq,aa.aB];cases eQ:aH l [62] k2
     ·exact⟨q1,[dG,c],rfl⟩
     ·exact⟨cU hL q1 eQ,rfl⟩
end M
namespace M
open Go.V (inB bV ah bq)
noncomputable def kn(l:List aj)(rec:Int->aC->Option (aa×aC))(dp K:Int)(t2:List UInt8)(f:Nat)(o4:List (List UInt8))(o5:List aa)(v:List UInt8×List aa)(k:Nat)(b:Bool):Option ((List M.aj)×Int×Bool×Int×(List UInt8)×(List (List UInt8))×(List M.aa)):=
 bif !b&&aH l [125] k then some (l,((k+1:Nat):Int),b,K,t2,o4++[v.1],o5++v.2)
 else M.jK rec dp K t2 f (bif decide ((16:Int)<=(((o4++[v.1]).length:Nat):Int))then sp l k true else bif !b&&aH l [44] k then sp l (k+1) b else sp l k true) (o4++[v.1]) (o5++v.2)
theorem Tz{l:List aj}(hL:bW l){rec:Int->aC->Option (aa×aC)}{g:Nat->PR aa}{dp K:Int}{t2:List UInt8}{f:Nat}{o4:List (List UInt8)}{o5:List aa}(hr:u6 l rec (Go.IntKind.wrap .i64 (dp-1)) g)
 (h4:o4.length<=1000) (h5:o5.length<=1000) {p:aC} (hb:aC.bad p=false) {w:List UInt8} {k1:Nat} {b1:Bool} (hname:M.fU p=some (w,sp l k1 b1)) (hk:k1<l.length):
 Out l (RB b1 k1 (oR l K g w k1)) (some (M.jK rec dp K t2 (f+1) p o4 o5)) fun v k' b'=>kn l rec dp K t2 f o4 o5 v k' b':=by
 have el:∀k b,aC.list (sp l k b)=l:=fun _ _=>rfl
 have ea:∀k b,aC.at_ (sp l k b)=(k:Int):=fun _ _=>rfl
 have eb:∀k b,aC.bad (sp l k b)=b:=fun _ _=>rfl
 have eu:aa.mk 1 [] [] []=dG:=rfl;rw[M.jK];unfold oR;simp only[hb,bw,ad,hname,aw,av,dH h4,al,bA];cases h16:(K==(16:Int))
 ·cases h17:(K==(17:Int))
  ·simp only[ak,fh hL hk [125] b1,aw,av,da,al,bA];have key:∀o,o=kn l rec dp K t2 f o4 o5 (w,[]) k1 b1->Out l (RB b1 k1 (PR.ok (w,[]) k1)) (some o) fun v k' b'=>kn l rec dp K t2 f o4 o5 v k' b':=fun o e=>by
    rw[e];cases b1
    ·exact⟨hk,rfl⟩
    ·exact⟨hk,_,rfl⟩
   apply key;unfold kn;cases hc:(!b1&&aH l [125] k1)
   ·simp only[ak,lI hL hk,aw,av,al,ad,uf]
   ·simp only[ad,el,ea,eb,uf]
  ·simp only[ak,ad,fh hL hk [40] b1,aw,av,da,al,bA];cases mH:(!b1&&aH l [40] k1)
   ·simp only[ak,fh hL hk [125] b1,aw,av,lE,dH h5,al,bA,mc,eu];have key:∀o,o=kn l rec dp K t2 f o4 o5 (w,[dG]) k1 b1->Out l (RB b1 k1 (bif aH l [40] k1 then(g (k1+1)).bind fun t k3=>(cq l [41] k3).bind fun _ k4=>PR.ok (w,[t]) k4 else PR.ok (w,[dG]) k1)) (some o) fun v k' b'=>kn l rec dp K t2 f o4 o5 v k' b':=fun o e=>by
     rw[e];cases b1
     ·have:aH l [40] k1=false:=by simpa using mH
      rw[this];exact⟨hk,rfl⟩
     ·exact⟨hk,_,rfl⟩
    apply key;unfold kn;cases hc:(!b1&&aH l [125] k1)
    ·simp only[ak,lI hL hk,aw,av,al,ad]
    ·simp only[ad,el,ea,eb]
   ·rw[bB,fK]at mH;obtain⟨hb1,mH⟩:=mH;subst hb1;rw[mH];have hk2:=cU hL hk mH;have cg:=hr (k1+1) false hk2;rw[show RB false (k1+1) (g (k1+1))=g (k1+1)from rfl]at cg;rw[show ∀r:PR (List UInt8×List aa),RB false k1 r=r from fun _=>rfl];simp only[ad];cases hg:g (k1+1)with
    |no k'=>
     rw[hg]at cg;obtain⟨h1,v,h2⟩:=cg;refine⟨h1,(w,[v]),rF some ?_⟩;simp only[h2,gz hL h1 [41] true,aw,av,bM,cG,ak,fh hL h1 [125] true,lI hL h1,lE,dH h5,al,bA,mc,aa.aB,ad];unfold kn;simp only[bM,cG,ak]
    |ok v k'=>
     rw[hg]at cg;obtain⟨h1,h2⟩:=cg;simp only[h2,gz hL h1 [41] false,aw,av,bw,bA,PR.bind,cq];cases oS:aH l [41] k'
     ·refine⟨h1,(w,[v]),rF some ?_⟩;simp only[ak,fh hL h1 [125] true,lI hL h1,aw,av,bM,cG,lE,dH h5,al,bA,mc,aa.aB,ad];unfold kn;simp only[bM,cG,ak]
     ·have h1':=cU hL h1 oS;refine⟨h1',rF some ?_⟩;simp only[ad,fh hL h1' [125] false,aw,av,bw,lE,dH h5,al,bA,mc,aa.aB];unfold kn;simp only[bw,bA];cases hc:aH l [125] (k'+1)
      ·simp only[ak,lI hL h1',aw,av,al,ad,bw,bA]
      ·simp only[ad,el,ea,eb]
 ·simp only[ad,gz hL hk [58] b1,aw,av];cases hc:(!b1&&aH l [58] k1)
  ·simp only[ak];have cg:=hr k1 true hk;obtain⟨h1,v,h2⟩:=cg;have:RB b1 k1 ((cq l [58] k1).bind fun _ k2=>(g k2).bind fun t k3=>PR.ok (w,[t]) k3)=PR.no k1:=by
    cases b1
    ·have:aH l [58] k1=false:=by simpa using hc
     unfold cq;rw[this];rfl
    ·rfl
   rw[this];refine⟨hk,(w,[v]),rF some ?_⟩;simp only[h2,fh hL hk [125] true,lI hL hk,aw,av,bM,cG,ak,lE,dH h5,al,bA,mc,aa.aB,ad];unfold kn;simp only[bM,cG,ak]
  ·rw[bB,fK]at hc;obtain⟨hb1,hc⟩:=hc;subst hb1;have hk2:=cU hL hk hc;simp only[ad];have cg:=hr (k1+1) false hk2;rw[show RB false (k1+1) (g (k1+1))=g (k1+1)from rfl]at cg;rw[show RB false k1 ((cq l [58] k1).bind fun _ k2=>(g k2).bind fun t k3=>PR.ok (w,[t]) k3)=(g (k1+1)).bind fun t k3=>PR.ok (w,[t]) k3 by unfold cq;rw[hc];rfl];cases hg:g (k1+1)with
   |no k'=>
    rw[hg]at cg;obtain⟨h1,v,h2⟩:=cg;refine⟨h1,(w,[v]),rF some ?_⟩;simp only[h2,fh hL h1 [125] true,lI hL h1,aw,av,bM,cG,ak,lE,dH h5,al,bA,mc,aa.aB,ad];unfold kn;simp only[bM,cG,ak]
   |ok v k'=>
    rw[hg]at cg;obtain⟨h1,h2⟩:=cg;refine⟨h1,rF some ?_⟩;simp only[h2,fh hL h1 [125] false,aw,av,bw,lE,dH h5,al,bA,mc,aa.aB];unfold kn;simp only[bw,bA];cases hc:aH l [125] k'
    ·simp only[ak,lI hL h1,aw,av,al,ad,bw,bA]
    ·simp only[ad,el,ea,eb]
theorem ajE{l:List aj}(hL:bW l)(hT:∀t∈l,t.Text.length<=30000){rec:Int->aC->Option (aa×aC)}{g:Nat->PR aa}{dp K:Int}{t2:List UInt8}(hr:u6 l rec (Go.IntKind.wrap .i64 (dp-1)) g):
 ∀(f m:Nat)(ps:List (List UInt8×List aa))(k:Nat),m+1<f->k<l.length->ps.length+(m+1)=16->(∀p∈ps,p.2.length<=1)->
 Out l (lH l (gB l K g) [125] m ps k) (M.jK rec dp K t2 f (sp l k false) (ps.map (·.1)) (ps.map (·.2)).flatten) fun vs k' b'=>(l,(k':Int),b',K,t2,vs.map (·.1),(vs.map (·.2)).flatten):=by
 intro f
 induction f with
 |zero=>intro m ks k h;omega
 |succ f ih=>
  intro m ps k hf hk hps Ag;obtain⟨f',rfl⟩:∃f',f=f'+1:=⟨f-1,by omega⟩;have hfl:=MR ps Ag;have mA:∀v:List UInt8×List aa,ps.map (·.1)++[v.1]=(ps++[v]).map (·.1):=fun v=>by rw[yW];rfl
  have mB:∀v:List UInt8×List aa,(ps.map (·.2)).flatten++v.2=((ps++[v]).map (·.2)).flatten:=fun v=>by rw[yW,List.flatten_append];simp
  have hend:∀(k:Nat)(xs:List (List UInt8))(ys:List aa),M.jK rec dp K t2 (f'+1) (sp l k true) xs ys=some (l,(k:Int),true,K,t2,xs,ys):=fun k xs ys=>by
   rw[M.jK];rfl
  have hn:=xm hL hT hk false;rw[bw,bA]at hn;have h:Out l (gB l K g k) (some (M.jK rec dp K t2 (f'+1+1) (sp l k false) (ps.map (·.1)) (ps.map (·.2)).flatten)) fun v k' b'=>kn l rec dp K t2 (f'+1) (ps.map (·.1)) (ps.map (·.2)).flatten v k' b':=by
   rw[E8];unfold gQ;cases hc:gP l k
   ·rw[hc]at hn;exact Tz hL (K:=K) (t2:=t2) (f:=f'+1) hr (by rw[fk];omega) (by omega) (show aC.bad (sp l k false)=false from rfl) hn hk
   ·rw[hc]at hn;exact Tz hL (K:=K) (t2:=t2) (f:=f'+1) hr (by rw[fk];omega) (by omega) (show aC.bad (sp l k false)=false from rfl) hn (xq hL hk hc)
  rw[lH];cases hg:gB l K g k with
  |no k'=>
   rw[hg]at h;obtain⟨h1,v,h2⟩:=h;refine⟨h1,ps++[v],?_⟩;rw[gW h2];unfold kn;simp only[bM,cG,ak,mA,mB];cases decide ((16:Int)<=((((ps++[v]).map (·.1)).length:Nat):Int))<;>exact hend k' _ _
  |ok v k'=>
   have hv:=Tt hg;rw[hg]at h;obtain⟨h1,h2⟩:=h;simp only[gW h2];unfold kn;simp only[bw,bA,mA,mB];cases ajF:aH l [125] k'
   ·simp only[ak];have hlen:((((ps++[v]).map (·.1)).length:Nat):Int)=(16:Int)-(m:Int):=by rw[fk,aR,List.length_singleton];omega
    cases m with
    |zero=>
     rw[db (show(16:Int)<=((((ps++[v]).map (·.1)).length:Nat):Int) by omega)];exact⟨h1,ps++[v],hend k' _ _⟩
    |succ m=>
     rw[cQ (show ¬(16:Int)<=((((ps++[v]).map (·.1)).length:Nat):Int) by omega)];simp only[ak];cases iQ:aH l [44] k'
     ·exact⟨h1,ps++[v],hend k' _ _⟩
     ·refine ih m (ps++[v]) (k'+1) (by omega) (cU hL h1 iQ) (by rw[aR,List.length_singleton];omega) ?_;intro p hp;rcases dN.1 hp with q|q
      ·exact Ag p q
      ·rw[jj.1 q];exact hv
   ·exact⟨cU hL h1 ajF,rfl⟩
theorem ajG{l:List aj}(hL:bW l)(hT:∀t∈l,t.Text.length<=30000){rec:Int->aC->Option (aa×aC)}{g:Nat->PR aa}{dp K:Int}(hr:u6 l rec (Go.IntKind.wrap .i64 (dp-1)) g){k:Nat}(hk:k<l.length):
 Out l ((cq l [123] k).bind fun _ k2=>(dV l (gB l K g) 15 [] k2).bind fun ps k3=>(cq l [125] k3).bind fun _ k4=>.ok ps k4) (M.mM rec dp (sp l k false) K [] [] []) fun vs k' b'=>(sp l k' b',K,[],vs.map (·.1),(vs.map (·.2)).flatten):=by
 unfold M.mM cq;simp only[gz hL hk [123] false,bw,bA,aw,av,al,ad];cases Fe:aH l [123] k
 ·obtain⟨n,hn⟩:∃n,ah=n+1:=⟨ah-1,by have:=bq;omega⟩;refine⟨hk,[],?_⟩;simp only[ak];rw[hn,M.jK];rfl
 ·have hk2:=cU hL hk Fe;have e:=ajE hL hT (K:=K) (t2:=[]) hr ah 15 [] (k+1) (by have:=bq;omega) hk2 rfl (by simp);rw[Ai l _ [125] (by decide)]at e;simp only[ad];rw[show(([]:List (List UInt8×List aa)).map (·.1))=[]from rfl,show(([]:List (List UInt8×List aa)).map (·.2)).flatten=[]from rfl]at e;rw[show(PR.ok () (k+1)).bind (fun _ k2=>(dV l (gB l K g) 15 [] k2).bind fun ps k3=>(bif aH l [125] k3 then PR.ok () (k3+1)else PR.no k3).bind fun _ k4=>PR.ok ps k4)=(dV l (gB l K g) 15 [] (k+1)).bind fun ps k3=>(bif aH l [125] k3 then PR.ok () (k3+1)else PR.no k3).bind fun _ k4=>PR.ok ps k4 from rfl];unfold cq at e;unfold Out at e⊢;cases hc:(dV l (gB l K g) 15 [] (k+1)).bind fun ps k3=>(bif aH l [125] k3 then PR.ok () (k3+1)else PR.no k3).bind fun _ k4=>PR.ok ps k4 with
  |ok v k'=>
   rw[hc]at e;obtain⟨h1,h2⟩:=e;refine⟨h1,?_⟩;rw[h2];rfl
  |no k'=>
   rw[hc]at e;obtain⟨h1,v,h2⟩:=e;refine⟨h1,v,?_⟩;rw[h2];rfl
end M
namespace M
open Go.V (inB bV ah bq)
theorem TA(rec:Int->aC->Option (aa×aC)){l:List aj}(hL:bW l)(hT:∀t∈l,t.Text.length<=30000)(dp:Int){k:Nat}(hk:k<l.length)(b:Bool)(h:b=true\/dp=0):
 ∃v,M.u7 rec dp (sp l k b)=some (v,sp l k true):=by
 have hn:=xm hL hT hk true;have e:(b||(dp==(0:Int)))=true:=by rcases h with q|q<;>rw[q]<;>simp
 refine⟨aa.mk 0 [] [] [],?_⟩;unfold M.u7;rw[show(aC.mk (aC.list (sp l k b)) (aC.at_ (sp l k b)) ((aC.bad (sp l k b))||(dp==(0:Int))))=sp l k true by
  show aC.mk l (k:Int) (b||(dp==(0:Int)))=_
  rw[e];rfl]
 rw[hn];simp only[bM,cG,ak,av,aw,E4,Ab,al,ad];rfl
theorem ajH{l:List aj}(hL:bW l)(hT:∀t∈l,t.Text.length<=30000){rec:Int->aC->Option (aa×aC)}{dp:Int}{d:Nat}(hdp:dp≠0)(hr:u6 l rec (Go.IntKind.wrap .i64 (dp-1)) (dY l d))
 {k:Nat} (hk:k<l.length):Out l (dY l (d+1) k) (M.u7 rec dp (sp l k false)) fun v k' b'=>(v,sp l k' b'):=by
 have el:∀k b,aC.list (sp l k b)=l:=fun _ _=>rfl
 have ea:∀k b,aC.at_ (sp l k b)=(k:Int):=fun _ _=>rfl
 have eb:∀k b,aC.bad (sp l k b)=b:=fun _ _=>rfl
 have ep:∀(k:Nat) b,aC.mk l (k:Int) b=sp l k b:=fun _ _=>rfl
 have hn:=xm hL hT hk false;have e0:(dp==(0:Int))=false:=cM.2 hdp;unfold M.u7;rw[el,ea,eb,e0,kH,ep,dY,hn];unfold gQ;cases hnm:gP l k
 ·refine⟨hk,aa.mk (dJ []) [] [] [],?_⟩;simp only[Bool.and_false,ak,av,aw,eb,E4,al,ad]
 ·have hk1:=xq hL hk hnm;simp only[bw,al,ad,av,aw,E4,PR.bind,eb,ak];generalize hw:(bT l k).Text=w;have hbd:=E3 w;by_cases h0:dJ w=0
  ·rw[h0];exact⟨hk1,rfl⟩
  ·rw[show(dJ w==0)=false from cM.2 h0];simp only[ak];generalize dJ w=K at*;by_cases hA:K=12\/K=13\/K=22\/K=23
   ·have c1:(bif K==12 then K==12 else bif K==13 then K==13 else bif K==22 then K==22 else K==23)=true:=by
     rcases hA with q|q|q|q<;>rw[q]<;>rfl
    have c2:((K==12)||((K==13)||((K==22)||(K==23))))=true:=by
     rcases hA with q|q|q|q<;>rw[q]<;>rfl
    rw[c1,c2];simp only[ad,gz hL hk1 [60] false,aw,av,bw,bA,bo,al];unfold cq;cases h60:aH l [60] (k+1)
    ·simp only[ak];obtain⟨h1,v,h2⟩:=hr (k+1) true hk1;refine⟨hk1,aa.mk K [] [] [v],?_⟩;simp only[h2,gz hL hk1 [62] true,aw,av,bM,cG,ak,bo,bA,al,ad,aa.aB]
    ·have hk2:=cU hL hk1 h60;simp only[ad];have cg:=hr (k+1+1) false hk2;rw[show RB false (k+1+1) (dY l d (k+1+1))=dY l d (k+1+1)from rfl]at cg;cases hg:dY l d (k+1+1)with
     |no k'=>
      rw[hg]at cg;obtain⟨h1,v,h2⟩:=cg;refine⟨h1,aa.mk K [] [] [v],?_⟩;simp only[h2,gz hL h1 [62] true,aw,av,bM,cG,ak,bo,bA,al,ad,aa.aB]
     |ok v k'=>
      rw[hg]at cg;obtain⟨h1,h2⟩:=cg;simp only[h2,gz hL h1 [62] false,aw,av,bw,bA,bo,al,ad,aa.aB];cases eQ:aH l [62] k'
      ·exact⟨h1,aa.mk K [] [] [v],rfl⟩
      ·exact⟨cU hL h1 eQ,rfl⟩
   ·have e1:(K==12)=false:=by rw[cM];omega
    have e2:(K==13)=false:=by rw[cM];omega
    have e3:(K==22)=false:=by rw[cM];omega
    have e4:(K==23)=false:=by rw[cM];omega
    simp only[e1,e2,e3,e4,ak,kH];by_cases h15:K=15
    ·rw[h15];have n14:((15:Int)==14)=false:=rfl;simp only[n14,da,ak,ad,gz hL hk1 [60] false,aw,av,bw,bA,bo,al];unfold cq;cases h60:aH l [60] (k+1)
     ·obtain⟨n,hn⟩:∃n,ah=n+1:=⟨ah-1,by have:=bq;omega⟩;refine⟨hk1,aa.mk 15 [] [] [],?_⟩;simp only[ak];rw[hn,M.qJ];rfl
     ·have hk2:=cU hL hk1 h60;simp only[ad];have e:=ajC hL hr 0 [] 15 [] [] [] [] ah 5 [] (k+1+1) (by have:=bq;omega) hk2 rfl;rw[Ai l _ [62] (by decide)]at e;unfold cq at e;cases hg:dV l (dY l d) 5 [] (k+1+1)with
      |no k'=>
       rw[hg]at e;obtain⟨h1,v,h2⟩:=e;refine⟨h1,aa.mk 15 [] [] v,?_⟩;simp only[h2];rfl
      |ok v k'=>
       rw[hg]at e;simp only[PR.bind]at e⊢;cases eQ:aH l [62] k'
       ·rw[eQ]at e;obtain⟨h1,v,h2⟩:=e;refine⟨h1,aa.mk 15 [] [] v,?_⟩;simp only[h2];rfl
       ·rw[eQ]at e;obtain⟨h1,h2⟩:=e;refine⟨h1,?_⟩;simp only[h2];rfl
    ·have e15:(K==15)=false:=cM.2 h15;simp only[e15,ak];by_cases u0:K=14
     ·rw[u0];have m20:((14:Int)==20)=false:=rfl;have m21:((14:Int)==21)=false:=rfl;simp only[m20,m21,da,ad,ak,kH];have cg:=ajD hL hr hk1;cases hg:nH l (dY l d) (k+1)with
      |no k'=>
       rw[hg]at cg;obtain⟨h1,v,h2⟩:=cg;refine⟨h1,aa.mk 14 [] [] v,?_⟩;simp only[h2,aw,av,bo,bA,al,ad]
      |ok v k'=>
       rw[hg]at cg;obtain⟨h1,h2⟩:=cg;refine⟨h1,?_⟩;simp only[h2,aw,av,bo,bA,al,ad]
     ·have e14:(K==14)=false:=cM.2 u0;simp only[e14,ak];by_cases hB:K=20\/K=21
      ·have c1:(bif K==20 then K==20 else K==21)=true:=by rcases hB with q|q<;>rw[q]<;>rfl
       have c2:((K==20)||(K==21))=true:=by rcases hB with q|q<;>rw[q]<;>rfl
       rw[c1,c2];simp only[ad,gz hL hk1 [60] false,aw,av,bw,bA,bo,al];unfold cq ma;cases h60:aH l [60] (k+1)
       ·refine⟨hk1,aa.mk K [] [] [],?_⟩;simp only[ak,MP hL hT hk1 true,gz hL hk1 [62] true,aw,av,bM,cG,bo,bA,al,ad]
       ·have hk2:=cU hL hk1 h60;simp only[ad,MP hL hT hk2 false,aw,av,bw,bA,bo,al];cases hid:mJ l (k+1+1)
        ·refine⟨hk2,aa.mk K [] [] [],?_⟩;simp only[ak,gz hL hk2 [62] true,aw,av,bM,cG,bo,bA,al,ad]
        ·have hk3:=Fb hL hk2 hid;simp only[ad,gz hL hk3 [62] false,aw,av,bw,bA,bo,al];cases eQ:aH l [62] (k+1+1+1)
         ·exact⟨hk3,aa.mk K (bT l (k+1+1)).Text [] [],rfl⟩
         ·exact⟨cU hL hk3 eQ,rfl⟩
      ·have f1:(K==20)=false:=by rw[cM];omega
       have f2:(K==21)=false:=by rw[cM];omega
       simp only[f1,f2,ak,kH];by_cases hC:K=16\/K=17\/K=18\/K=19
       ·have c1:(bif K==16 then K==16 else bif K==17 then K==17 else bif K==18 then K==18 else K==19)=true:=by
         rcases hC with q|q|q|q<;>rw[q]<;>rfl
        have c2:((K==16)||((K==17)||((K==18)||(K==19))))=true:=by
         rcases hC with q|q|q|q<;>rw[q]<;>rfl
        rw[c1,c2];simp only[ad];have e:=ajG hL hT (K:=K) hr hk1;have fin:∀(r:PR (List (List UInt8×List aa))),Out l r (M.mM rec dp (sp l (k+1) false) K [] [] []) (fun vs k' b'=>(sp l k' b',K,[],vs.map (·.1),(vs.map (·.2)).flatten))->
         Out l (r.bind fun ps k4=>PR.ok (aa.mk K [] (ps.map (·.1)) (ps.map (·.2)).flatten) k4) (bif(Option.isSome (M.mM rec dp (sp l (k+1) false) K [] [] []))then some (aa.mk (Option.getD (M.mM rec dp (sp l (k+1) false) K [] [] []) Inhabited.default).2.1 (Option.getD (M.mM rec dp (sp l (k+1) false) K [] [] []) Inhabited.default).2.2.1 (Option.getD (M.mM rec dp (sp l (k+1) false) K [] [] []) Inhabited.default).2.2.2.1 (Option.getD (M.mM rec dp (sp l (k+1) false) K [] [] []) Inhabited.default).2.2.2.2,(Option.getD (M.mM rec dp (sp l (k+1) false) K [] [] []) Inhabited.default).1)else none) fun v k' b'=>(v,sp l k' b'):=by
         intro r hr;cases r with
         |no k'=>
          obtain⟨h1,v,h2⟩:=hr;refine⟨h1,aa.mk K [] (v.map (·.1)) (v.map (·.2)).flatten,?_⟩;rw[h2];rfl
         |ok v k'=>
          obtain⟨h1,h2⟩:=hr;refine⟨h1,?_⟩;rw[h2];rfl
        have:=fin _ e;simp only[bo,bA,cT,al];unfold cq at this⊢;cases Fe:aH l [123] (k+1)
        ·rw[Fe]at this;exact this
        ·rw[Fe]at this;simp only[ad,PR.bind]at this⊢;cases hg:dV l (gB l K (dY l d)) 15 [] (k+1+1)with
         |no k'=>rw[hg]at this;exact this
         |ok v k'=>
          rw[hg]at this;simp only at this⊢;cases eQ:aH l [125] k'
          ·rw[eQ]at this;exact this
          ·rw[eQ]at this;exact this
       ·have g1:(K==16)=false:=by rw[cM];omega
        have g2:(K==17)=false:=by rw[cM];omega
        have g3:(K==18)=false:=by rw[cM];omega
        have g4:(K==19)=false:=by rw[cM];omega
        rw[g1,g2,g3,g4];refine⟨hk1,?_⟩;simp only[ak,kH,bo,bA,al,ad]
theorem TB{l:List aj}(hL:bW l)(hT:∀t∈l,t.Text.length<=30000):∀(n d:Nat),d<n->d<=4->u6 l (M.sD n) (d:Int) (dY l d)
 |0,d,h,_=>by omega
 |n+1,d,h,h4=>fun k b hk=>by
  show Out l _ (M.u7 (M.sD n) (d:Int) (sp l k b)) _
  cases b with
  |true=>
   obtain⟨v,e⟩:=TA (M.sD n) hL hT (d:Int) hk true (Or.inl rfl);exact⟨hk,v,e⟩
  |false=>
   cases d with
   |zero=>
    obtain⟨v,e⟩:=TA (M.sD n) hL hT 0 hk false (Or.inr rfl);exact⟨hk,v,e⟩
   |succ d=>
    have hw:Go.IntKind.wrap .i64 (((d+1:Nat):Int)-1)=(d:Int):=by rw[wrap_i64 (by omega) (by omega)];omega
    have hr:=TB hL hT n d (by omega) (by omega);rw[<-hw]at hr;exact ajH hL hT (by omega) hr hk
end M
namespace M
open Go.V (inB bV ah bq)
def At{α:Type}(r:PR α)(v:α)(k:Nat)(b:Bool):Prop:=(r=.ok v k/\b=false)\/(r=.no k/\b=true)
theorem Out.at{α β:Type}{l:List aj}{r:PR α}{o:Option β}{F:α->Nat->Bool->β}(h:Out l r o F):∃v k b,k<l.length/\At r v k b/\o=some (F v k b):=by
 cases r with
 |ok v k=>exact⟨v,k,false,h.1,Or.inl ⟨rfl,rfl⟩,h.2⟩
 |no k=>obtain⟨h1,v,h2⟩:=h;exact⟨v,k,true,h1,Or.inr ⟨rfl,rfl⟩,h2⟩
theorem At.out{α β:Type}{l:List aj}{r:PR α}{o:Option β}{F:α->Nat->Bool->β}{v:α}{k:Nat}{b:Bool}(hk:k<l.length)(h:At r v k b)(ho:o=some (F v k b)):Out l r o F:=by
 rcases h with⟨e1,e2⟩|⟨e1,e2⟩
 ·rw[e1];rw[e2]at ho;exact⟨hk,ho⟩
 ·rw[e1];rw[e2]at ho;exact⟨hk,v,ho⟩
theorem va{α β:Type}(b:Bool)(k:Nat)(r:PR α)(f:α->Nat->PR β):RB b k (r.bind f)=(RB b k r).bind f:=by cases b<;>rfl
theorem At.bind{α β:Type}{r:PR α}{f:α->Nat->PR β}{v:α}{w:β}{k1 k2:Nat}{b1 b2:Bool}(h:At r v k1 b1)(h2:At (RB b1 k1 (f v k1)) w k2 b2):At (r.bind f) w k2 b2:=by
 rcases h with⟨e1,e2⟩|⟨e1,e2⟩
 ·rw[e1];rw[e2]at h2;exact h2
 ·rw[e1];rw[e2]at h2;exact h2
theorem At.bL{α β:Type}{r:PR α}{f:α->Nat->PR β}{v:α}{w:β}{k k1 k2:Nat}{b b1 b2:Bool}(h:At (RB b k r) v k1 b1)(h2:At (RB b1 k1 (f v k1)) w k2 b2):At (RB b k (r.bind f)) w k2 b2:=by
 rw[va];exact h.bind h2
theorem At.ret{α:Type}(v:α)(k:Nat)(b:Bool):At (RB b k (PR.ok v k)) v k b:=by
 cases b
 ·exact Or.inl ⟨rfl,rfl⟩
 ·exact Or.inr ⟨rfl,rfl⟩
theorem At.no{α:Type}(v:α)(k:Nat)(r:PR α):At (RB true k r) v k true:=Or.inr ⟨rfl,rfl⟩
theorem lJ{α:Type}{l:List aj}{t:List UInt8}{k:Nat}{b:Bool}(h:(!b&&aH l t k)=true)(x y:PR α):RB b k (bif aH l t k then x else y)=x:=by
 rw[bB,fK]at h;rw[h.1,h.2];rfl
theorem mN{α:Type}{l:List aj}{t:List UInt8}{k:Nat}{b:Bool}(h:(!b&&aH l t k)=false)(x y:PR α):RB b k (bif aH l t k then x else y)=RB b k y:=by
 cases b
 ·have:aH l t k=false:=by simpa using h
  rw[this];rfl
 ·rfl
theorem mO{l:List aj}(hL:bW l){t:List UInt8}{k:Nat}{b:Bool}(hk:k<l.length)(h:(!b&&aH l t k)=true):k+1<l.length/\b=false:=by
 rw[bB,fK]at h;exact⟨cU hL hk h.2,h.1⟩
theorem lK(l:List aj)(k:Nat)(b:Bool):ar.mk l (k:Int) b=ip l k b:=rfl
theorem kT(l:List aj)(k:Nat)(b:Bool):ar.list (ip l k b)=l:=rfl
theorem jL(l:List aj)(k:Nat)(b:Bool):ar.at_ (ip l k b)=(k:Int):=rfl
theorem ic(l:List aj)(k:Nat)(b:Bool):ar.bad (ip l k b)=b:=rfl
theorem ko(l:List aj)(k:Nat)(b:Bool):aC.mk l (k:Int) b=sp l k b:=rfl
theorem ja(l:List aj)(k:Nat)(b:Bool):aC.list (sp l k b)=l:=rfl
theorem jb(l:List aj)(k:Nat)(b:Bool):aC.at_ (sp l k b)=(k:Int):=rfl
theorem iw(l:List aj)(k:Nat)(b:Bool):aC.bad (sp l k b)=b:=rfl
theorem jy{l:List aj}(hL:bW l){k:Nat}(hk:k<l.length){t:List UInt8}(hn:sr t)(b:Bool):∃k' b',k'<l.length/\At (RB b k (cq l t k)) () k' b'/\M.dk t (ip l k b)=some (ip l k' b'):=by
 rw[eY hL hk hn b];unfold cq;cases h:(!b&&aH l t k)
 ·refine⟨k,true,hk,?_,rfl⟩;rw[mN h];exact Or.inr ⟨by cases b<;>rfl,rfl⟩
 ·obtain⟨h1,h2⟩:=mO hL hk h;refine⟨k+1,b,h1,?_,rfl⟩;rw[lJ h,h2];exact Or.inl ⟨rfl,rfl⟩
theorem kq{l:List aj}(hL:bW l){k:Nat}(hk:k<l.length)(t:List UInt8)(b:Bool):∃k' b',k'<l.length/\At (RB b k (cq l t k)) () k' b'/\M.dE t (sp l k b)=some (sp l k' b'):=by
 rw[gz hL hk t b];unfold cq;cases h:(!b&&aH l t k)
 ·refine⟨k,true,hk,?_,rfl⟩;rw[mN h];exact Or.inr ⟨by cases b<;>rfl,rfl⟩
 ·obtain⟨h1,h2⟩:=mO hL hk h;refine⟨k+1,b,h1,?_,rfl⟩;rw[lJ h,h2];exact Or.inl ⟨rfl,rfl⟩
theorem xr{l:List aj}{k:Nat}(hk:k<l.length){c:Bool}(hc:c=true->k+1<l.length)(w:List UInt8)(b:Bool){β:Type}(st:Nat->Bool->β):
 ∃v k' b',k'<l.length/\At (RB b k (bif c then PR.ok w (k+1)else PR.no k)) v k' b'/\(some (bif !b&&c then(w,st (k+1) b)else([],st k true)):Option (List UInt8×β))=some (v,st k' b')/\(b'=true->v=[]):=by
 cases b with
 |true=>exact⟨[],k,true,hk,Or.inr ⟨rfl,rfl⟩,rfl,fun _=>rfl⟩
 |false=>cases c with
  |true=>exact⟨w,k+1,false,hc rfl,Or.inl ⟨rfl,rfl⟩,rfl,fun h=>by cases h⟩
  |false=>exact⟨[],k,true,hk,Or.inr ⟨rfl,rfl⟩,rfl,fun _=>rfl⟩
theorem TC{l:List aj}(hL:bW l){k:Nat}(hk:k<l.length)(h:sx l k=true):k+1<l.length:=by
 unfold sx at h;rw[bB,cA]at h;refine hL.next hk ?_;have:=h.1;unfold bT at this;rw[this];decide
theorem vc{l:List aj}(hL:bW l)(hT:∀t∈l,t.Text.length<=30000){k:Nat}(hk:k<l.length)(b:Bool):∃v k' b',k'<l.length/\At (RB b k (gQ l k)) v k' b'/\M.gA (ip l k b)=some (v,ip l k' b')/\(b'=true->v=[]):=by
 rw[E0 hL hT hk b];exact xr hk (xq hL hk) _ b fun k b=>ip l k b
theorem vd{l:List aj}(hL:bW l)(hT:∀t∈l,t.Text.length<=30000){k:Nat}(hk:k<l.length)(b:Bool):∃v k' b',k'<l.length/\At (RB b k (gQ l k)) v k' b'/\M.fU (sp l k b)=some (v,sp l k' b')/\(b'=true->v=[]):=by
 rw[xm hL hT hk b];exact xr hk (xq hL hk) _ b fun k b=>sp l k b
theorem Ff{l:List aj}(hL:bW l)(hT:∀t∈l,t.Text.length<=30000){k:Nat}(hk:k<l.length)(b:Bool):∃v k' b',k'<l.length/\At (RB b k (ma l k)) v k' b'/\M.mK (ip l k b)=some (v,ip l k' b')/\(b'=true->v=[]):=by
 rw[MO hL hT hk b];exact xr hk (Fb hL hk) _ b fun k b=>ip l k b
theorem Fg{l:List aj}(hL:bW l)(hT:∀t∈l,t.Text.length<=30000){k:Nat}(hk:k<l.length)(b:Bool):∃v k' b',k'<l.length/\At (RB b k (ma l k)) v k' b'/\M.mL (sp l k b)=some (v,sp l k' b')/\(b'=true->v=[]):=by
 rw[MP hL hT hk b];exact xr hk (Fb hL hk) _ b fun k b=>sp l k b
theorem TD{l:List aj}(hL:bW l)(hT:∀t∈l,t.Text.length<=30000){k:Nat}(hk:k<l.length)(b:Bool):∃v k' b',k'<l.length/\At (RB b k (E7 l k)) v k' b'/\M.sy (ip l k b)=some (v,ip l k' b')/\(b'=true->v=[]):=by
 rw[ajq hL hT hk b];exact xr hk (TC hL hk) _ b fun k b=>ip l k b
theorem TE{l:List aj}(hL:bW l){k:Nat}(hk:k<l.length)(b:Bool):∃v k' b',k'<l.length/\At (RB b k (E7 l k)) v k' b'/\M.sB (sp l k b)=some (v,sp l k' b')/\(b'=true->v=[]):=by
 rw[ajr hL hk b];exact xr hk (TC hL hk) _ b fun k b=>sp l k b
theorem Fh{l:List aj}(hL:bW l)(hT:∀t∈l,t.Text.length<=30000){k:Nat}(hk:k<l.length)(b:Bool):∃v k' b',k'<l.length/\At (RB b k (dY l 4 k)) v k' b'/\M.qK 1 (ip l k b)=some (v,ip l k' b'):=
 (Tv hL hT ah 4 1 (by have:=bq;omega) (by omega) (by omega) k b hk).at
theorem MS{l:List aj}(hL:bW l)(hT:∀t∈l,t.Text.length<=30000){k:Nat}(hk:k<l.length)(b:Bool):∃v k' b',k'<l.length/\At (RB b k (dY l 4 k)) v k' b'/\M.sE 4 (sp l k b)=some (v,sp l k' b'):=
 (TB hL hT ah 4 (by have:=bq;omega) (by omega) k b hk).at
def oU(l:List aj)(k:Nat):PR aQ:=(gQ l k).bind fun a k1=>
 bif aH l [47] k1 then(gQ l (k1+1)).bind fun b k2=>
  bif aH l [64] k2 then(E7 l (k2+1)).bind fun v k3=>.ok (aQ.mk a b v) k3 else .ok (aQ.mk a b []) k2
 else .ok (aQ.mk [] a []) k1
theorem MU{l:List aj}(hL:bW l)(hT:∀t∈l,t.Text.length<=30000){k:Nat}(hk:k<l.length)(b:Bool):∃v k' b',k'<l.length/\At (RB b k (oU l k)) v k' b'/\M.mP (ip l k b)=some (v,ip l k' b'):=by
 obtain⟨v1,k1,b1,h1,a1,e1,-⟩:=vc hL hT hk b;unfold M.mP oU;simp only[e1,iP hL h1 (cP 47 (by decide)) b1,av,aw,al];cases h47:(!b1&&aH l [47] k1)
 ·refine⟨aQ.mk [] v1 [],k1,b1,h1,a1.bL ?_,rfl⟩;rw[mN h47];exact At.ret _ _ _
 ·obtain⟨h2,hb⟩:=mO hL h1 h47;subst hb;obtain⟨v3,k3,b3,h3,a3,e3,-⟩:=vc hL hT h2 false;simp only[ad,e3,iP hL h3 (cP 64 (by decide)) b3,av,aw,al];cases h64:(!b3&&aH l [64] k3)
  ·refine⟨aQ.mk v1 v3 [],k3,b3,h3,a1.bL ?_,rfl⟩;rw[lJ h47];refine At.bind a3 ?_;rw[mN h64];exact At.ret _ _ _
  ·obtain⟨h4,hb⟩:=mO hL h3 h64;subst hb;obtain⟨v5,k5,b5,h5,a5,e5,-⟩:=TD hL hT h4 false;refine⟨aQ.mk v1 v3 v5,k5,b5,h5,a1.bL ?_,?_⟩
   ·rw[lJ h47];refine At.bind a3 ?_;rw[lJ h64];exact At.bind a5 (At.ret _ _ _)
   ·simp only[ad,e5,av,aw,al]
theorem MV{l:List aj}(hL:bW l)(hT:∀t∈l,t.Text.length<=30000){k:Nat}(hk:k<l.length)(b:Bool):∃v k' b',k'<l.length/\At (RB b k (oU l k)) v k' b'/\M.lL (sp l k b)=some (v,sp l k' b'):=by
 obtain⟨v1,k1,b1,h1,a1,e1,-⟩:=vd hL hT hk b;unfold M.lL oU;simp only[e1,fh hL h1 [47] b1,av,aw,al];cases h47:(!b1&&aH l [47] k1)
 ·refine⟨aQ.mk [] v1 [],k1,b1,h1,a1.bL ?_,rfl⟩;rw[mN h47];exact At.ret _ _ _
 ·obtain⟨h2,hb⟩:=mO hL h1 h47;subst hb;obtain⟨v3,k3,b3,h3,a3,e3,-⟩:=vd hL hT h2 false;simp only[ad,e3,fh hL h3 [64] b3,av,aw,al];cases h64:(!b3&&aH l [64] k3)
  ·refine⟨aQ.mk v1 v3 [],k3,b3,h3,a1.bL ?_,rfl⟩;rw[lJ h47];refine At.bind a3 ?_;rw[mN h64];exact At.ret _ _ _
  ·obtain⟨h4,hb⟩:=mO hL h3 h64;subst hb;obtain⟨v5,k5,b5,h5,a5,e5,-⟩:=TE hL h4 false;refine⟨aQ.mk v1 v3 v5,k5,b5,h5,a1.bL ?_,?_⟩
   ·rw[lJ h47];refine At.bind a3 ?_;rw[lJ h64];exact At.bind a5 (At.ret _ _ _)
   ·simp only[ad,e5,av,aw,al]
end M
namespace M
open Go.V (inB bV ah bq)
def kr(l:List aj)(k:Nat):PR aA:=(gQ l k).bind fun w k1=>(cq l [58] k1).bind fun _ k2=>(dY l 4 k2).bind fun t k3=>.ok (aA.mk w t) k3
def md(l:List aj)(k:Nat):PR aO:=(ma l k).bind fun a k1=>
 bif aH l [97,115] k1 then(ma l (k1+1)).bind fun b k2=>.ok (aO.mk a b) k2 else .ok (aO.mk a []) k1
theorem ajI:sr [97,115]:=fun d r e=>by cases e;decide
theorem ajJ{l:List aj}(hL:bW l)(hT:∀t∈l,t.Text.length<=30000)(t1:Int)(t12:List UInt8)(t13:Int)(t14:List UInt8)(t15:Bool)(t16 t17 t18:List UInt8)(o3:List (List UInt8))(o4:List aa)(o5:List aA)(o6:List aO)
 (h5:o5.length<=1000) {k:Nat} (hk:k<l.length) (b:Bool):∃v k' b',k'<l.length/\At (RB b k (kr l k)) v k' b'/\
   M.Ak t1 t12 t13 t14 t15 t16 t17 t18 l (k:Int) b o3 o4 o5 o6=some (t1,t12,t13,t14,t15,t16,t17,t18,l,(k':Int),b',o3,o4,o5++[v],o6):=by
 obtain⟨v1,k1,b1,h1,a1,e1,-⟩:=vc hL hT hk b;obtain⟨k2,b2,h2,a2,e2⟩:=jy hL h1 (cP 58 (by decide)) b1;obtain⟨v3,k3,b3,h3,a3,e3⟩:=Fh hL hT h2 b2;unfold M.Ak kr;refine⟨aA.mk v1 v3,k3,b3,h3,a1.bL (a2.bL (a3.bL (At.ret _ _ _))),?_⟩;simp only[lK,e1,e2,e3,av,aw,dH h5,al,ad,kT,jL,ic,aa.aB]
theorem ajK{l:List aj}(hL:bW l)(hT:∀t∈l,t.Text.length<=30000)(t1:Int)(t12:List UInt8)(t13:Int)(t14:List UInt8)(t15:Bool)(t16 t17 t18:List UInt8)(o3:List (List UInt8))(o4:List aa)(o5:List aA)(o6:List aO)
 (h6:o6.length<=1000) {k:Nat} (hk:k<l.length) (b:Bool):∃v k' b',k'<l.length/\At (RB b k (md l k)) v k' b'/\
   M.Am t1 t12 t13 t14 t15 t16 t17 t18 l (k:Int) b o3 o4 o5 o6=some (t1,t12,t13,t14,t15,t16,t17,t18,l,(k':Int),b',o3,o4,o5,o6++[v]):=by
 obtain⟨v1,k1,b1,h1,a1,e1,-⟩:=Ff hL hT hk b;unfold M.Am md;simp only[lK,e1,iP hL h1 ajI b1,av,aw,al];cases h47:(!b1&&aH l [97,115] k1)
 ·refine⟨aO.mk v1 [],k1,b1,h1,a1.bL ?_,?_⟩
  ·rw[mN h47];exact At.ret _ _ _
  ·simp only[ak,dH h6,al,ad,kT,jL,ic]
 ·obtain⟨h2,hb⟩:=mO hL h1 h47;subst hb;obtain⟨v3,k3,b3,h3,a3,e3,-⟩:=Ff hL hT h2 false;refine⟨aO.mk v1 v3,k3,b3,h3,a1.bL ?_,?_⟩
  ·rw[lJ h47];exact At.bind a3 (At.ret _ _ _)
  ·simp only[ad,e3,av,aw,dH h6,al,kT,jL,ic]
theorem ajL{l:List aj}(hL:bW l)(hT:∀t∈l,t.Text.length<=30000)(o2:Int)(eJ:List UInt8)(fw:Int)(fY:List UInt8)(fZ:Bool)(f6 f8 f9:List UInt8)(o7:List (List UInt8))(o8:List aa)(cV:List aO):
 ∀(f m:Nat)(ks:List aA)(k:Nat),m<f->k<l.length->ks.length+(m+1)<=6->∃vs k' b',k'<l.length/\At (dV l (kr l) m ks k) vs k' b'/\
  ((M.sF 6 f ((6:Int)-(m:Int)) (ip l k false) o2 eJ fw fY fZ f6 f8 f9 o7 o8 ks cV).map fun r=>match r with
  |.inl x=>x
  |.inr x=>x)=some (l,(k':Int),b',o2,eJ,fw,fY,fZ,f6,f8,f9,o7,o8,vs,cV):=by
 intro f
 induction f with
 |zero=>intro m ks k h;omega
 |succ f ih=>
  intro m ks k hf hk hks;obtain⟨v,k1,b1,h1,a1,e1⟩:=ajJ hL hT o2 eJ fw fY fZ f6 f8 f9 o7 o8 ks cV (by omega) hk false;rw[M.sF,dV];simp only[ic,kT,jL,bw,ad,e1,av,aw];rcases a1 with⟨q1,q2⟩|⟨q1,q2⟩
  ·rw[show RB false k (kr l k)=kr l k from rfl]at q1;rw[q1];subst q2;cases m with
   |zero=>
    have e:(((6:Int)-((0:Nat):Int))==6)=true:=by rw[cA];omega
    refine⟨ks++[v],k1,false,h1,Or.inl ⟨rfl,rfl⟩,?_⟩;simp only[e,jV,ad,al,da,iC]
   |succ m=>
    have e:(((6:Int)-((m+1:Nat):Int))==6)=false:=by rw[cM];omega
    simp only[e,lK,iP hL h1 (cP 44 (by decide)) false,aw,av,jV,ak,al,da,bw,bA];cases hb:aH l [44] k1
    ·exact⟨ks++[v],k1,false,h1,Or.inl ⟨rfl,rfl⟩,rfl⟩
    ·have hw:Go.IntKind.wrap .i64 (((6:Int)-((m+1:Nat):Int))+1)=(6:Int)-(m:Int):=by rw[wrap_i64 (by omega) (by omega)];omega
     simp only[ad,bM,ak,hw];exact ih m (ks++[v]) (k1+1) (by omega) (cU hL h1 hb) (by rw[aR,List.length_singleton];omega)
  ·rw[show RB false k (kr l k)=kr l k from rfl]at q1;rw[q1];subst q2;refine⟨ks++[v],k1,true,h1,Or.inr ⟨rfl,rfl⟩,?_⟩;simp only[bo,ad,al,da,iC]
theorem ajM{l:List aj}(hL:bW l)(hT:∀t∈l,t.Text.length<=30000)(o2:Int)(eJ:List UInt8)(fw:Int)(fY:List UInt8)(fZ:Bool)(f6 f8 f9:List UInt8)(o7:List (List UInt8))(o8:List aa)(cV:List aO){k:Nat}(hk:k<l.length)(b:Bool):
 ∃vs k' b',k'<l.length/\At (RB b k (dV l (kr l) 5 [] k)) vs k' b'/\
  M.xt 6 (ip l k b) o2 eJ fw fY fZ f6 f8 f9 o7 o8 [] cV=some (ip l k' b',o2,eJ,fw,fY,fZ,f6,f8,f9,o7,o8,vs,cV):=by
 cases b with
 |true=>
  refine⟨[],k,true,hk,At.no _ _ _,?_⟩;obtain⟨n,hn⟩:∃n,ah=n+1:=⟨ah-1,by have:=bq;omega⟩;unfold M.xt;rw[hn,M.sF];rfl
 |false=>
  obtain⟨vs,k',b',h1,a1,e1⟩:=ajL hL hT o2 eJ fw fY fZ f6 f8 f9 o7 o8 cV ah 5 [] k (by have:=bq;omega) hk (by simp);refine⟨vs,k',b',h1,a1,?_⟩;unfold M.xt;rw[show(6:Int)-((5:Nat):Int)=1 from rfl]at e1;cases ho:M.sF 6 ah 1 (ip l k false) o2 eJ fw fY fZ f6 f8 f9 o7 o8 [] cV with
  |none=>rw[ho]at e1;cases e1
  |some r=>
   rw[ho]at e1;cases r<;>(simp only[iC,ax]at e1;rw[e1];rfl)
theorem ajN{l:List aj}(hL:bW l)(hT:∀t∈l,t.Text.length<=30000)(o2:Int)(eJ:List UInt8)(fw:Int)(fY:List UInt8)(fZ:Bool)(f6 f8 f9:List UInt8)(o7:List (List UInt8))(o8:List aa)(o9:List aA):
 ∀(f m:Nat)(ks:List aO)(k:Nat),m<f->k<l.length->ks.length+(m+1)<=16->∃vs k' b',k'<l.length/\At (dV l (md l) m ks k) vs k' b'/\
  ((M.sG 16 f ((16:Int)-(m:Int)) (ip l k false) o2 eJ fw fY fZ f6 f8 f9 o7 o8 o9 ks).map fun r=>match r with
  |.inl x=>x
  |.inr x=>x)=some (l,(k':Int),b',o2,eJ,fw,fY,fZ,f6,f8,f9,o7,o8,o9,vs):=by
 intro f
 induction f with
 |zero=>intro m ks k h;omega
 |succ f ih=>
  intro m ks k hf hk hks;obtain⟨v,k1,b1,h1,a1,e1⟩:=ajK hL hT o2 eJ fw fY fZ f6 f8 f9 o7 o8 o9 ks (by omega) hk false;rw[M.sG,dV];simp only[ic,kT,jL,bw,ad,e1,av,aw];rcases a1 with⟨q1,q2⟩|⟨q1,q2⟩
  ·rw[show RB false k (md l k)=md l k from rfl]at q1;rw[q1];subst q2;cases m with
   |zero=>
    have e:(((16:Int)-((0:Nat):Int))==16)=true:=by rw[cA];omega
    refine⟨ks++[v],k1,false,h1,Or.inl ⟨rfl,rfl⟩,?_⟩;simp only[e,jV,ad,al,da,iC]
   |succ m=>
    have e:(((16:Int)-((m+1:Nat):Int))==16)=false:=by rw[cM];omega
    simp only[e,lK,iP hL h1 (cP 44 (by decide)) false,aw,av,jV,ak,al,da,bw,bA];cases hb:aH l [44] k1
    ·exact⟨ks++[v],k1,false,h1,Or.inl ⟨rfl,rfl⟩,rfl⟩
    ·have hw:Go.IntKind.wrap .i64 (((16:Int)-((m+1:Nat):Int))+1)=(16:Int)-(m:Int):=by rw[wrap_i64 (by omega) (by omega)];omega
     simp only[ad,bM,ak,hw];exact ih m (ks++[v]) (k1+1) (by omega) (cU hL h1 hb) (by rw[aR,List.length_singleton];omega)
  ·rw[show RB false k (md l k)=md l k from rfl]at q1;rw[q1];subst q2;refine⟨ks++[v],k1,true,h1,Or.inr ⟨rfl,rfl⟩,?_⟩;simp only[bo,ad,al,da,iC]
theorem ajO{l:List aj}(hL:bW l)(hT:∀t∈l,t.Text.length<=30000)(o2:Int)(eJ:List UInt8)(fw:Int)(fY:List UInt8)(fZ:Bool)(f6 f8 f9:List UInt8)(o7:List (List UInt8))(o8:List aa)(o9:List aA){k:Nat}(hk:k<l.length)(b:Bool):
 ∃vs k' b',k'<l.length/\At (RB b k (dV l (md l) 15 [] k)) vs k' b'/\
  M.ve 16 (ip l k b) o2 eJ fw fY fZ f6 f8 f9 o7 o8 o9 []=some (ip l k' b',o2,eJ,fw,fY,fZ,f6,f8,f9,o7,o8,o9,vs):=by
 cases b with
 |true=>
  refine⟨[],k,true,hk,At.no _ _ _,?_⟩;obtain⟨n,hn⟩:∃n,ah=n+1:=⟨ah-1,by have:=bq;omega⟩;unfold M.ve;rw[hn,M.sG];rfl
 |false=>
  obtain⟨vs,k',b',h1,a1,e1⟩:=ajN hL hT o2 eJ fw fY fZ f6 f8 f9 o7 o8 o9 ah 15 [] k (by have:=bq;omega) hk (by simp);refine⟨vs,k',b',h1,a1,?_⟩;unfold M.ve;rw[show(16:Int)-((15:Nat):Int)=1 from rfl]at e1;cases ho:M.sG 16 ah 1 (ip l k false) o2 eJ fw fY fZ f6 f8 f9 o7 o8 o9 []with
  |none=>rw[ho]at e1;cases e1
  |some r=>
   rw[ho]at e1;cases r<;>(simp only[iC,ax]at e1;rw[e1];rfl)
theorem ajP{l:List aj}(hL:bW l)(hT:∀t∈l,t.Text.length<=30000):∀(f m:Nat)(ks:List aA)(k:Nat),m+1<f->k<l.length->ks.length+(m+1)=6->
 ∃vs k' b',k'<l.length/\At (lH l (kr l) [41] m ks k) vs k' b'/\M.mQ  f (sp l k false) ks=some (l,(k':Int),b',vs):=by
 intro f
 induction f with
 |zero=>intro m ks k h;omega
 |succ f ih=>
  intro m ks k hf hk hks;obtain⟨f',rfl⟩:∃f',f=f'+1:=⟨f-1,by omega⟩;have hend:∀(k:Nat)(xs:List aA),M.mQ  (f'+1) (sp l k true) xs=some (l,(k:Int),true,xs):=fun k xs=>by
   rw[M.mQ];rfl
  have fin:∀(v:aA)(k1:Nat)(b1:Bool),k1<l.length->At (kr l k) v k1 b1->
   M.mQ  (f'+1+1) (sp l k false) ks=(bif !b1&&aH l [41] k1 then some (l,((k1+1:Nat):Int),b1,ks++[v])
     else M.mQ  (f'+1) (bif decide ((6:Int)<=(((ks++[v]).length:Nat):Int))then sp l k1 true else bif !b1&&aH l [44] k1 then sp l (k1+1) b1 else sp l k1 true) (ks++[v]))->
   ∃vs k' b',k'<l.length/\At (lH l (kr l) [41] m ks k) vs k' b'/\M.mQ  (f'+1+1) (sp l k false) ks=some (l,(k':Int),b',vs):=by
   intro v k1 b1 h1 a1 e1;rw[e1,lH];rcases a1 with⟨q1,q2⟩|⟨q1,q2⟩
   ·rw[q1];subst q2;simp only[bw,bA];cases hc:aH l [41] k1
    ·simp only[ak];have hlen:(((ks++[v]).length:Nat):Int)=(6:Int)-(m:Int):=by rw[aR,List.length_singleton];omega
     cases m with
     |zero=>
      rw[db (show(6:Int)<=(((ks++[v]).length:Nat):Int) by omega)];exact⟨ks++[v],k1,true,h1,Or.inr ⟨rfl,rfl⟩,hend k1 _⟩
     |succ m=>
      rw[cQ (show ¬(6:Int)<=(((ks++[v]).length:Nat):Int) by omega)];simp only[ak];cases iQ:aH l [44] k1
      ·exact⟨ks++[v],k1,true,h1,Or.inr ⟨rfl,rfl⟩,hend k1 _⟩
      ·exact ih m (ks++[v]) (k1+1) (by omega) (cU hL h1 iQ) (by rw[aR,List.length_singleton];omega)
    ·exact⟨ks++[v],k1+1,false,cU hL h1 hc,Or.inl ⟨rfl,rfl⟩,rfl⟩
   ·rw[q1];subst q2;refine⟨ks++[v],k1,true,h1,Or.inr ⟨rfl,rfl⟩,?_⟩;simp only[bM,cG,ak];cases decide ((6:Int)<=(((ks++[v]).length:Nat):Int))<;>exact hend k1 _
  obtain⟨v1,k1,b1,h1,a1,e1,-⟩:=vd hL hT hk false;obtain⟨k2,b2,h2,a2,e2⟩:=kq hL h1 [58] b1;obtain⟨v3,k3,b3,h3,a3,e3⟩:=MS hL hT h2 b2;refine fin (aA.mk v1 v3) k3 b3 h3 (At.bind (r:=gQ l k) a1 (a2.bL (a3.bL (At.ret _ _ _)))) ?_;rw[M.mQ];simp only[iw,bw,ad,e1,e2,e3,fh hL h3 [41] b3,av,aw,dH (show ks.length<=1000 by omega),al,bA,aa.aB];cases hc:(!b3&&aH l [41] k3)
  ·simp only[ak,lI hL h3,av,aw,al,ad]
  ·simp only[ad,ja,jb,iw]
theorem ajQ{l:List aj}(hL:bW l)(hT:∀t∈l,t.Text.length<=30000)(P N V:List UInt8):∀(f m:Nat)(ks:List aO)(k:Nat),m+1<f->k<l.length->ks.length+(m+1)=16->
 ∃vs k' b',k'<l.length/\At (lH l (md l) [125] m ks k) vs k' b'/\M.lM 0 [] 0 [] false [] [] [] 4 [] 0 [] false P N V [] [] [] [] [] [] [] f (sp l k false) ks=some (l,(k':Int),b',0,[],0,[],false,[],[],[],4,[],0,[],false,P,N,V,[],[],[],[],[],[],[],vs):=by
 intro f
 induction f with
 |zero=>intro m ks k h;omega
 |succ f ih=>
  intro m ks k hf hk hks;obtain⟨f',rfl⟩:∃f',f=f'+1:=⟨f-1,by omega⟩;have hend:∀(k:Nat)(xs:List aO),M.lM 0 [] 0 [] false [] [] [] 4 [] 0 [] false P N V [] [] [] [] [] [] [] (f'+1) (sp l k true) xs=some (l,(k:Int),true,0,[],0,[],false,[],[],[],4,[],0,[],false,P,N,V,[],[],[],[],[],[],[],xs):=fun k xs=>by
   rw[M.lM];rfl
  have fin:∀(v:aO)(k1:Nat)(b1:Bool),k1<l.length->At (md l k) v k1 b1->
   M.lM 0 [] 0 [] false [] [] [] 4 [] 0 [] false P N V [] [] [] [] [] [] [] (f'+1+1) (sp l k false) ks=(bif !b1&&aH l [125] k1 then some (l,((k1+1:Nat):Int),b1,0,[],0,[],false,[],[],[],4,[],0,[],false,P,N,V,[],[],[],[],[],[],[],ks++[v])
     else M.lM 0 [] 0 [] false [] [] [] 4 [] 0 [] false P N V [] [] [] [] [] [] [] (f'+1) (bif decide ((16:Int)<=(((ks++[v]).length:Nat):Int))then sp l k1 true else bif !b1&&aH l [44] k1 then sp l (k1+1) b1 else sp l k1 true) (ks++[v]))->
   ∃vs k' b',k'<l.length/\At (lH l (md l) [125] m ks k) vs k' b'/\M.lM 0 [] 0 [] false [] [] [] 4 [] 0 [] false P N V [] [] [] [] [] [] [] (f'+1+1) (sp l k false) ks=some (l,(k':Int),b',0,[],0,[],false,[],[],[],4,[],0,[],false,P,N,V,[],[],[],[],[],[],[],vs):=by
   intro v k1 b1 h1 a1 e1;rw[e1,lH];rcases a1 with⟨q1,q2⟩|⟨q1,q2⟩
   ·rw[q1];subst q2;simp only[bw,bA];cases hc:aH l [125] k1
    ·simp only[ak];have hlen:(((ks++[v]).length:Nat):Int)=(16:Int)-(m:Int):=by rw[aR,List.length_singleton];omega
     cases m with
     |zero=>
      rw[db (show(16:Int)<=(((ks++[v]).length:Nat):Int) by omega)];exact⟨ks++[v],k1,true,h1,Or.inr ⟨rfl,rfl⟩,hend k1 _⟩
     |succ m=>
      rw[cQ (show ¬(16:Int)<=(((ks++[v]).length:Nat):Int) by omega)];simp only[ak];cases iQ:aH l [44] k1
      ·exact⟨ks++[v],k1,true,h1,Or.inr ⟨rfl,rfl⟩,hend k1 _⟩
      ·exact ih m (ks++[v]) (k1+1) (by omega) (cU hL h1 iQ) (by rw[aR,List.length_singleton];omega)
    ·exact⟨ks++[v],k1+1,false,cU hL h1 hc,Or.inl ⟨rfl,rfl⟩,rfl⟩
   ·rw[q1];subst q2;refine⟨ks++[v],k1,true,h1,Or.inr ⟨rfl,rfl⟩,?_⟩;simp only[bM,cG,ak];cases decide ((16:Int)<=(((ks++[v]).length:Nat):Int))<;>exact hend k1 _
  obtain⟨v1,k1,b1,h1,a1,e1,-⟩:=Fg hL hT hk false;cases h47:(!b1&&aH l [97,115] k1)
  ·refine fin (aO.mk v1 []) k1 b1 h1 (At.bind (r:=ma l k) a1 ?_) ?_
   ·rw[mN h47];exact At.ret _ _ _
   ·rw[M.lM];simp only[iw,bw,ad,e1,fh hL h1 [97,115] b1,h47,ak,fh hL h1 [125] b1,av,aw,dH (show ks.length<=1000 by omega),al,bA];cases hc:(!b1&&aH l [125] k1)
    ·simp only[ak,lI hL h1,av,aw,al,ad]
    ·simp only[ad,ja,jb,iw]
  ·obtain⟨h2,hb⟩:=mO hL h1 h47;subst hb;obtain⟨v3,k3,b3,h3,a3,e3,-⟩:=Fg hL hT h2 false;refine fin (aO.mk v1 v3) k3 b3 h3 (At.bind (r:=ma l k) a1 ?_) ?_
   ·rw[lJ h47];exact At.bind a3 (At.ret _ _ _)
   ·rw[M.lM];have ht:M.dI [97,115] (sp l k1 false)=some (true,sp l (k1+1) false):=by rw[fh hL h1,h47];rfl
    simp only[iw,bw,ad,e1,ht,e3,fh hL h3 [125] b3,av,aw,dH (show ks.length<=1000 by omega),al,bA];cases hc:(!b3&&aH l [125] k3)
    ·simp only[ak,lI hL h3,av,aw,al,ad]
    ·simp only[ad,ja,jb,iw]
end M
