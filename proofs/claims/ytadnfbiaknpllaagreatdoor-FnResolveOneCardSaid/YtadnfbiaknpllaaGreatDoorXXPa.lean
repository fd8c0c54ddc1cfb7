/-
  TOKENS: white space, words and numbers, as both lexers read them.
-/
import Derived.Test.YtadnfbiaknpllaaGreatDoorXZSM
import Derived.Test.YtadnfbiaknpllaaGreatDoorXXplA
import Derived.Test.YtadnfbiaknpllaaGreatDoorXXTF
set_option linter.unusedVariables false
set_option linter.unusedSimpArgs false
namespace M
open Go.V (inB bN ae aZ)
def iq(c:UInt8):Bool:=decide ((97:Int)<=(c.toNat:Int))&&decide ((c.toNat:Int)<=122)
def fF(c:UInt8):Bool:=decide ((48:Int)<=(c.toNat:Int))&&decide ((c.toNat:Int)<=57)
def hd(l:List UInt8):UInt8:=l.getD 0 0
def fW:List UInt8->Nat
 |[]=>0
 |c::r=>if(c.toNat:Int)=10 then 0 else fW r+1
def cw:Bool->List UInt8->Int->Nat×Int
 |_,[],l=>(0,l)
 |true,c::r,l=>if(c.toNat:Int)=10 then((cw false r (l+1)).1+1,(cw false r (l+1)).2)else((cw true r l).1+1,(cw true r l).2)
 |false,c::r,l=>if(c.toNat:Int)=10 then((cw false r (l+1)).1+1,(cw false r (l+1)).2)else if(c.toNat:Int)=32 then((cw false r l).1+1,(cw false r l).2)
   else if(c.toNat:Int)=47/\r≠[]/\((hd r).toNat:Int)=47 then((cw true r l).1+1,(cw true r l).2)else(0,l)
theorem Lx:∀(l:List UInt8)(n:Int),cw true l n=((cw false (l.drop (fW l)) n).1+fW l,(cw false (l.drop (fW l)) n).2)
 |[],n=>rfl
 |c::r,n=>by
  unfold cw fW;by_cases h:(c.toNat:Int)=10
  ·rw[bf h,bf h,ig];simp only[cw,bf h,Nat.add_zero]
  ·rw[bg h,bg h,List.drop_succ_cons,Lx r n];simp only[kE];cases r.drop (fW r)<;>rfl
theorem rG:∀(b:Bool)(l:List UInt8)(n:Int),(cw b l n).1<=l.length/\n<=(cw b l n).2/\(cw b l n).2<=n+(l.length:Int)
 |b,[],n=>by cases b<;>simp[cw]
 |true,c::r,n=>by
  unfold cw;have h1:=rG false r (n+1);have h2:=rG true r n;split
  ·simp only[aE];omega
  ·simp only[aE];omega
 |false,c::r,n=>by
  unfold cw;have h1:=rG false r (n+1);have h2:=rG true r n;have h3:=rG false r n;split
  ·simp only[aE];omega
  ·split
   ·simp only[aE];omega
   ·split
    ·simp only[aE];omega
    ·simp only[aE];omega
theorem Ly:∀l:List UInt8,fW l<=l.length
 |[]=>cq _
 |c::r=>by
  unfold fW;have:=Ly r;split
  ·omega
  ·simp only[aE];omega
theorem kO{s:List UInt8}{a:Nat}(h:a<s.length):s.drop a=s[a]::s.drop (a+1):=x8 h
theorem agw(s:List UInt8)(line:Int)(hs:s.length<=30000):∀f a,s.length-a<f->a<=s.length->M.x9 s line f (a:Int)=some (s,((a+fW (s.drop a):Nat):Int),line):=by
 intro f
 induction f with
 |zero=>intro a h;omega
 |succ f ih=>
  intro a h1 h2;rw[M.x9];rcases cU a s.length with h|h
  ·rw[kO h];unfold fW;simp only[bG,getD_lt h,db,fP,h,eG,bj,bh,bQ,cT h (by omega:s.length<2^62)];by_cases c:(s[a].toNat:Int)=10
   ·rw[show((s[a].toNat:Int) !=10)=false by rw[bne_eq_false_iff_eq];exact c,bf c];rfl
   ·rw[show((s[a].toNat:Int) !=10)=true by rw[lR];exact c,bg c,ad,ad,ih (a+1) (by omega) (by omega)];congr 4;omega
  ·rw[List.drop_eq_nil_of_le h];have e:decide ((a:Int)<((s.length:Nat):Int))=false:=by rw[fa];omega
   simp only[e,cK,al,d4,ak,ad,fW,Nat.add_zero,cn,bV,lP,bp,kB,cL];simp
def fL(s:List UInt8)(a:Nat)(line:Int):Int×Int:=(((a+(cw false (s.drop a) line).1:Nat):Int),(cw false (s.drop a) line).2)
theorem agx(s:List UInt8)(hs:s.length<=30000):∀(f a:Nat)(line:Int),s.length-a<f->a<=s.length->0<=line->line+(s.length-a:Nat)<=100000->
 M.rH f s (a:Int) line=some (.inl (fL s a line))\/M.rH f s (a:Int) line=some (.inr (fL s a line)):=by
 intro f
 induction f with
 |zero=>intro a l h;omega
 |succ f ih=>
  intro a line h1 h2 h3 h4;rw[M.rH];rcases cU a s.length with h|h
  ·have w1:=cT h (by omega:s.length<2^62);have w2:Go.IntKind.wrap .i64 (line+1)=line+1:=wrap_i64 (by omega) (by omega);unfold fL;rw[kO h];unfold cw;simp only[bG,getD_lt h,db,fP,h,eG,bj,bh,bQ,ak,ad,w1,w2];by_cases c10:(s[a].toNat:Int)=10
   ·rw[show((s[a].toNat:Int)==10)=true from cL.2 c10,bf c10,ad];have:=ih (a+1) (line+1) (by omega) (by omega) (by omega) (by omega);unfold fL at this;rw[show a+1+(cw false (s.drop (a+1)) (line+1)).1=a+((cw false (s.drop (a+1)) (line+1)).1+1) by omega]at this;exact this
   ·rw[show((s[a].toNat:Int)==10)=false from cO.2 c10,bg c10,al];by_cases c32:(s[a].toNat:Int)=32
    ·rw[show((s[a].toNat:Int)==32)=true from cL.2 c32,bf c32,ad];have:=ih (a+1) line (by omega) (by omega) (by omega) (by omega);unfold fL at this;rw[show a+1+(cw false (s.drop (a+1)) line).1=a+((cw false (s.drop (a+1)) line).1+1) by omega]at this;exact this
    ·rw[show((s[a].toNat:Int)==32)=false from cO.2 c32,bg c32,al];have hcond:((((s[a].toNat:Int)==47)&&decide (a+1<s.length))&&(((s.getD (a+1) 0).toNat:Int)==47))=decide ((s[a].toNat:Int)=47/\s.drop (a+1)≠[]/\((hd (s.drop (a+1))).toNat:Int)=47):=by
      have e1:hd (s.drop (a+1))=s.getD (a+1) 0:=by
       unfold hd;rcases cU (a+1) s.length with q|q
       ·rw[kO q,getD_lt q];rfl
       ·rw[List.drop_eq_nil_of_le q];simp[List.getD,kA q]
      have e2:(s.drop (a+1)≠[])↔a+1<s.length:=by
       rw[ne_eq,List.drop_eq_nil_iff];omega
      rw[e1,nb];simp only[bu,cL,bX,e2];constructor
      ·rintro ⟨⟨x,y⟩,z⟩;exact⟨x,y,z⟩
      ·rintro ⟨x,y,z⟩;exact⟨⟨x,y⟩,z⟩
     have hin:(decide (a+1<s.length)|| !((((s[a].toNat:Int)==47)&&decide (a+1<s.length))==true))=true:=by
      by_cases q:a+1<s.length
      ·simp[q]
      ·simp[q]
     rw[hcond];by_cases rI:(s[a].toNat:Int)=47/\s.drop (a+1)≠[]/\((hd (s.drop (a+1))).toNat:Int)=47
     ·rw[cM rI,bf rI,ad,agw s line hs ae a (by have:=aZ;omega) h2];simp only[hin,ad];have hcl:=Ly (s.drop a);rw[List.length_drop]at hcl;have hc1:fW (s.drop a)=fW (s.drop (a+1))+1:=by
       rw[kO h,fW,bg (by omega)]
      have:=ih (a+fW (s.drop a)) line (by omega) (by omega) h3 (by omega);have hk:fL s (a+fW (s.drop a)) line=(((a+((cw true (s.drop (a+1)) line).1+1):Nat):Int),(cw true (s.drop (a+1)) line).2):=by
       unfold fL;rw[Lx,hc1,xg];rw[show a+(fW (s.drop (a+1))+1)=a+1+fW (s.drop (a+1)) by omega];congr 2;omega
      rw[hk]at this;exact this
     ·rw[ct rI,bg rI,al];simp only[hin,ad];exact .inl rfl
  ·unfold fL;rw[List.drop_eq_nil_of_le h,ct (show ¬(a:Int)<((s.length:Nat):Int) by omega)];exact .inr rfl
theorem RS(s:List UInt8)(hs:s.length<=30000)(a:Nat)(line:Int)(h2:a<=s.length)(h3:0<=line)(h4:line+(s.length-a:Nat)<=100000):M.vH s (a:Int) line=some (fL s a line):=by
 unfold M.vH;rcases agx s hs ae a line (by have:=aZ;omega) h2 h3 h4 with e|e<;>rw[e]
end M
namespace M
open Go.V (inB bN ae aZ)
theorem agy(s:List UInt8)(line:Int)(o:List aj)(hs:s.length<=30000):∀f a,s.length-a<f->a<=s.length->M.ya s line o f (a:Int)=some (s,((a+fW (s.drop a):Nat):Int),line,o):=by
 intro f
 induction f with
 |zero=>intro a h;omega
 |succ f ih=>
  intro a h1 h2;rw[M.ya];rcases cU a s.length with h|h
  ·rw[kO h];unfold fW;simp only[bG,getD_lt h,db,fP,h,eG,bj,bh,bQ,cT h (by omega:s.length<2^62)];by_cases c:(s[a].toNat:Int)=10
   ·rw[show((s[a].toNat:Int) !=10)=false by rw[bne_eq_false_iff_eq];exact c,bf c];rfl
   ·rw[show((s[a].toNat:Int) !=10)=true by rw[lR];exact c,bg c,ad,ad,ih (a+1) (by omega) (by omega)];congr 4;omega
  ·rw[List.drop_eq_nil_of_le h];have e:decide ((a:Int)<((s.length:Nat):Int))=false:=by rw[fa];omega
   simp only[e,cK,al,d4,ak,ad,fW,Nat.add_zero,cn,bV,lP,bp,kB,cL];simp
theorem pre2(s:List UInt8)(hs:s.length<=30000)(a:Nat)(x y:UInt8)(h:a<s.length):
 M.strings_HasPrefix (List.drop a (List.take s.length s)) [x,y]=some (decide (s[a]=x/\s.drop (a+1)≠[]/\hd (s.drop (a+1))=y)):=by
 have e0:List.drop a (List.take s.length s)=s[a]::s.drop (a+1):=by
  rw[DC,kO h]
 rw[e0];unfold M.strings_HasPrefix M.EL;generalize s[a]=c;cases hd0:s.drop (a+1)with
 |nil=>simp[bN]
 |cons d r=>
  have e1:decide ((([x,y].length:Nat):Int)<=(((c::d::r).length:Nat):Int))=true:=by rw[bX];simp only[aE,aL];omega
  have e2:bN 0 (([x,y].length:Nat):Int) (c::d::r).length=true:=by
   unfold bN;simp only[bu,bX];simp only[aE,aL];omega
  simp only[e1,e2,bh,ak,ad,bj,ar,an];congr 1;rw[nb,cL,bX];show[c,d]=[x,y]↔_
  simp[hd]
theorem toNat_eq{a b:UInt8}:(a.toNat:Int)=(b.toNat:Int)↔a=b:=by
 rw[Int.ofNat_inj];exact UInt8.toNat_inj
theorem agz(s:List UInt8)(o:List aj)(hs:s.length<=30000):∀(f a:Nat)(line:Int),s.length-a<f->a<=s.length->0<=line->line+(s.length-a:Nat)<=100000->
 M.rJ f s (a:Int) line o=some (.inl (s,(fL s a line).1,(fL s a line).2,o))\/M.rJ f s (a:Int) line o=some (.inr (s,(fL s a line).1,(fL s a line).2,o)):=by
 intro f
 induction f with
 |zero=>intro a l h;omega
 |succ f ih=>
  intro a line h1 h2 h3 h4;rw[M.rJ];rcases cU a s.length with h|h
  ·have w1:=cT h (by omega:s.length<2^62);have w2:Go.IntKind.wrap .i64 (line+1)=line+1:=wrap_i64 (by omega) (by omega);have hp:=pre2 s hs a 47 47 h;have hsl:bN (a:Int) ((s.length:Nat):Int) s.length=true:=by unfold bN;simp only[bu,bX];omega
   unfold fL;rw[kO h];unfold cw;simp only[hp,hsl,bG,getD_lt h,db,fP,h,eG,bj,bh,bQ,ak,ad,w1,w2,an,ar];by_cases c10:(s[a].toNat:Int)=10
   ·rw[show((s[a].toNat:Int)==10)=true from cL.2 c10,bf c10,ad];have:=ih (a+1) (line+1) (by omega) (by omega) (by omega) (by omega);unfold fL at this;rw[show a+1+(cw false (s.drop (a+1)) (line+1)).1=a+((cw false (s.drop (a+1)) (line+1)).1+1) by omega]at this;exact this
   ·rw[show((s[a].toNat:Int)==10)=false from cO.2 c10,bg c10,al];by_cases c32:(s[a].toNat:Int)=32
    ·rw[show((s[a].toNat:Int)==32)=true from cL.2 c32,bf c32,ad];have:=ih (a+1) line (by omega) (by omega) (by omega) (by omega);unfold fL at this;rw[show a+1+(cw false (s.drop (a+1)) line).1=a+((cw false (s.drop (a+1)) line).1+1) by omega]at this;exact this
    ·rw[show((s[a].toNat:Int)==32)=false from cO.2 c32,bg c32,al];have hcond:decide (s[a]=47/\s.drop (a+1)≠[]/\hd (s.drop (a+1))=47)=decide ((s[a].toNat:Int)=47/\s.drop (a+1)≠[]/\((hd (s.drop (a+1))).toNat:Int)=47):=by
      rw[mG];have e1:((s[a].toNat:Int)=47)↔s[a]=47:=toNat_eq (b:=47);have e2:(((hd (s.drop (a+1))).toNat:Int)=47)↔hd (s.drop (a+1))=47:=toNat_eq (b:=47);rw[e1,e2]
     rw[hcond];by_cases rI:(s[a].toNat:Int)=47/\s.drop (a+1)≠[]/\((hd (s.drop (a+1))).toNat:Int)=47
     ·rw[cM rI,bf rI,ad,agy s line o hs ae a (by have:=aZ;omega) h2];simp only[ad];have hcl:=Ly (s.drop a);rw[List.length_drop]at hcl;have hc1:fW (s.drop a)=fW (s.drop (a+1))+1:=by
       rw[kO h,fW,bg (by omega)]
      have:=ih (a+fW (s.drop a)) line (by omega) (by omega) h3 (by omega);have hk:fL s (a+fW (s.drop a)) line=(((a+((cw true (s.drop (a+1)) line).1+1):Nat):Int),(cw true (s.drop (a+1)) line).2):=by
       unfold fL;rw[Lx,hc1,xg];rw[show a+(fW (s.drop (a+1))+1)=a+1+fW (s.drop (a+1)) by omega];congr 2;omega
      rw[hk]at this;exact this
     ·rw[ct rI,bg rI,al];simp only[ad];exact .inl rfl
  ·unfold fL;rw[List.drop_eq_nil_of_le h,ct (show ¬(a:Int)<((s.length:Nat):Int) by omega)];exact .inr rfl
theorem RU(s:List UInt8)(o:List aj)(hs:s.length<=30000)(a:Nat)(line:Int)(h2:a<=s.length)(h3:0<=line)(h4:line+(s.length-a:Nat)<=100000):M.vI s (a:Int) line o=some (s,(fL s a line).1,(fL s a line).2,o):=by
 unfold M.vI;rcases agz s o hs ae a line (by have:=aZ;omega) h2 h3 h4 with e|e<;>rw[e]
def jg:List UInt8->Nat
 |[]=>0
 |c::r=>if(iq c||fF c)||((decide ((c.toNat:Int)=45)&&decide (r≠[]))&&(iq (hd r)||fF (hd r)))then jg r+1 else 0
def iW:List UInt8->Nat
 |[]=>0
 |c::r=>if fF c||((decide ((c.toNat:Int)=46)&&decide (r≠[]))&&fF (hd r))then iW r+1 else 0
theorem LA:∀l:List UInt8,jg l<=l.length
 |[]=>cq _
 |c::r=>by
  unfold jg;have:=LA r;split
  ·simp only[aE];omega
  ·omega
theorem LC:∀l:List UInt8,iW l<=l.length
 |[]=>cq _
 |c::r=>by
  unfold iW;have:=LC r;split
  ·simp only[aE];omega
  ·omega
theorem AO(s:List UInt8)(a:Nat):hd (s.drop (a+1))=s.getD (a+1) 0:=by
 unfold hd;rcases cU (a+1) s.length with q|q
 ·rw[kO q,getD_lt q];rfl
 ·rw[List.drop_eq_nil_of_le q];simp[List.getD,kA q]
theorem EM(s:List UInt8)(a:Nat):decide (s.drop (a+1)≠[])=decide (a+1<s.length):=by
 rw[mG,ne_eq,List.drop_eq_nil_iff];omega
theorem agA(s:List UInt8)(hs:s.length<=30000):∀(f a:Nat),s.length-a<f->a<=s.length->
 M.vJ s f (a:Int)=some (.inl ((a+jg (s.drop a):Nat):Int))\/M.vJ s f (a:Int)=some (.inr ((a+jg (s.drop a):Nat):Int)):=by
 intro f
 induction f with
 |zero=>intro a h;omega
 |succ f ih=>
  intro a h1 h2;rw[M.vJ];rcases cU a s.length with h|h
  ·have w1:=cT h (by omega:s.length<2^62);rw[kO h];unfold jg;rw[AO,EM];simp only[bG,getD_lt h,db,fP,h,eG,bj,bh,bQ,ak,ad,w1];have eL:∀c:UInt8,(decide ((97:Int)<=(c.toNat:Int))&&decide ((c.toNat:Int)<=122))=iq c:=fun c=>rfl
   have eD:∀c:UInt8,(decide ((48:Int)<=(c.toNat:Int))&&decide ((c.toNat:Int)<=57))=fF c:=fun c=>rfl
   simp only[eL,eD];have e45:((s[a].toNat:Int)==45)=decide ((s[a].toNat:Int)=45):=by rw[nb,cL,bX]
   rw[e45];have ih':=ih (a+1) (by omega) (by omega);rw[show a+1+jg (s.drop (a+1))=a+(jg (s.drop (a+1))+1) by omega]at ih';generalize s.getD (a+1) 0=d;generalize decide (a+1<s.length)=b1;generalize decide ((s[a].toNat:Int)=45)=b2;cases iq s[a]<;>cases fF s[a]<;>cases b1<;>cases b2<;>cases iq d<;>cases fF d<;>first|exact ih'|exact .inl rfl
  ·rw[List.drop_eq_nil_of_le h,ct (show ¬(a:Int)<((s.length:Nat):Int) by omega)];exact .inr rfl
theorem agB(s:List UInt8)(hs:s.length<=30000):∀(f a:Nat),s.length-a<f->a<=s.length->
 M.vK s f (a:Int)=some (.inl ((a+iW (s.drop a):Nat):Int))\/M.vK s f (a:Int)=some (.inr ((a+iW (s.drop a):Nat):Int)):=by
 intro f
 induction f with
 |zero=>intro a h;omega
 |succ f ih=>
  intro a h1 h2;rw[M.vK];rcases cU a s.length with h|h
  ·have w1:=cT h (by omega:s.length<2^62);rw[kO h];unfold iW;rw[AO,EM];simp only[bG,getD_lt h,db,fP,h,eG,bj,bh,bQ,ak,ad,w1];have eD:∀c:UInt8,(decide ((48:Int)<=(c.toNat:Int))&&decide ((c.toNat:Int)<=57))=fF c:=fun c=>rfl
   simp only[eD];have e45:((s[a].toNat:Int)==46)=decide ((s[a].toNat:Int)=46):=by rw[nb,cL,bX]
   rw[e45];have ih':=ih (a+1) (by omega) (by omega);rw[show a+1+iW (s.drop (a+1))=a+(iW (s.drop (a+1))+1) by omega]at ih';generalize s.getD (a+1) 0=d;generalize decide (a+1<s.length)=b1;generalize decide ((s[a].toNat:Int)=46)=b2;cases fF s[a]<;>cases b1<;>cases b2<;>cases fF d<;>first|exact ih'|exact .inl rfl
  ·rw[List.drop_eq_nil_of_le h,ct (show ¬(a:Int)<((s.length:Nat):Int) by omega)];exact .inr rfl
theorem agC(s:List UInt8)(hs:s.length<=30000)(a:Nat)(h2:a<=s.length):M.AP s (a:Int)=some ((a+jg (s.drop a):Nat):Int):=by
 unfold M.AP;rcases agA s hs ae a (by have:=aZ;omega) h2 with e|e<;>rw[e]
theorem agD(s:List UInt8)(hs:s.length<=30000)(a:Nat)(h2:a<=s.length):M.AQ s (a:Int)=some ((a+iW (s.drop a):Nat):Int):=by
 unfold M.AQ;rcases agB s hs ae a (by have:=aZ;omega) h2 with e|e<;>rw[e]
end M
namespace M
open Go.V (inB bN ae aZ)
theorem agE(s:List UInt8)(x2 x3:Int)(o:List aj)(hs:s.length<=30000)(a:Nat):M.AS (iH.mk s x2 x3 o) (a:Int)=some ((s.getD a 0).toNat:Int):=by
 unfold M.AS;by_cases h:a<s.length
 ·have e:decide (((s.length:Nat):Int)<=(a:Int))=false:=by rw[fa];omega
  have e2:inB (a:Int) s.length=true:=by rw[db];simpa using h
  simp only[e,e2,al,ak,ad,bG]
 ·have e:decide (((s.length:Nat):Int)<=(a:Int))=true:=by rw[bX];omega
  rw[show s.getD a 0=0 by simp[List.getD,kA (Nat.le_of_not_lt h)]];simp only[e,ad];rfl
theorem agF:iq 0=false:=by decide
theorem agG:fF 0=false:=by decide
def yb(word:Bool)(l:List UInt8):Nat:=bif word then jg l else iW l
theorem getD_none{s:List UInt8}{a:Nat}(h:¬a<s.length):s.getD a 0=0:=by simp[List.getD,kA (Nat.le_of_not_lt h)]
theorem agH(s:List UInt8)(x2 x3:Int)(o:List aj)(word:Bool)(hs:s.length<=30000):∀(f a:Nat),s.length-a<f->a<=s.length->
 M.yc (iH.mk s x2 x3 o) word f (a:Int)=some ((a+yb word (s.drop a):Nat):Int):=by
 intro f
 induction f with
 |zero=>intro a h;omega
 |succ f ih=>
  intro a h1 h2;rw[M.yc];rcases cU a s.length with h|h
  ·have w1:=cT h (by omega:s.length<2^62);rw[kO h];have ih':=ih (a+1) (by omega) (by omega);have eL:∀c:UInt8,(decide ((97:Int)<=(c.toNat:Int))&&decide ((c.toNat:Int)<=122))=iq c:=fun c=>rfl
   have eD:∀c:UInt8,(decide ((48:Int)<=(c.toNat:Int))&&decide ((c.toNat:Int)<=57))=fF c:=fun c=>rfl
   simp only[w1,agE s x2 x3 o hs,an,ar,bG,getD_lt h,db,fP,h,eG,bj,bQ,ak,ad,eL,eD];have e45:((s[a].toNat:Int)==45)=decide ((s[a].toNat:Int)=45):=by rw[nb,cL,bX]
   have e46:((s[a].toNat:Int)==46)=decide ((s[a].toNat:Int)=46):=by rw[nb,cL,bX]
   rw[e45,e46];have hz:¬a+1<s.length->iq (s.getD (a+1) 0)=false/\fF (s.getD (a+1) 0)=false:=fun q=>by rw[getD_none q];exact⟨agF,agG⟩
   have hz1:decide (a+1<s.length)=false->iq (s.getD (a+1) 0)=false/\fF (s.getD (a+1) 0)=false:=fun q=>hz (by simpa using q)
   cases word
   ·simp only[yb,al]at ih'⊢;rw[show a+1+iW (s.drop (a+1))=a+(iW (s.drop (a+1))+1) by omega]at ih';unfold iW;rw[AO,EM];generalize s.getD (a+1) 0=d at*;generalize decide (a+1<s.length)=b1 at*;generalize decide ((s[a].toNat:Int)=46)=b2;cases b1
    ·rw[(hz1 rfl).2];cases fF s[a]<;>cases b2<;>first|exact ih'|rfl
    ·cases fF s[a]<;>cases b2<;>cases fF d<;>first|exact ih'|rfl
   ·simp only[yb,ad]at ih'⊢;rw[show a+1+jg (s.drop (a+1))=a+(jg (s.drop (a+1))+1) by omega]at ih';unfold jg;rw[AO,EM];generalize s.getD (a+1) 0=d at*;generalize decide (a+1<s.length)=b1 at*;generalize decide ((s[a].toNat:Int)=45)=b2;cases b1
    ·rw[(hz1 rfl).1,(hz1 rfl).2];cases iq s[a]<;>cases fF s[a]<;>cases b2<;>first|exact ih'|rfl
    ·cases iq s[a]<;>cases fF s[a]<;>cases b2<;>cases iq d<;>cases fF d<;>first|exact ih'|rfl
  ·rw[List.drop_eq_nil_of_le h,ct (show ¬(a:Int)<((s.length:Nat):Int) by omega)];cases word<;>rfl
theorem agI(s:List UInt8)(x2 x3:Int)(o:List aj)(hs:s.length<=30000)(a:Nat)(h:a<s.length):M.yd (iH.mk s x2 x3 o) (a:Int)=some ((a+1+yb (iq s[a]) (s.drop (a+1)):Nat):Int):=by
 unfold M.yd;have w1:=cT h (by omega:s.length<2^62);have eL:(decide ((97:Int)<=(s[a].toNat:Int))&&decide ((s[a].toNat:Int)<=122))=iq s[a]:=rfl;have e:=agH s x2 x3 o (iq s[a]) hs ae (a+1) (by have:=aZ;omega) (by omega);have hin:inB (a:Int) s.length=true:=by rw[db];simpa using h
 simp only[bG,getD_lt h,eL,w1,e,hin,ak,ad]
def tH:List UInt8:=[123,125,40,41,60,62,44,59,58,61,46,47,64,95]
def isS(c:UInt8):Bool:=tH.any fun x=>x==c
theorem RV:∀(l:List UInt8)(c:UInt8),decide ((0:Int)<=Go.Lib.indexByte l c)=l.any fun x=>x==c
 |[],c=>rfl
 |b::l,c=>by
  have ih:=RV l c;have hg:=Go.Lib.indexByte_ge l c;unfold Go.Lib.indexByte;rw[List.any_cons,<-ih];cases hb:(b==c)
  ·rw[bg (by simp),ln];by_cases h:Go.Lib.indexByte l c= -1
   ·rw[bf (by rw[h];rfl),h]
   ·rw[bg (by rw[cL];exact h),cM (by omega),cM (by omega)]
  ·rw[bf rfl];rfl
theorem agJ(c:UInt8):decide ((0:Int)<=M.AN [(123:UInt8),(125:UInt8),(40:UInt8),(41:UInt8),(60:UInt8),(62:UInt8),(44:UInt8),(59:UInt8),(58:UInt8),(61:UInt8),(46:UInt8),(47:UInt8),(64:UInt8),(95:UInt8)] ((c.toNat:Nat):Int))=isS c:=by
 unfold M.AN isS tH;rw[bG,show c.toNat.toUInt8=c from UInt8.ofNat_toNat];exact RV _ c
theorem agK(c:UInt8):M.AT ((c.toNat:Nat):Int)=some (isS c):=by
 have e:=LD (p:=fun x:UInt8=>x==c) (F:=M.tJ ((c.toNat:Nat):Int) tH) (e:=()) (fun _=>true) tH (by decide) (fun f k hk=>by
  rw[M.tJ];have hb:(((tH[k].toNat:Nat):Int)==((c.toNat:Nat):Int))=(tH[k]==c):=by
   rw[nb,cL,cL];exact toNat_eq
  simp only[getD_lt hk,bG,db,fP,hk,eG,ad,bQ,hb,cT hk (by decide:tH.length<2^62)]) (fun f=>by
  rw[M.tJ];simp)
 unfold M.AT isS;rw[show M.tJ ((c.toNat:Nat):Int) [(123:UInt8),(125:UInt8),(40:UInt8),(41:UInt8),(60:UInt8),(62:UInt8),(44:UInt8),(59:UInt8),(58:UInt8),(61:UInt8),(46:UInt8),(47:UInt8),(64:UInt8),(95:UInt8)] ae 0=_ from e,agL];cases tH.findIdx? (fun x=>x==c)<;>rfl
def eM(c:UInt8)(r:List UInt8):Int×Nat:=
 bif iq c then(1,1+jg r)else bif fF c then(2,1+iW r)else bif decide (c=45/\r≠[]/\hd r=62)then(3,2)else bif isS c then(3,1)else(0,0)
theorem RX(c:UInt8)(r:List UInt8):(eM c r).2<=1+r.length:=by
 unfold eM;have h1:=LA r;have h2:=LC r;cases iq c
 ·cases fF c
  ·cases hc:decide (c=45/\r≠[]/\hd r=62)
   ·cases isS c<;>simp
   ·rw[bX]at hc;have:0<r.length:=List.length_pos_iff.2 hc.2.1;simp only[al,ad];omega
  ·simp only[al,ad];omega
 ·simp only[ad];omega
theorem EN(c:UInt8)(r:List UInt8)(h:(eM c r).1≠0):1<=(eM c r).2:=by
 unfold eM at h⊢;cases h1:iq c
 ·cases h2:fF c
  ·cases hc:decide (c=45/\r≠[]/\hd r=62)
   ·cases hS:isS c
    ·rw[h1,h2,hc,hS]at h;exact(h rfl).elim
    ·simp
   ·simp
  ·simp
 ·simp
theorem agM(s:List UInt8)(x3:Int)(o:List aj)(hs:s.length<=30000)(a:Nat)(h:a<s.length):
 M.AU (iH.mk s (a:Int) x3 o)=some ((eM s[a] (s.drop (a+1))).1,bif(eM s[a] (s.drop (a+1))).1==0 then 0 else((a+(eM s[a] (s.drop (a+1))).2:Nat):Int)):=by
 unfold M.AU eM;have eL:(decide ((97:Int)<=(s[a].toNat:Int))&&decide ((s[a].toNat:Int)<=122))=iq s[a]:=rfl;have eD:(decide ((48:Int)<=(s[a].toNat:Int))&&decide ((s[a].toNat:Int)<=57))=fF s[a]:=rfl;have hin:inB (a:Int) s.length=true:=by rw[db];simpa using h
 have hp:=pre2 s hs a 45 62 h;have hsl:bN (a:Int) ((s.length:Nat):Int) s.length=true:=by unfold bN;simp only[bu,bX];omega
 have w1:=cT h (by omega:s.length<2^62);have w2:Go.IntKind.wrap .i64 ((a:Int)+2)=((a+2:Nat):Int):=by rw[wrap_i64 (by omega) (by omega)];omega
 simp only[bG,getD_lt h,eL,eD,agI s _ x3 o hs a h,hp,hsl,hin,w1,w2,agJ,an,ar,ak,ad];cases hl:iq s[a]
 ·cases hd':fF s[a]
  ·simp only[al];cases decide (s[a]=45/\s.drop (a+1)≠[]/\hd (s.drop (a+1))=62)
   ·cases isS s[a]<;>rfl
   ·rfl
  ·simp only[al,ad,yb];rw[show a+1+iW (s.drop (a+1))=a+(1+iW (s.drop (a+1))) by omega];rfl
 ·simp only[ad,yb];rw[show a+1+jg (s.drop (a+1))=a+(1+jg (s.drop (a+1))) by omega];rfl
def nA(s:List UInt8)(a n:Nat):List UInt8:=(s.drop a).take n
theorem EO(s:List UInt8)(a n:Nat):List.drop a (List.take (a+n) s)=nA s a n:=by
 unfold nA;rw[List.drop_take];congr 1;omega
theorem agN(s:List UInt8)(hs:s.length<=30000)(a:Nat)(h:a<s.length):
 M.AW s (a:Int)=some (bif(eM s[a] (s.drop (a+1))).1==0 then(aj.mk 0 [] 0,0)else(aj.mk (eM s[a] (s.drop (a+1))).1 (nA s a (eM s[a] (s.drop (a+1))).2) 0,((a+(eM s[a] (s.drop (a+1))).2:Nat):Int))):=by
 unfold M.AW eM;have eL:(decide ((97:Int)<=(s[a].toNat:Int))&&decide ((s[a].toNat:Int)<=122))=iq s[a]:=rfl;have eD:(decide ((48:Int)<=(s[a].toNat:Int))&&decide ((s[a].toNat:Int)<=57))=fF s[a]:=rfl;have hin:inB (a:Int) s.length=true:=by rw[db];simpa using h
 have w1:=cT h (by omega:s.length<2^62);have w2:Go.IntKind.wrap .i64 ((a:Int)+2)=((a+2:Nat):Int):=by rw[wrap_i64 (by omega) (by omega)];omega
 have hw:=agC s hs a (by omega);have hn:=agD s hs a (by omega);simp only[bG,getD_lt h,eL,eD,hin,hw,hn,w1,w2,agK,an,ar,ak,ad];have hlen:(s.drop (a+1)).length=s.length-(a+1):=List.length_drop;cases hl:iq s[a]
 ·cases hd':fF s[a]
  ·simp only[al];have hcond:(((((s[a].toNat:Nat):Int)==45)&&decide (((a+1:Nat):Int)<((s.length:Nat):Int)))&&((((s.getD (a+1) 0).toNat:Nat):Int)==62))=decide (s[a]=45/\s.drop (a+1)≠[]/\hd (s.drop (a+1))=62):=by
    have e1:((s[a].toNat:Int)=45)↔s[a]=45:=toNat_eq (b:=45);have e3:(((s.getD (a+1) 0).toNat:Int)=62)↔s.getD (a+1) 0=62:=toNat_eq (b:=62);have e2:(s.drop (a+1)≠[])↔a+1<s.length:=by
     rw[ne_eq,List.drop_eq_nil_iff];omega
    rw[AO,nb];simp only[bu,cL,bX,e1,e2,e3,fP];constructor
    ·rintro ⟨⟨x,y⟩,z⟩;exact⟨x,y,z⟩
    ·rintro ⟨x,y,z⟩;exact⟨⟨x,y⟩,z⟩
   have hin2:(inB ((a+1:Nat):Int) s.length|| !(((((s[a].toNat:Nat):Int)==45)&&decide (((a+1:Nat):Int)<((s.length:Nat):Int)))==true))=true:=by
    rw[db];by_cases q:a+1<s.length
    ·simp[q]
    ·have:decide (((a+1:Nat):Int)<(s.length:Int))=false:=by rw[fa];omega
     rw[this,Bool.and_false];simp
   have hsl1:bN (a:Int) ((a+1:Nat):Int) s.length=true:=by unfold bN;simp only[bu,bX];omega
   rw[hcond,hin2,hsl1];cases hc:decide (s[a]=45/\s.drop (a+1)≠[]/\hd (s.drop (a+1))=62)with
   |false=>
    cases isS s[a]
    ·rfl
    ·rw[EO];rfl
   |true=>
    rw[bX]at hc;have hT:nA s a 2=[45,62]:=by
     unfold nA;rw[kO h,hc.1];cases hq:s.drop (a+1)with
     |nil=>exact absurd hq hc.2.1
     |cons d r=>
      have:=hc.2.2;rw[hq]at this;show(45:UInt8)::[d]=[45,62]
      rw[show d=62 from this]
    simp only[ad,hT];rfl
  ·simp only[al,ad];have e:iW (s.drop a)=1+iW (s.drop (a+1)):=by
    rw[kO h,iW,bf (by rw[hd',bh])];omega
   have hle:=LC (s.drop (a+1));have hsl:bN (a:Int) ((a+(1+iW (s.drop (a+1))):Nat):Int) s.length=true:=by unfold bN;simp only[bu,bX];omega
   rw[e,hsl,EO];rfl
 ·simp only[ad];have e:jg (s.drop a)=1+jg (s.drop (a+1)):=by
   rw[kO h,jg,bf (by rw[hl,bh,bh])];omega
  have hle:=LA (s.drop (a+1));have hsl:bN (a:Int) ((a+(1+jg (s.drop (a+1))):Nat):Int) s.length=true:=by unfold bN;simp only[bu,bX];omega
  rw[e,hsl,EO];rfl
end M
namespace M
open Go.V (inB bN ae aZ)
theorem vL:∀(b:Bool)(l:List UInt8)(n:Int),(cw b l n).2<=n+((cw b l n).1:Int)
 |b,[],n=>by cases b<;>simp[cw]
 |true,c::r,n=>by
  unfold cw;have h1:=vL false r (n+1);have h2:=vL true r n;split
  ·simp only;omega
  ·simp only;omega
 |false,c::r,n=>by
  unfold cw;have h1:=vL false r (n+1);have h2:=vL true r n;have h3:=vL false r n;split
  ·simp only;omega
  ·split
   ·simp only;omega
   ·split
    ·simp only;omega
    ·simp only;omega
def iY(s:List UInt8):Nat->Nat->Int->List aj->(Int×Int)⊕(Int×List aj)
 |0,_,_,_=>.inl (0,0)
 |n+1,a,line,out=>if a<s.length then
   if(eM (s.getD a 0) (s.drop (a+1))).1=0 then .inl (line,6)else if out.length=4000 then .inl (line,4)
   else iY s n (a+(eM (s.getD a 0) (s.drop (a+1))).2+(cw false (s.drop (a+(eM (s.getD a 0) (s.drop (a+1))).2)) line).1) (cw false (s.drop (a+(eM (s.getD a 0) (s.drop (a+1))).2)) line).2
    (out++[aj.mk (eM (s.getD a 0) (s.drop (a+1))).1 (nA s a (eM (s.getD a 0) (s.drop (a+1))).2) line])
  else .inr (line,out)
theorem agO(s:List UInt8)(hs:s.length<=30000):∀(f a:Nat)(line:Int)(out:List aj),s.length-a<f->a<=s.length->0<=line->line<=50000+(a:Int)->out.length<=4000->
 M.ye s f (a:Int) line out=some (match iY s f a line out with
   |.inl x=>.inl (x.1,x.2,[])
   |.inr y=>.inr y):=by
 intro f
 induction f with
 |zero=>intro a l o h;omega
 |succ f ih=>
  intro a line out h1 h2 h3 h4 ho;rw[M.ye,iY];rcases cU a s.length with h|h
  ·rw[bf h,cM (show(a:Int)<((s.length:Nat):Int) by omega),ad,agN s hs a h,getD_lt h];have hle:=RX s[a] (s.drop (a+1));have hpos:=EN s[a] (s.drop (a+1));rw[List.length_drop]at hle;generalize eM s[a] (s.drop (a+1))=x at*;by_cases hx:x.1=0
   ·rw[bf hx,show(x.1==0)=true from cL.2 hx];rfl
   ·have hp:=hpos hx;have hne:(((a+x.2:Nat):Int)==0)=false:=by rw[cO];omega
    have hsk:=RS s hs (a+x.2) line (by omega) h3 (by omega);have hcl:=rG false (s.drop (a+x.2)) line;have hcn:=vL false (s.drop (a+x.2)) line;rw[List.length_drop]at hcl;rw[bg hx,show(x.1==0)=false from cO.2 hx];simp only[al,an,ar,hne,ak,ad];by_cases nB:out.length=4000
    ·rw[bf nB,show(((out.length:Nat):Int)==4000)=true by rw[cL];omega];rfl
    ·rw[bg nB,show(((out.length:Nat):Int)==4000)=false by rw[cO];omega];have hc:∀t:aj,decide (out.length+[t].length<=1073741824)=true:=fun t=>by rw[bX,List.length_singleton];omega
     simp only[al,hsk,hc,an,ar,ak,ad];unfold fL;exact ih _ _ _ (by omega) (by omega) (by omega) (by omega) (by rw[aG,List.length_singleton];omega)
  ·rw[bg (by omega),ct (show ¬(a:Int)<((s.length:Nat):Int) by omega)];rfl
theorem agP(s:List UInt8)(hs:s.length<=30000):∀(f a:Nat)(line:Int)(out:List aj),s.length-a<f->a<=s.length->0<=line->line<=50000+(a:Int)->out.length<=4000->
 ∃a':Int,M.yf s f s (a:Int) line out=some (match iY s f a line out with
  |.inl x=>.inl (x.1,x.2)
  |.inr y=>.inr (s,a',y.1,y.2)):=by
 intro f
 induction f with
 |zero=>intro a l o h;omega
 |succ f ih=>
  intro a line out h1 h2 h3 h4 ho;rw[M.yf,iY];rcases cU a s.length with h|h
  ·rw[bf h,cM (show(a:Int)<((s.length:Nat):Int) by omega),ad,agM s line out hs a h,getD_lt h];have hle:=RX s[a] (s.drop (a+1));have hpos:=EN s[a] (s.drop (a+1));rw[List.length_drop]at hle;generalize eM s[a] (s.drop (a+1))=x at*;by_cases hx:x.1=0
   ·rw[bf hx];simp only[an,ar,show(x.1==0)=true from cL.2 hx,ad,ak];exact⟨0,trivial⟩
   ·have hp:=hpos hx;have hsk:=RU s (out++[aj.mk x.1 (nA s a x.2) line]) hs (a+x.2) line (by omega) h3 (by omega);have hcl:=rG false (s.drop (a+x.2)) line;have hcn:=vL false (s.drop (a+x.2)) line;rw[List.length_drop]at hcl;rw[bg hx];simp only[an,ar,show(x.1==0)=false from cO.2 hx,al,ad,ak];by_cases nB:out.length=4000
    ·rw[bf nB,show(((out.length:Nat):Int)==4000)=true by rw[cL];omega];exact⟨0,rfl⟩
    ·rw[bg nB,show(((out.length:Nat):Int)==4000)=false by rw[cO];omega];have hc:∀t:aj,decide (out.length+[t].length<=1073741824)=true:=fun t=>by rw[bX,List.length_singleton];omega
     have hsl:bN (a:Int) ((a+x.2:Nat):Int) s.length=true:=by unfold bN;simp only[bu,bX];omega
     simp only[al,bG,EO,hsk,hc,hsl,an,ar,ak,ad];unfold fL;exact ih _ _ _ (by omega) (by omega) (by omega) (by omega) (by rw[aG,List.length_singleton];omega)
  ·rw[bg (by omega),ct (show ¬(a:Int)<((s.length:Nat):Int) by omega)];exact⟨_,rfl⟩
theorem EP(s:List UInt8):∀(f a:Nat)(line:Int)(out:List aj)(y:Int×List aj),out.length<=4000->iY s f a line out=.inr y->y.2.length<=4000
 |0,a,line,out,y,ho,h=>by cases h
 |f+1,a,line,out,y,ho,h=>by
  unfold iY at h;split at h
  ·split at h
   ·cases h
   ·split at h
    ·cases h
    ·exact EP s f _ _ _ y (by rw[aG,List.length_singleton];omega) h
  ·cases h;exact ho
noncomputable def dL(s:List UInt8):List aj×Int×Int:=
 if 30000<s.length then([],0,4)else match iY s ae (cw false s 1).1 (cw false s 1).2 []with
  |.inl x=>([],x.1,x.2)
  |.inr y=>(y.2++[aj.mk 4 [] y.1],0,0)
theorem agQ(s:List UInt8):M.AX s=some (dL s):=by
 unfold M.AX dL;by_cases h:30000<s.length
 ·rw[bf h,cM (show(30000:Int)<((s.length:Nat):Int) by omega)];rfl
 ·rw[bg h,ct (show ¬(30000:Int)<((s.length:Nat):Int) by omega)];have hsk:M.vH s 0 1=some (fL s 0 1):=RS s (by omega) 0 1 (cN _) (by omega) (by omega);have hcl:=rG false s 1;have e:fL s 0 1=((((cw false s 1).1:Nat):Int),(cw false s 1).2):=by unfold fL;rw[ig,dz]
  have ht:=agO s (by omega) ae (cw false s 1).1 (cw false s 1).2 [] (by have:=aZ;omega) hcl.1 (by omega) (by omega) (by simp);have hlen:=EP s ae (cw false s 1).1 (cw false s 1).2 [];rw[hsk,e];simp only[al,an,ar,ht,ak];generalize iY s ae (cw false s 1).1 (cw false s 1).2 []=r at*;cases r with
  |inl x=>rfl
  |inr y=>
   have:=hlen y (by simp) rfl;have hc:∀t:aj,decide (y.2.length+[t].length<=1073741824)=true:=fun t=>by rw[bX,List.length_singleton];omega
   simp only[hc,ak,ad]
theorem agR(s:List UInt8):M.AY s=some (dL s):=by
 unfold M.AY dL;by_cases h:30000<s.length
 ·rw[bf h,cM (show(30000:Int)<((s.length:Nat):Int) by omega)];rfl
 ·rw[bg h,ct (show ¬(30000:Int)<((s.length:Nat):Int) by omega)];have hsk:M.vI s 0 1 []=some (s,(fL s 0 1).1,(fL s 0 1).2,[]):=RU s [] (by omega) 0 1 (cN _) (by omega) (by omega);have hcl:=rG false s 1;have e:fL s 0 1=((((cw false s 1).1:Nat):Int),(cw false s 1).2):=by unfold fL;rw[ig,dz]
  obtain⟨a',ht⟩:=agP s (by omega) ae (cw false s 1).1 (cw false s 1).2 [] (by have:=aZ;omega) hcl.1 (by omega) (by omega) (by simp);have hlen:=EP s ae (cw false s 1).1 (cw false s 1).2 [];rw[hsk,e];simp only[al,an,ar,ht,ak];generalize iY s ae (cw false s 1).1 (cw false s 1).2 []=r at*;cases r with
  |inl x=>rfl
  |inr y=>
   have:=hlen y (by simp) rfl;have hc:∀t:aj,decide (y.2.length+[t].length<=1073741824)=true:=fun t=>by rw[bX,List.length_singleton];omega
   simp only[hc,ak,ad]
def yg(t:aj):Prop:=(t.Kind=1\/t.Kind=2\/t.Kind=3)/\(t.Kind=2->∃c r,t.Text=c::r/\fF c=true)
theorem agS(s:List UInt8)(a:Nat)(line:Int)(h:a<s.length)(hx:(eM (s.getD a 0) (s.drop (a+1))).1≠0):
 yg (aj.mk (eM (s.getD a 0) (s.drop (a+1))).1 (nA s a (eM (s.getD a 0) (s.drop (a+1))).2) line):=by
 rw[getD_lt h]at hx⊢;unfold eM at hx⊢;unfold yg;cases h1:iq s[a]
 ·cases h2:fF s[a]
  ·cases h3:decide (s[a]=45/\s.drop (a+1)≠[]/\hd (s.drop (a+1))=62)
   ·cases h4:isS s[a]
    ·rw[h1,h2,h3,h4]at hx;exact(hx rfl).elim
    ·exact⟨.inr (.inr rfl),fun q=>by cases q⟩
   ·exact⟨.inr (.inr rfl),fun q=>by cases q⟩
  ·refine⟨.inr (.inl rfl),fun _=>⟨s[a],(s.drop (a+1)).take (iW (s.drop (a+1))),?_,h2⟩⟩;simp only[al,ad];unfold nA;rw[kO h,xi 1,List.take_succ_cons]
 ·exact⟨.inl rfl,fun q=>by cases q⟩
theorem RY(s:List UInt8):∀(f a:Nat)(line:Int)(out:List aj)(y:Int×List aj),(∀t∈out,yg t)->iY s f a line out=.inr y->∀t∈y.2,yg t
 |0,a,line,out,y,ho,h=>by cases h
 |f+1,a,line,out,y,ho,h=>by
  unfold iY at h;split at h
  ·rename_i hl;split at h
   ·cases h
   ·rename_i hx;split at h
    ·cases h
    ·refine RY s f _ _ _ y (fun t ht=>?_) h;rcases df.1 ht with q|q
     ·exact ho t q
     ·rw[ej]at q;rw[q];exact agS s a line hl hx
  ·cases h;exact ho
structure bY (l:List aj):Prop where
 ex:∃o e,l=o++[e]/\e.Kind=4/\e.Text=[]/\(∀t∈o,yg t)/\o.length<=4000
theorem ER(s:List UInt8)(h:(dL s).2.2=0):bY (dL s).1:=by
 unfold dL at h⊢;split at h
 ·cases h
 ·rename_i hl;rw[bg hl];have hlen:=EP s ae (cw false s 1).1 (cw false s 1).2 [];have hok:=RY s ae (cw false s 1).1 (cw false s 1).2 [];have hcode:∀(f a:Nat)(line:Int)(out:List aj)(x:Int×Int),s.length-a<f->iY s f a line out=.inl x->x.2≠0:=fun f=>by
   induction f with
   |zero=>intro a line out x hf;omega
   |succ f ih=>
    intro a line out x hf hx;unfold iY at hx;split at hx
    ·rename_i ha;split at hx
     ·cases hx;intro q;cases q
     ·rename_i hx0;split at hx
      ·cases hx;intro q;cases q
      ·have hp:=EN _ _ hx0;exact ih _ _ _ x (by omega) hx
    ·cases hx
  have hc:=hcode ae (cw false s 1).1 (cw false s 1).2 [];generalize iY s ae (cw false s 1).1 (cw false s 1).2 []=r at*;cases r with
  |inl x=>exact absurd h (hc x (by have:=aZ;omega) rfl)
  |inr y=>exact⟨y.2,_,rfl,rfl,rfl,hok y (by simp) rfl,hlen y (by simp) rfl⟩
end M
namespace M
open Go.V (inB bN ae aZ)
theorem bY.pos{l:List aj}(h:bY l):0<l.length:=by
 obtain⟨o,e,rfl,-⟩:=h.ex;simp
theorem bY.len{l:List aj}(h:bY l):l.length<=4001:=by
 obtain⟨o,e,rfl,-,-,-,h4⟩:=h.ex;simp;omega
theorem bY.mid{l:List aj}(h:bY l){k:Nat}(hk:k+1<l.length):yg (l.getD k aj.zero):=by
 obtain⟨o,e,rfl,-,-,ho,-⟩:=h.ex;rw[aG,List.length_singleton]at hk;have hk':k<o.length:=by omega
 rw[getD_lt (show k<(o++[e]).length by rw[aG,List.length_singleton];omega),List.getElem_append_left hk'];exact ho _ (de hk')
theorem bY.last{l:List aj}(h:bY l){k:Nat}(hk:k+1=l.length):(l.getD k aj.zero).Kind=4/\(l.getD k aj.zero).Text=[]:=by
 obtain⟨o,e,rfl,h1,h2,-,-⟩:=h.ex;rw[aG,List.length_singleton]at hk;have:k=o.length:=by omega
 subst this;rw[getD_lt (show o.length<(o++[e]).length by simp)];simp[h1,h2]
theorem bY.next{l:List aj}(h:bY l){k:Nat}(hk:k<l.length)(h4:(l.getD k aj.zero).Kind≠4):k+1<l.length:=by
 rcases cU (k+1) l.length with q|q
 ·exact q
 ·exact absurd (h.last (by omega)).1 h4
def bU(l:List aj)(k:Nat):aj:=l.getD k aj.zero
def aC(l:List aj)(text:List UInt8)(k:Nat):Bool:=((bU l k).Kind !=4)&&((bU l k).Text==text)
def tK(text:List UInt8):Prop:=∀c r,text=c::r->fF c=false
theorem agT{l:List aj}(h:bY l){k:Nat}(hk:k<l.length){text:List UInt8}(hn:tK text):
 ((((bU l k).Kind==1)||((bU l k).Kind==3))&&((bU l k).Text==text))=aC l text k:=by
 unfold aC;by_cases hl:k+1<l.length
 ·obtain⟨h1,h2⟩:=h.mid hl;have e:(l.getD k aj.zero)=bU l k:=rfl;rw[e]at h1 h2;rcases h1 with q|q|q
  ·rw[q];rfl
  ·rw[q];obtain⟨c,r,ht,hc⟩:=h2 q;have:((bU l k).Text==text)=false:=by
    rw[cO,ht];intro e;rw[hn c r e.symm]at hc;cases hc
   rw[this,Bool.and_false,Bool.and_false]
  ·rw[q];rfl
 ·have:=(h.last (k:=k) (by omega)).1;have e:(l.getD k aj.zero)=bU l k:=rfl;rw[e]at this;rw[this];rfl
def ip(l:List aj)(k:Nat)(b:Bool):av:=av.mk l (k:Int) b
def sp(l:List aj)(k:Nat)(b:Bool):ay:=ay.mk l (k:Int) b
theorem kP{l:List aj}{k:Nat}(hk:k<l.length):inB (k:Int) l.length=true:=by rw[db];simpa using hk
theorem AZ{l:List aj}(h:bY l){k:Nat}(hk:k<l.length){text:List UInt8}(hn:tK text)(b:Bool):M.mR text (ip l k b)=some (!b&&aC l text k,ip l k b):=by
 unfold M.mR ip;have e:=agT h hk hn;unfold bU at e;simp only[kP hk,ak,ad,bG,Bool.and_assoc];rw[<-e]
theorem jh{l:List aj}(h:bY l){k:Nat}(hk:k<l.length){text:List UInt8}(hn:tK text)(b:Bool):M.eI text (ip l k b)=some (bif !b&&aC l text k then(true,ip l (k+1) b)else(false,ip l k b)):=by
 unfold M.eI;rw[AZ h hk hn b];have hlen:=h.len;have w:=cT (k:=k) hk (by omega:l.length<2^62);cases hb:(!b&&aC l text k)
 ·rfl
 ·simp only[an,ar,bV,al,ak,ad];unfold ip;rw[w]
theorem fg{l:List aj}(h:bY l){k:Nat}(hk:k<l.length){text:List UInt8}(hn:tK text)(b:Bool):M.dk text (ip l k b)=some (bif !b&&aC l text k then ip l (k+1) b else ip l k true):=by
 unfold M.dk;rw[jh h hk hn b];cases (!b&&aC l text k)<;>rfl
theorem cZ{l:List aj}(h:bY l){k:Nat}(hk:k<l.length){text:List UInt8}(hb:aC l text k=true):k+1<l.length:=by
 unfold aC at hb;rw[bu,lR]at hb;exact h.next hk hb.1
theorem LF{l:List aj}(h:bY l){k:Nat}(hk:k+1<l.length)(b:Bool):M.rK (sp l k b)=some (sp l (k+1) b):=by
 unfold M.rK sp;have hlen:=h.len;have w:=cT (k:=k) (n:=l.length) (by omega) (by omega:l.length<2^62);simp only[w,cM (show((k+1:Nat):Int)<((l.length:Nat):Int) by omega),ad]
theorem l6{l:List aj}{k:Nat}(hk:k<l.length)(b:Bool):M.lE (sp l k b)=some (bU l k,sp l k b):=by
 unfold M.lE sp bU;simp only[kP hk,ak,ad,bG]
theorem agU{l:List aj}{k:Nat}(hk:k<l.length)(text:List UInt8)(b:Bool):M.A2 text (sp l k b)=some (aC l text k,sp l k b):=by
 unfold M.A2;rw[l6 hk b];rfl
theorem fx{l:List aj}(h:bY l){k:Nat}(hk:k<l.length)(text:List UInt8)(b:Bool):M.dN text (sp l k b)=some (bif !b&&aC l text k then(true,sp l (k+1) b)else(false,sp l k b)):=by
 unfold M.dN;have e:ay.bad (sp l k b)=b:=rfl;rw[e];cases b
 ·simp only[agU hk,an,ar,al,bp,bj];cases hb:aC l text k
  ·rfl
  ·simp only[LF h (cZ h hk hb),an,ar];rfl
 ·rfl
theorem gI{l:List aj}(h:bY l){k:Nat}(hk:k<l.length)(text:List UInt8)(b:Bool):M.dH text (sp l k b)=some (bif !b&&aC l text k then sp l (k+1) b else sp l k true):=by
 unfold M.dH;rw[fx h hk text b];cases (!b&&aC l text k)<;>rfl
def f6(l:List aj)(k:Nat):Bool:=((bU l k).Kind==1)&&l7 (bU l k).Text
theorem ES{l:List aj}(hT:∀t∈l,t.Text.length<=30000){k:Nat}(hk:k<l.length):(bU l k).Text.length<=1048576:=by
 have:=hT (bU l k) (by unfold bU;rw[getD_lt hk];exact de hk);omega
theorem yh{l:List aj}(h:bY l)(hT:∀t∈l,t.Text.length<=30000){k:Nat}(hk:k<l.length)(b:Bool):M.fX (sp l k b)=some (bif !b&&f6 l k then((bU l k).Text,sp l (k+1) b)else([],sp l k true)):=by
 have hN:M.A3 (bU l k).Text=some (l7 (bU l k).Text):=by
  unfold M.A3;rw[agV _ (ES hT hk)];rfl
 unfold M.fX f6;rw[l6 hk b];simp only[an,ar,hN,bh,ak,ad];have e:ay.bad (sp l k b)=b:=rfl;rw[e];cases b
 ·cases hk1:((bU l k).Kind==(1:Int))
  ·rw[show((bU l k).Kind !=(1:Int))=true by rw[bne,hk1];rfl];rfl
  ·rw[show((bU l k).Kind !=(1:Int))=false by rw[bne,hk1];rfl];cases l7 (bU l k).Text
   ·rfl
   ·have hn:k+1<l.length:=h.next hk (by
     have:(bU l k).Kind=1:=by simpa using hk1
     unfold bU at this;rw[this];decide)
    simp only[LF h hn,an,ar];rfl
 ·rfl
theorem ET{l:List aj}(h:bY l)(hT:∀t∈l,t.Text.length<=30000){k:Nat}(hk:k<l.length)(b:Bool):M.gJ (ip l k b)=some (bif !b&&f6 l k then((bU l k).Text,ip l (k+1) b)else([],ip l k true)):=by
 have hN:=RZ (bU l k).Text (ES hT hk);have hlen:=h.len;have w:=cT (k:=k) hk (by omega:l.length<2^62);have e1:M.A4 1 (ip l k b)=some (bif !b&&f6 l k then((bU l k).Text,ip l (k+1) b)else([],ip l k true)):=by
  unfold M.A4 f6 ip;have e:l.getD k aj.zero=bU l k:=rfl;simp only[kP hk,bG,e,hN,w,an,ar];cases b
  ·cases hk1:((bU l k).Kind==(1:Int))
   ·rw[show((bU l k).Kind !=(1:Int))=true by rw[bne,hk1];rfl];rfl
   ·rw[show((bU l k).Kind !=(1:Int))=false by rw[bne,hk1];rfl];cases l7 (bU l k).Text<;>rfl
  ·rfl
 unfold M.gJ;rw[e1];rfl
end M
namespace M
open Go.V (inB bN ae aZ)
def words:List (List UInt8):=M.jP.getD []++M.jQ.getD []
theorem A5:words.length=23:=by decide
theorem EU:M.fR=some ([]::words):=by decide
def dO(w:List UInt8):Int:=match words.findIdx? (fun x=>x==w)with
 |some i=>(i:Int)+1
 |none=>0
theorem EV(w:List UInt8):0<=dO w/\dO w<=23:=by
 unfold dO;cases h:words.findIdx? (fun x=>x==w)with
 |none=>simp
 |some i=>
  rw[List.findIdx?_eq_some_iff_getElem]at h;obtain⟨hi,-⟩:=h;rw[A5]at hi;simp only;omega
theorem A6:dO []=0:=by decide
theorem EW(w:List UInt8):M.tL w=some (dO w):=by
 have e:=LD (p:=fun x:List UInt8=>x==w) (F:=M.tM w words) (e:=()) (fun k=>Go.IntKind.wrap .i64 (k+1)) words (by rw[A5];omega) (fun f k hk=>by
  rw[M.tM];simp only[getD_lt hk,bG,db,fP,hk,eG,ad,bQ,cT hk (by rw[A5];omega:words.length<2^62)]) (fun f=>by
  rw[M.tM];simp)
 unfold M.tL;rw[show M.tM w ((Option.getD M.jP Inhabited.default)++(Option.getD M.jQ Inhabited.default)) ae 0=_ from e];unfold dO;cases h:words.findIdx? (fun x=>x==w)with
 |none=>rfl
 |some i=>
  rw[List.findIdx?_eq_some_iff_getElem]at h;obtain⟨hi,-⟩:=h;have:=cT hi (by rw[A5];omega:words.length<2^62);simp only[this];rw[show((i+1:Nat):Int)=(i:Int)+1 by omega]
theorem agW(w:List UInt8):M.A7 w=some (decide (0<dO w)):=by
 unfold M.A7;rw[EW];rfl
theorem R7(w:List UInt8):M.vM ([]::words) w=some (if w=[]then 0 else if dO w=0 then -1 else dO w):=by
 have hl:([]::words).length=24:=by rw[aE,A5]
 have e:=LD (p:=fun x:List UInt8=>w==x) (F:=M.vN ([]::words) w ((([]::words:List (List UInt8)).length:Nat):Int)) (e:=()) (fun k=>k) ([]::words) (by rw[hl];omega) (fun f k hk=>by
  rw[M.vN];simp only[getD_lt hk,bG,db,fP,hk,eG,ad,bQ,cT hk (by rw[hl];omega:([]::words).length<2^62)]) (fun f=>by
  rw[M.vN];simp)
 have hc:(fun x:List UInt8=>w==x)=fun x=>x==w:=funext fun x=>by rw[nb,cL,cL];exact eq_comm
 unfold M.vM;rw[e,hc,List.findIdx?_cons];by_cases h0:w=[]
 ·rw[h0,bf rfl];rfl
 ·rw[bg h0,bg (by rw[cL];exact fun q=>h0 q.symm)];unfold dO;cases h:words.findIdx? (fun x=>x==w)with
  |none=>rfl
  |some i=>
   simp only[iP];rw[bg (by omega)];congr 1
theorem EX(w:List UInt8):M.rL w=some (decide (0<dO w)):=by
 unfold M.rL M.EY;rw[EU];simp only[an,ar,R7,bh,ak,ad];by_cases h0:w=[]
 ·rw[h0,A6];rfl
 ·have hb:=EV w;rw[bg h0,show(w==[])=false from cO.2 h0,bp,bj];by_cases hk:dO w=0
  ·rw[bf hk,hk];rfl
  ·rw[bg hk,cM (by omega),cM (by omega)]
def l8(l:List aj)(k:Nat):Bool:=f6 l k&& !decide (0<dO (bU l k).Text)
def mS(l:List aj)(k:Nat):Bool:=((bU l k).Kind==2)&&nC (bU l k).Text
theorem LG{l:List aj}(h:bY l)(hT:∀t∈l,t.Text.length<=30000){k:Nat}(hk:k<l.length)(b:Bool):M.nD (ip l k b)=some (bif !b&&l8 l k then((bU l k).Text,ip l (k+1) b)else([],ip l k true)):=by
 have hN:M.A8 (bU l k).Text=some (l7 (bU l k).Text&& !decide (0<dO (bU l k).Text)):=by
  unfold M.A8;rw[EX,RZ _ (ES hT hk)];simp only[an,ar,bh,ak,ad]
 have hlen:=h.len;have w:=cT (k:=k) hk (by omega:l.length<2^62);have e1:M.A9 1 (ip l k b)=some (bif !b&&l8 l k then((bU l k).Text,ip l (k+1) b)else([],ip l k true)):=by
  unfold M.A9 l8 f6 ip;have e:l.getD k aj.zero=bU l k:=rfl;simp only[kP hk,bG,e,hN,w,an,ar,Bool.and_assoc];cases b
  ·cases hk1:((bU l k).Kind==(1:Int))
   ·rw[show((bU l k).Kind !=(1:Int))=true by rw[bne,hk1];rfl];rfl
   ·rw[show((bU l k).Kind !=(1:Int))=false by rw[bne,hk1];rfl];cases (l7 (bU l k).Text&& !decide (0<dO (bU l k).Text))<;>rfl
  ·rfl
 unfold M.nD;rw[e1];rfl
theorem LH{l:List aj}(h:bY l)(hT:∀t∈l,t.Text.length<=30000){k:Nat}(hk:k<l.length)(b:Bool):M.nE (sp l k b)=some (bif !b&&l8 l k then((bU l k).Text,sp l (k+1) b)else([],sp l k true)):=by
 unfold M.nE l8;rw[l6 hk b];simp only[an,ar,agW,ak];cases hr:decide (0<dO (bU l k).Text)
 ·simp only[al,yh h hT hk b,an,ar,ak,ad,bp,bQ]
 ·have e:ay.mk (ay.list (sp l k b)) (ay.at_ (sp l k b)) true=sp l k true:=rfl;simp only[ad,e,yh h hT hk true,an,ar,ak,bV,cK,Bool.and_false,al]
theorem agX{l:List aj}(h:bY l)(hT:∀t∈l,t.Text.length<=30000){k:Nat}(hk:k<l.length)(b:Bool):M.tN (ip l k b)=some (bif !b&&mS l k then((bU l k).Text,ip l (k+1) b)else([],ip l k true)):=by
 have hN:=R9 (bU l k).Text (ES hT hk);have hlen:=h.len;have w:=cT (k:=k) hk (by omega:l.length<2^62);have e1:M.Ba 2 (ip l k b)=some (bif !b&&mS l k then((bU l k).Text,ip l (k+1) b)else([],ip l k true)):=by
  unfold M.Ba mS ip;have e:l.getD k aj.zero=bU l k:=rfl;simp only[kP hk,bG,e,hN,w,an,ar];cases b
  ·cases hk1:((bU l k).Kind==(2:Int))
   ·rw[show((bU l k).Kind !=(2:Int))=true by rw[bne,hk1];rfl];rfl
   ·rw[show((bU l k).Kind !=(2:Int))=false by rw[bne,hk1];rfl];cases nC (bU l k).Text<;>rfl
  ·rfl
 unfold M.tN;rw[e1];rfl
theorem agY{l:List aj}(h:bY l){k:Nat}(hk:k<l.length)(b:Bool):M.tO (sp l k b)=some (bif !b&&mS l k then((bU l k).Text,sp l (k+1) b)else([],sp l k true)):=by
 have hN:=agZ (bU l k).Text;unfold M.tO mS;rw[l6 hk b];simp only[an,ar,hN,bh,ak,ad];have e:ay.bad (sp l k b)=b:=rfl;rw[e];cases b
 ·cases hk1:((bU l k).Kind==(2:Int))
  ·rw[show((bU l k).Kind !=(2:Int))=true by rw[bne,hk1];rfl];rfl
  ·rw[show((bU l k).Kind !=(2:Int))=false by rw[bne,hk1];rfl];cases nC (bU l k).Text
   ·rfl
   ·have hn:k+1<l.length:=h.next hk (by
     have:(bU l k).Kind=2:=by simpa using hk1
     unfold bU at this;rw[this];decide)
    simp only[LF h hn,an,ar];rfl
 ·rfl
end M
namespace M
open Go.V (inB bN ae aZ)
inductive PR (α:Type) where
 |ok (v:α) (k:Nat)
 |no (k:Nat)
def PR.bind{α β:Type}(r:PR α)(f:α->Nat->PR β):PR β:=match r with
 |.ok v k=>f v k
 |.no k=>.no k
def cA(l:List aj)(text:List UInt8)(k:Nat):PR Unit:=bif aC l text k then .ok () (k+1)else .no k
def g9(l:List aj)(k:Nat):PR (List UInt8):=bif f6 l k then .ok (bU l k).Text (k+1)else .no k
def mT(l:List aj)(k:Nat):PR (List UInt8):=bif l8 l k then .ok (bU l k).Text (k+1)else .no k
def Bc(l:List aj)(k:Nat):PR (List UInt8):=bif mS l k then .ok (bU l k).Text (k+1)else .no k
def dZ{α:Type}(l:List aj)(el:Nat->PR α):Nat->List α->Nat->PR (List α)
 |m,acc,k=>match el k with
  |.no k'=>.no k'
  |.ok v k1=>match m with
    |0=>.ok (acc++[v]) k1
    |m+1=>bif aC l [44] k1 then dZ l el m (acc++[v]) (k1+1)else .ok (acc++[v]) k1
def dI:aa:=aa.mk 1 [] [] []
def gK(l:List aj)(K:Int)(term:Nat->PR aa)(k:Nat):PR (List UInt8×List aa):=
 (g9 l k).bind fun nm k1=>
   bif K==16 then(cA l [58] k1).bind fun _ k2=>(term k2).bind fun t k3=>.ok (nm,[t]) k3
   else bif K==17 then(bif aC l [40] k1 then(term (k1+1)).bind fun t k3=>(cA l [41] k3).bind fun _ k4=>.ok (nm,[t]) k4 else .ok (nm,[dI]) k1)
   else .ok (nm,[]) k1
def oS(l:List aj)(term:Nat->PR aa)(k:Nat):PR (List aa):=
 bif aC l [60] k then
  (bif aC l [95] (k+1)then .ok dI (k+2)else term (k+1)).bind fun a k1=>
    (bif aC l [44] k1 then term (k1+1)else .ok dI k1).bind fun b k2=>(cA l [62] k2).bind fun _ k3=>.ok [a,b] k3
 else .ok [dI,dI] k
def d6(l:List aj):Nat->Nat->PR aa
 |0,k=>.no k
 |d+1,k=>(g9 l k).bind fun w k1=>
  bif dO w==0 then .ok (aa.mk 30 w [] []) k1
  else bif(dO w==12)||((dO w==13)||((dO w==22)||(dO w==23)))then(cA l [60] k1).bind fun _ k2=>(d6 l d k2).bind fun t k3=>(cA l [62] k3).bind fun _ k4=>.ok (aa.mk (dO w) [] [] [t]) k4
  else bif dO w==15 then(cA l [60] k1).bind fun _ k2=>(dZ l (d6 l d) 5 [] k2).bind fun ts k3=>(cA l [62] k3).bind fun _ k4=>.ok (aa.mk (dO w) [] [] ts) k4
  else bif(dO w==20)||(dO w==21)then(cA l [60] k1).bind fun _ k2=>(mT l k2).bind fun nm k3=>(cA l [62] k3).bind fun _ k4=>.ok (aa.mk (dO w) nm [] []) k4
  else bif dO w==14 then(oS l (d6 l d) k1).bind fun ts k2=>.ok (aa.mk (dO w) [] [] ts) k2
  else bif(dO w==16)||((dO w==17)||((dO w==18)||(dO w==19)))then(cA l [123] k1).bind fun _ k2=>(dZ l (gK l (dO w) (d6 l d)) 15 [] k2).bind fun ps k3=>(cA l [125] k3).bind fun _ k4=>.ok (aa.mk (dO w) [] (ps.map (·.1)) (ps.map (·.2)).flatten) k4
  else .ok (aa.mk (dO w) [] [] []) k1
def Out{α β:Type}(l:List aj)(r:PR α)(o:Option β)(F:α->Nat->Bool->β):Prop:=match r with
 |.ok v k=>k<l.length/\o=some (F v k false)
 |.no k=>k<l.length/\∃v,o=some (F v k true)
def RB{α:Type}(b:Bool)(k:Nat)(r:PR α):PR α:=bif b then .no k else r
theorem cX(c:UInt8)(h:fF c=false):tK [c]:=fun d r e=>by cases e;exact h
def qb(l:List aj)(rec:Int->av->Option (aa×av))(lv:Int)(g:Nat->PR aa):Prop:=
 ∀k b,k<l.length->Out l (RB b k (g k)) (rec lv (ip l k b)) fun v k' b'=>(v,ip l k' b')
theorem mU{α:Type}(l:List α)(x y:α):(l++[x]).set (Int.toNat ((l.length:Nat):Int)) y=l++[y]:=by
 rw[bG,List.set_append_right _ _ (cq _),IG];rfl
theorem l9{α:Type}(l:List α)(x:α):inB ((l.length:Nat):Int) (l++[x]).length=true:=by rw[db];simp
theorem dJ{α:Type}{l:List α}{x:α}(h:l.length<=1000):decide (l.length+[x].length<=1073741824)=true:=by
 rw[bX,List.length_singleton];omega
theorem rM{l:List aj}{rec:Int->av->Option (aa×av)}{g:Nat->PR aa}{K lv:Int}{nm:List UInt8}{ls:List (List UInt8)}{ks:List aa}(hr:qb l rec (Go.IntKind.wrap .i64 (lv+1)) g)
 (hks:ks.length<=1000) {k:Nat} (hk:k<l.length) (b:Bool):
 Out l (RB b k (g k)) (M.ma rec K nm lv ls ks l (k:Int) b) fun v k' b'=>(K,nm,lv,l,(k':Int),b',ls,ks++[v]):=by
 have h:=hr k b hk;unfold M.ma;have e:av.mk l (k:Int) b=ip l k b:=rfl;rw[e];unfold Out at h⊢;cases hg:RB b k (g k)with
 |ok v k'=>
  rw[hg]at h;obtain⟨h1,h2⟩:=h;refine⟨h1,?_⟩;simp only[h2,l9,dJ hks,ar,an,ak,ad,mU,aa.bZ];rfl
 |no k'=>
  rw[hg]at h;obtain⟨h1,v,h2⟩:=h;refine⟨h1,v,?_⟩;simp only[h2,l9,dJ hks,ar,an,ak,ad,mU,aa.bZ];rfl
theorem ag0{l:List aj}(hL:bY l){rec:Int->av->Option (aa×av)}{g:Nat->PR aa}{K lv:Int}{nm:List UInt8}{ls:List (List UInt8)}(hr:qb l rec (Go.IntKind.wrap .i64 (lv+1)) g)
 (most:Nat) (hm:most<=100):∀(f m:Nat)(ks:List aa)(k:Nat),m<f->k<l.length->ks.length+(m+1)<=most->
 Out l (dZ l g m ks k) ((M.rN rec (most:Int) f ((most-m:Nat):Int) (ip l k false) K nm lv ls ks).map fun r=>match r with
  |.inl x=>x
  |.inr x=>x) fun vs k' b'=>(l,(k':Int),b',K,nm,lv,ls,vs):=by
 intro f
 induction f with
 |zero=>intro m ks k h;omega
 |succ f ih=>
  intro m ks k hf hk hks;rw[M.rN,dZ];have eb:av.bad (ip l k false)=false:=rfl;have el:av.list (ip l k false)=l:=rfl;have ea:av.at_ (ip l k false)=(k:Int):=rfl;simp only[eb,el,ea,bp,ad];have cr:=rM (K:=K) (lv:=lv) (nm:=nm) (ls:=ls) (ks:=ks) hr (by omega) hk false;unfold Out at cr;rw[show RB false k (g k)=g k from rfl]at cr;cases hg:g k with
  |no k'=>
   rw[hg]at cr;obtain⟨h1,v,h2⟩:=cr;refine⟨h1,ks++[v],?_⟩;simp only[h2,ar,an,bh,ad,ak,cn];rfl
  |ok v k'=>
   rw[hg]at cr;obtain⟨h1,h2⟩:=cr;cases m with
   |zero=>
    have e:(((most-0:Nat):Int)==(most:Int))=true:=by rw[cL];omega
    refine⟨h1,?_⟩;simp only[h2,e,ar,an,ln,ad,ak,cn];rfl
   |succ m=>
    have e:(((most-(m+1):Nat):Int)==(most:Int))=false:=by rw[cO];omega
    have ht:=jh hL h1 (cX 44 (by decide)) false;have ep:av.mk l (k':Int) false=ip l k' false:=rfl;simp only[h2,e,ep,ht,ar,an,ln,al,ad,ak,cn,bp,bj];cases hb:aC l [44] k'
    ·exact⟨h1,rfl⟩
    ·have hw:Go.IntKind.wrap .i64 (((most-(m+1):Nat):Int)+1)=((most-m:Nat):Int):=by rw[wrap_i64 (by omega) (by omega)];omega
     simp only[ad,bV,al,hw];exact ih m (ks++[v]) (k'+1) (by omega) (cZ hL h1 hb) (by rw[aG,List.length_singleton];omega)
theorem Si{l:List aj}(hL:bY l){rec:Int->av->Option (aa×av)}{g:Nat->PR aa}{K lv:Int}{nm:List UInt8}{ls:List (List UInt8)}(hr:qb l rec (Go.IntKind.wrap .i64 (lv+1)) g)
 {k:Nat} (hk:k<l.length) (b:Bool):Out l (RB b k (dZ l g 5 [] k)) (M.yi rec 6 (ip l k b) K nm lv ls []) fun vs k' b'=>(ip l k' b',K,nm,lv,ls,vs):=by
 cases b with
 |true=>
  refine⟨hk,[],?_⟩;obtain⟨n,hn⟩:∃n,ae=n+1:=⟨ae-1,by have:=aZ;omega⟩;unfold M.yi;rw[hn,M.rN];rfl
 |false=>
  have e:=ag0 hL (K:=K) (lv:=lv) (nm:=nm) (ls:=ls) hr 6 (by omega) ae 5 [] k (by have:=aZ;omega) hk (by simp);have hs:((6-5:Nat):Int)=1:=by decide
  rw[hs]at e;rw[show RB false k (dZ l g 5 [] k)=dZ l g 5 [] k from rfl];unfold M.yi;unfold Out at e⊢;cases hc:dZ l g 5 [] k with
  |ok v k'=>
   rw[hc]at e;obtain⟨h1,h2⟩:=e;refine⟨h1,?_⟩;cases ho:M.rN rec 6 ae 1 (ip l k false) K nm lv ls []with
   |none=>rw[show((6:Nat):Int)=6 from rfl,ho]at h2;cases h2
   |some r=>
    rw[show((6:Nat):Int)=6 from rfl,ho]at h2;cases r<;>(simp only[iP,aw]at h2;rw[h2];rfl)
  |no k'=>
   rw[hc]at e;obtain⟨h1,v,h2⟩:=e;refine⟨h1,v,?_⟩;cases ho:M.rN rec 6 ae 1 (ip l k false) K nm lv ls []with
   |none=>rw[show((6:Nat):Int)=6 from rfl,ho]at h2;cases h2
   |some r=>
    rw[show((6:Nat):Int)=6 from rfl,ho]at h2;cases r<;>(simp only[iP,aw]at h2;rw[h2];rfl)
end M
namespace M
open Go.V (inB bN ae aZ)
def qc(l:List aj)(K:Int)(term:Nat->PR aa)(nm:List UInt8)(k1:Nat):PR (List UInt8×List aa):=
    bif K==16 then(cA l [58] k1).bind fun _ k2=>(term k2).bind fun t k3=>.ok (nm,[t]) k3
    else bif K==17 then(bif aC l [40] k1 then(term (k1+1)).bind fun t k3=>(cA l [41] k3).bind fun _ k4=>.ok (nm,[t]) k4 else .ok (nm,[dI]) k1)
    else .ok (nm,[]) k1
theorem EZ(l:List aj)(K:Int)(term:Nat->PR aa)(k:Nat):gK l K term k=(g9 l k).bind (qc l K term):=rfl
theorem Sj{l:List aj}(hL:bY l){rec:Int->av->Option (aa×av)}{g:Nat->PR aa}{K lv:Int}{nm:List UInt8}{ls:List (List UInt8)}{ks:List aa}(hr:qb l rec (Go.IntKind.wrap .i64 (lv+1)) g)
 (hls:ls.length<=1000) (hks:ks.length<=1000) {p:av} {w:List UInt8} {k1:Nat} {b1:Bool} (hname:M.gJ p=some (w,ip l k1 b1)) (hk:k1<l.length):
 Out l (RB b1 k1 (qc l K g w k1)) (M.yj rec p K nm lv ls ks) fun v k' b'=>(ip l k' b',K,nm,lv,ls++[v.1],ks++v.2):=by
 unfold M.yj qc;simp only[hname,dJ hls,ar,an,ak];have el:∀k b,av.list (ip l k b)=l:=fun _ _=>rfl
 have ea:∀k b,av.at_ (ip l k b)=(k:Int):=fun _ _=>rfl
 have eb:∀k b,av.bad (ip l k b)=b:=fun _ _=>rfl
 have ep:∀(k:Nat) b,av.mk l (k:Int) b=ip l k b:=fun _ _=>rfl
 cases h16:(K==(16:Int))
 ·cases h17:(K==(17:Int))
  ·
   simp only[al,cn,ak,ad];cases b1
   ·exact⟨hk,by simp⟩
   ·exact⟨hk,(w,[]),by simp⟩
  ·simp only[al,ad,jh hL hk (cX 40 (by decide)) b1,ar,an,cn,ak];cases hc:(!b1&&aC l [40] k1)
   ·simp only[al,l9,dJ hks,ak,ad,mU];cases b1
    ·have:aC l [40] k1=false:=by simpa using hc
     rw[this];exact⟨hk,rfl⟩
    ·exact⟨hk,(w,[dI]),rfl⟩
   ·rw[bu,fb]at hc;obtain⟨hb1,hc⟩:=hc;subst hb1;rw[hc];simp only[ad,el,ea,eb];have hk2:=cZ hL hk hc;have cr:=rM (K:=K) (lv:=lv) (nm:=nm) (ls:=ls++[w]) (ks:=ks) hr hks hk2 false;rw[show RB false (k1+1) (g (k1+1))=g (k1+1)from rfl]at cr;rw[show ∀r:PR (List UInt8×List aa),RB false k1 r=r from fun _=>rfl];cases hg:g (k1+1)with
    |no k'=>
     rw[hg]at cr;obtain⟨h1,v,h2⟩:=cr;refine⟨h1,(w,[v]),?_⟩;simp only[h2,ep,fg hL h1 (cX 41 (by decide)) true,ar,an,ak,ad];rfl
    |ok v k'=>
     rw[hg]at cr;obtain⟨h1,h2⟩:=cr;simp only[h2,ep,fg hL h1 (cX 41 (by decide)) false,ar,an,ak,ad,PR.bind,cA];cases hn:aC l [41] k'
     ·exact⟨h1,(w,[v]),rfl⟩
     ·exact⟨cZ hL h1 hn,rfl⟩
 ·simp only[ad,fg hL hk (cX 58 (by decide)) b1,ar,an];cases hc:(!b1&&aC l [58] k1)
  ·simp only[al,el,ea,eb];have cr:=rM (K:=K) (lv:=lv) (nm:=nm) (ls:=ls++[w]) (ks:=ks) hr hks hk true;obtain⟨h1,v,h2⟩:=cr;have:RB b1 k1 ((cA l [58] k1).bind fun _ k2=>(g k2).bind fun t k3=>PR.ok (w,[t]) k3)=PR.no k1:=by
    cases b1
    ·have:aC l [58] k1=false:=by simpa using hc
     unfold cA;rw[this];rfl
    ·rfl
   rw[this];refine⟨hk,(w,[v]),?_⟩;simp only[h2,ep,ar,an,ak,ad]
  ·rw[bu,fb]at hc;obtain⟨hb1,hc⟩:=hc;subst hb1;have hk2:=cZ hL hk hc;simp only[ad,el,ea,eb];have cr:=rM (K:=K) (lv:=lv) (nm:=nm) (ls:=ls++[w]) (ks:=ks) hr hks hk2 false;rw[show RB false (k1+1) (g (k1+1))=g (k1+1)from rfl]at cr;rw[show RB false k1 ((cA l [58] k1).bind fun _ k2=>(g k2).bind fun t k3=>PR.ok (w,[t]) k3)=(g (k1+1)).bind fun t k3=>PR.ok (w,[t]) k3 by unfold cA;rw[hc];rfl];cases hg:g (k1+1)with
   |no k'=>
    rw[hg]at cr;obtain⟨h1,v,h2⟩:=cr;refine⟨h1,(w,[v]),?_⟩;simp only[h2,ep,ar,an,ak,ad]
   |ok v k'=>
    rw[hg]at cr;obtain⟨h1,h2⟩:=cr;refine⟨h1,?_⟩;simp only[h2,ep,ar,an,ak,ad]
theorem ag1{l:List aj}(hL:bY l)(hT:∀t∈l,t.Text.length<=30000){rec:Int->av->Option (aa×av)}{g:Nat->PR aa}{K lv:Int}{nm:List UInt8}{ls:List (List UInt8)}{ks:List aa}(hr:qb l rec (Go.IntKind.wrap .i64 (lv+1)) g)
 (hls:ls.length<=1000) (hks:ks.length<=1000) {k:Nat} (hk:k<l.length) (b:Bool):
 Out l (RB b k (gK l K g k)) (M.yj rec (ip l k b) K nm lv ls ks) fun v k' b'=>(ip l k' b',K,nm,lv,ls++[v.1],ks++v.2):=by
 have hn:=ET hL hT hk b;cases hc:(!b&&f6 l k)
 ·rw[hc]at hn;have h:=Sj hL (K:=K) (nm:=nm) hr hls hks hn hk;rw[EZ];have:RB b k ((g9 l k).bind (qc l K g))=PR.no k:=by
   cases b
   ·have:f6 l k=false:=by simpa using hc
    unfold g9;rw[this];rfl
   ·rfl
  rw[this];exact h
 ·rw[hc]at hn;rw[bu,fb]at hc;obtain⟨hb,hc⟩:=hc;subst hb;have hk4:(l.getD k aj.zero).Kind≠4:=by
   unfold f6 at hc;rw[bu,cL]at hc;have:=hc.1;unfold bU at this;rw[this];decide
  have h:=Sj hL (K:=K) (nm:=nm) hr hls hks hn (hL.next hk hk4);rw[EZ];have:RB false k ((g9 l k).bind (qc l K g))=RB false (k+1) (qc l K g (bU l k).Text (k+1)):=by
   unfold g9;rw[hc];rfl
  rw[this];exact h
end M
namespace M
open Go.V (inB bN ae aZ)
theorem ag2{l:List aj}{K:Int}{g:Nat->PR aa}{w:List UInt8}{k k':Nat}{v:List UInt8×List aa}(h:qc l K g w k=.ok v k'):v.2.length<=1:=by
 unfold qc at h;cases h16:(K==(16:Int))<;>rw[h16]at h
 ·cases h17:(K==(17:Int))<;>rw[h17]at h
  ·cases h;simp
  ·simp only[al,ad]at h;cases hc:aC l [40] k<;>rw[hc]at h
   ·cases h;simp
   ·simp only[ad]at h;cases hg:g (k+1)with
    |no q=>rw[hg]at h;cases h
    |ok t q=>
     rw[hg]at h;simp only[PR.bind,cA]at h;cases hn:aC l [41] q<;>rw[hn]at h<;>cases h;simp
 ·simp only[ad,cA]at h;cases hc:aC l [58] k<;>rw[hc]at h
  ·cases h
  ·simp only[ad,PR.bind]at h;cases hg:g (k+1)with
   |no q=>rw[hg]at h;cases h
   |ok t q=>rw[hg]at h;cases h;simp
theorem Sl{l:List aj}{K:Int}{g:Nat->PR aa}{k k':Nat}{v:List UInt8×List aa}(h:gK l K g k=.ok v k'):v.2.length<=1:=by
 rw[EZ]at h;unfold g9 at h;cases hn:f6 l k<;>rw[hn]at h
 ·cases h
 ·exact ag2 h
theorem LI{α β:Type}:∀(ps:List (α×List β)),(∀p∈ps,p.2.length<=1)->(ps.map (·.2)).flatten.length<=ps.length
 |[],_=>cq _
 |p::r,h=>by
  have h1:=h p (by simp);have h2:=LI r fun q hq=>h q (by simp[hq])
  simp only[eR,List.flatten_cons,aG,aE];omega
theorem ag3{l:List aj}(hL:bY l)(hT:∀t∈l,t.Text.length<=30000){rec:Int->av->Option (aa×av)}{g:Nat->PR aa}{K lv:Int}{nm:List UInt8}(hr:qb l rec (Go.IntKind.wrap .i64 (lv+1)) g)
 (most:Nat) (hm:most<=100):∀(f m:Nat)(ps:List (List UInt8×List aa))(k:Nat),m<f->k<l.length->ps.length+(m+1)<=most->(∀p∈ps,p.2.length<=1)->
 Out l (dZ l (gK l K g) m ps k) ((M.rO rec (most:Int) f ((most-m:Nat):Int) (ip l k false) K nm lv (ps.map (·.1)) (ps.map (·.2)).flatten).map fun r=>match r with
  |.inl x=>x
  |.inr x=>x) fun vs k' b'=>(l,(k':Int),b',K,nm,lv,vs.map (·.1),(vs.map (·.2)).flatten):=by
 intro f
 induction f with
 |zero=>intro m ks k h;omega
 |succ f ih=>
  intro m ps k hf hk hps Bd;rw[M.rO,dZ];have eb:∀k b,av.bad (ip l k b)=b:=fun _ _=>rfl
  have el:∀k b,av.list (ip l k b)=l:=fun _ _=>rfl
  have ea:∀k b,av.at_ (ip l k b)=(k:Int):=fun _ _=>rfl
  have ep:∀(k:Nat) b,av.mk l (k:Int) b=ip l k b:=fun _ _=>rfl
  have hfl:=LI ps Bd;have hlab:=ag1 hL hT (K:=K) (lv:=lv) (nm:=nm) (ls:=ps.map (·.1)) (ks:=(ps.map (·.2)).flatten) hr (by rw[eQ];omega) (by omega) hk false;rw[show RB false k (gK l K g k)=gK l K g k from rfl]at hlab;have mA:∀v:List UInt8×List aa,ps.map (·.1)++[v.1]=(ps++[v]).map (·.1):=fun v=>by rw[zO];rfl
  have mB:∀v:List UInt8×List aa,(ps.map (·.2)).flatten++v.2=((ps++[v]).map (·.2)).flatten:=fun v=>by rw[zO,List.flatten_append];simp
  unfold M.E0;simp only[eb,el,ea,ep,bp,ad];cases hg:gK l K g k with
  |no k'=>
   rw[hg]at hlab;obtain⟨h1,v,h2⟩:=hlab;refine⟨h1,ps++[v],?_⟩;simp only[h2,ar,an,bh,ad,ak,cn,eb,el,ea,mA,mB];rfl
  |ok v k'=>
   have hv:=Sl hg;rw[hg]at hlab;obtain⟨h1,h2⟩:=hlab;cases m with
   |zero=>
    have e:(((most-0:Nat):Int)==(most:Int))=true:=by rw[cL];omega
    refine⟨h1,?_⟩;simp only[h2,e,ar,an,ln,ad,ak,cn,eb,el,ea,mA,mB];rfl
   |succ m=>
    have e:(((most-(m+1):Nat):Int)==(most:Int))=false:=by rw[cO];omega
    have ht:=jh hL h1 (cX 44 (by decide)) false;simp only[h2,e,ep,ht,ar,an,ln,al,ad,ak,cn,bp,bj,eb,el,ea,mA,mB];cases hb:aC l [44] k'
    ·exact⟨h1,rfl⟩
    ·have hw:Go.IntKind.wrap .i64 (((most-(m+1):Nat):Int)+1)=((most-m:Nat):Int):=by rw[wrap_i64 (by omega) (by omega)];omega
     simp only[ad,bV,al,hw];exact ih m (ps++[v]) (k'+1) (by omega) (cZ hL h1 hb) (by rw[aG,List.length_singleton];omega) (fun p hp=>by
      rcases df.1 hp with q|q
      ·exact Bd p q
      ·rw[ej]at q;rw[q];exact hv)
theorem Sm{l:List aj}(hL:bY l)(hT:∀t∈l,t.Text.length<=30000){rec:Int->av->Option (aa×av)}{g:Nat->PR aa}{K lv:Int}{nm:List UInt8}(hr:qb l rec (Go.IntKind.wrap .i64 (lv+1)) g)
 {k:Nat} (hk:k<l.length) (b:Bool):Out l (RB b k (dZ l (gK l K g) 15 [] k)) (M.yk rec 16 (ip l k b) K nm [] [] lv) fun vs k' b'=>(ip l k' b',K,nm,lv,vs.map (·.1),(vs.map (·.2)).flatten):=by
 cases b with
 |true=>
  refine⟨hk,[],?_⟩;obtain⟨n,hn⟩:∃n,ae=n+1:=⟨ae-1,by have:=aZ;omega⟩;unfold M.yk;rw[hn,M.rO];rfl
 |false=>
  have e:=ag3 hL hT (K:=K) (lv:=lv) (nm:=nm) hr 16 (by omega) ae 15 [] k (by have:=aZ;omega) hk (by simp) (by simp);have hs:((16-15:Nat):Int)=1:=by decide
  rw[hs]at e;rw[show RB false k (dZ l (gK l K g) 15 [] k)=dZ l (gK l K g) 15 [] k from rfl];unfold M.yk;unfold Out at e⊢;have e16:((16:Nat):Int)=16:=rfl;have n1:List.map (fun x:List UInt8×List aa=>x.1) []=[]:=rfl;have n2:(List.map (fun x:List UInt8×List aa=>x.2) []).flatten=[]:=rfl;rw[e16,n1,n2]at e;cases hc:dZ l (gK l K g) 15 [] k with
  |ok v k'=>
   rw[hc]at e;obtain⟨h1,h2⟩:=e;refine⟨h1,?_⟩;cases ho:M.rO rec 16 ae 1 (ip l k false) K nm lv [] []with
   |none=>rw[ho]at h2;cases h2
   |some r=>
    rw[ho]at h2;cases r<;>(simp only[iP,aw]at h2;rw[h2];rfl)
  |no k'=>
   rw[hc]at e;obtain⟨h1,v,h2⟩:=e;refine⟨h1,v,?_⟩;cases ho:M.rO rec 16 ae 1 (ip l k false) K nm lv [] []with
   |none=>rw[ho]at h2;cases h2
   |some r=>
    rw[ho]at h2;cases r<;>(simp only[iP,aw]at h2;rw[h2];rfl)
theorem E1(K:Int)(nm:List UInt8)(ls:List (List UInt8))(ks:List aa)(h:ks.length<=2):M.mc K nm ls ae ks=some (K,nm,ls,ks++List.replicate (2-ks.length) dI):=by
 have step:∀f (ks:List aa),ks.length<2->M.mc K nm ls (f+1) ks=M.mc K nm ls f (ks++[dI]):=fun f ks hk=>by
  rw[M.mc,cM (show((ks.length:Nat):Int)<2 by omega)];simp only[l9,dJ (show ks.length<=1000 by omega),ak,ad,mU];rfl
 have stop:∀f (ks:List aa),ks.length=2->M.mc K nm ls (f+1) ks=some (K,nm,ls,ks):=fun f ks hk=>by
  rw[M.mc,ct (show ¬((ks.length:Nat):Int)<2 by omega)];rfl
 obtain⟨n,hn⟩:∃n,ae=n+3:=⟨ae-3,by have:=aZ;omega⟩;rw[hn];have:ks.length=0\/ks.length=1\/ks.length=2:=by omega
 rcases this with q|q|q
 ·rw[step _ _ (by omega),step _ _ (by rw[aG,List.length_singleton];omega),stop _ _ (by simp[q]),q];simp[List.replicate]
 ·rw[step _ _ (by omega),stop _ _ (by simp[q]),q];rfl
 ·rw[stop _ _ q,q];simp
theorem ag4{l:List aj}(hL:bY l){rec:Int->av->Option (aa×av)}{g:Nat->PR aa}{K lv:Int}{nm:List UInt8}{ls:List (List UInt8)}(hr:qb l rec (Go.IntKind.wrap .i64 (lv+1)) g)
 {k:Nat} (hk:k<l.length):Out l (oS l g k) (M.Be rec (ip l k false) K nm lv ls []) fun ts k' b'=>(ip l k' b',K,nm,lv,ls,ts):=by
 have eb:∀k b,av.bad (ip l k b)=b:=fun _ _=>rfl
 have el:∀k b,av.list (ip l k b)=l:=fun _ _=>rfl
 have ea:∀k b,av.at_ (ip l k b)=(k:Int):=fun _ _=>rfl
 have ep:∀(k:Nat) b,av.mk l (k:Int) b=ip l k b:=fun _ _=>rfl
 have p0:=E1 K nm ls [] (by simp);have pU:=E1 K nm ls [dI] (by simp);have p1:=fun a:aa=>E1 K nm ls [a] (by simp)
 have p2:=fun a b:aa=>E1 K nm ls [a,b] (by simp)
 have s0:∀x y:aa,([]++[x]:List aa).set (Int.toNat ((([]:List aa).length:Nat):Int)) y=[y]:=fun x y=>rfl
 have i0:∀x:aa,inB ((([]:List aa).length:Nat):Int) ([]++[x]:List aa).length=true:=fun x=>l9 [] x
 have c0:∀x:aa,decide ((([]:List aa).length)+[x].length<=1073741824)=true:=fun x=>by simp
 have r2:∀a b:aa,[a,b]++List.replicate (2-[a,b].length) dI=[a,b]:=fun a b=>rfl
 have r1:∀a:aa,[a]++List.replicate (2-[a].length) dI=[a,dI]:=fun a=>rfl
 have r0:([]:List aa)++List.replicate (2-([]:List aa).length) dI=[dI,dI]:=rfl;rw[r0]at p0;simp only[r1]at p1 pU;simp only[r2]at p2;unfold M.Be oS;simp only[jh hL hk (cX 60 (by decide)) false,ar,an,bp,bj,ak];cases h60:aC l [60] k
 ·simp only[al,p0,ad];exact⟨hk,rfl⟩
 ·have hk1:=cZ hL hk h60;simp only[ad,jh hL hk1 (cX 95 (by decide)) false,ar,an,bp,bj,ak];cases h95:aC l [95] (k+1)
  ·simp only[al,el,ea,eb];have cr:=rM (K:=K) (lv:=lv) (nm:=nm) (ls:=ls) (ks:=[]) hr (by simp) hk1 false;rw[show RB false (k+1) (g (k+1))=g (k+1)from rfl]at cr;cases hg:g (k+1)with
   |no k'=>
    rw[hg]at cr;obtain⟨h1,v,h2⟩:=cr;refine⟨h1,[v,dI],?_⟩;simp only[h2,ep,jh hL h1 (cX 44 (by decide)) true,fg hL h1 (cX 62 (by decide)) true,ar,an,bV,cK,al,fB,p1,ak,ad]
   |ok a k'=>
    rw[hg]at cr;obtain⟨h1,h2⟩:=cr;simp only[h2,ep,jh hL h1 (cX 44 (by decide)) false,ar,an,bp,bj,fB,ak,PR.bind];cases ji:aC l [44] k'
    ·simp only[al,p1,fg hL h1 (cX 62 (by decide)) false,ar,an,bp,bj,ak,ad,cA];cases eX:aC l [62] k'
     ·exact⟨h1,[a,dI],rfl⟩
     ·exact⟨cZ hL h1 eX,rfl⟩
    ·have hk2:=cZ hL h1 ji;simp only[ad,el,ea,eb];have oU:=rM (K:=K) (lv:=lv) (nm:=nm) (ls:=ls) (ks:=[a]) hr (by simp) hk2 false;rw[show RB false (k'+1) (g (k'+1))=g (k'+1)from rfl]at oU;cases hg2:g (k'+1)with
     |no k2=>
      rw[hg2]at oU;obtain⟨q1,v,q2⟩:=oU;refine⟨q1,[a,v],?_⟩;simp only[q2,ep,fg hL q1 (cX 62 (by decide)) true,ar,an,bV,cK,al,List.singleton_append,p2,ak,ad]
     |ok c k2=>
      rw[hg2]at oU;obtain⟨q1,q2⟩:=oU;simp only[q2,ep,fg hL q1 (cX 62 (by decide)) false,ar,an,bp,bj,List.singleton_append,p2,ak,ad,cA];cases eX:aC l [62] k2
      ·exact⟨q1,[a,c],rfl⟩
      ·exact⟨cZ hL q1 eX,rfl⟩
  ·have oV:=cZ hL hk1 h95;simp only[ad,jh hL oV (cX 44 (by decide)) false,ar,an,bp,bj,ak,i0,c0,s0,PR.bind];rw[show aa.mk 1 [] [] []=dI from rfl,show k+1+1=k+2 from rfl]at*;cases ji:aC l [44] (k+2)
   ·simp only[al,pU,fg hL oV (cX 62 (by decide)) false,ar,an,bp,bj,ak,ad,cA];cases eX:aC l [62] (k+2)
    ·exact⟨oV,[dI,dI],rfl⟩
    ·exact⟨cZ hL oV eX,rfl⟩
   ·have hk2:=cZ hL oV ji;simp only[ad,el,ea,eb];have oU:=rM (K:=K) (lv:=lv) (nm:=nm) (ls:=ls) (ks:=[dI]) hr (by simp) hk2 false;rw[show RB false (k+2+1) (g (k+2+1))=g (k+2+1)from rfl]at oU;cases hg2:g (k+2+1)with
    |no k2=>
     rw[hg2]at oU;obtain⟨q1,v,q2⟩:=oU;refine⟨q1,[dI,v],?_⟩;simp only[q2,ep,fg hL q1 (cX 62 (by decide)) true,ar,an,bV,cK,al,List.singleton_append,p2,ak,ad]
    |ok c k2=>
     rw[hg2]at oU;obtain⟨q1,q2⟩:=oU;simp only[q2,ep,fg hL q1 (cX 62 (by decide)) false,ar,an,bp,bj,List.singleton_append,p2,ak,ad,cA];cases eX:aC l [62] k2
     ·exact⟨q1,[dI,c],rfl⟩
     ·exact⟨cZ hL q1 eX,rfl⟩
end M
namespace M
open Go.V (inB bN ae aZ)
theorem ag5:Option.getD M.fR Inhabited.default=[]::words:=by rw[EU];rfl
theorem ag6:Option.isSome M.fR=true:=by rw[EU];rfl
theorem yl{l:List aj}(hL:bY l){k:Nat}(hk:k<l.length)(h:f6 l k=true):k+1<l.length:=by
 refine hL.next hk ?_;unfold f6 at h;rw[bu,cL]at h;have:=h.1;unfold bU at this;rw[this];decide
theorem E2{l:List aj}(hL:bY l){k:Nat}(hk:k<l.length)(h:l8 l k=true):k+1<l.length:=by
 unfold l8 at h;rw[bu]at h;exact yl hL hk h.1
theorem ag7(rec:Int->av->Option (aa×av)){l:List aj}(hL:bY l)(hT:∀t∈l,t.Text.length<=30000)(lv:Int){k:Nat}(hk:k<l.length):
 ∃v,M.tP rec lv (ip l k true)=some (v,ip l k true):=by
 unfold M.tP;cases decide ((4:Int)<lv)
 ·have hn:=ET hL hT hk true;have hr:M.rL []=some false:=by rw[EX,A6];rfl
  refine⟨aa.mk 30 [] [] [],?_⟩;simp only[al,hn,bV,cK,an,ar,hr,bp,ak,ad]
 ·exact⟨aa.mk 30 [] [] [],rfl⟩
theorem ag8{l:List aj}(hL:bY l)(hT:∀t∈l,t.Text.length<=30000){rec:Int->av->Option (aa×av)}{lv:Int}{d:Nat}(hlv:lv<=4)(hr:qb l rec (Go.IntKind.wrap .i64 (lv+1)) (d6 l d))
 {k:Nat} (hk:k<l.length):Out l (d6 l (d+1) k) (M.tP rec lv (ip l k false)) fun v k' b'=>(v,ip l k' b'):=by
 have el:∀k b,av.list (ip l k b)=l:=fun _ _=>rfl
 have ea:∀k b,av.at_ (ip l k b)=(k:Int):=fun _ _=>rfl
 have eb:∀k b,av.bad (ip l k b)=b:=fun _ _=>rfl
 have ep:∀(k:Nat) b,av.mk l (k:Int) b=ip l k b:=fun _ _=>rfl
 have hn:=ET hL hT hk false;unfold M.tP;rw[ct (show ¬(4:Int)<lv by omega),al,d6,hn];unfold g9;cases hnm:f6 l k
 ·have hr:M.rL []=some false:=by rw[EX,A6];rfl
  refine⟨hk,aa.mk 30 [] [] [],?_⟩;simp only[Bool.and_false,al,an,ar,hr,bp,ak,ad]
 ·have hk1:=yl hL hk hnm;simp only[bp,ak,ad,an,ar,EX,PR.bind,ag5,ag6,R7];generalize hw:(bU l k).Text=w;have hbd:=EV w;by_cases h0:dO w=0
  ·rw[h0];exact⟨hk1,rfl⟩
  ·have hne:w≠[]:=fun q=>h0 (by rw[q];exact A6)
   rw[bg hne,bg h0,cM (show 0<dO w by omega),show(dO w==0)=false from cO.2 h0];simp only[bV,al];generalize dO w=K at*;have hb0:∀(x y:Bool),((true|| !x)&&(true||y))=true:=fun x y=>rfl
   by_cases hA:K=12\/K=13\/K=22\/K=23
   ·have c1:(bif K==12 then K==12 else bif K==13 then K==13 else bif K==22 then K==22 else K==23)=true:=by
     rcases hA with q|q|q|q<;>rw[q]<;>rfl
    have c2:((K==12)||((K==13)||((K==22)||(K==23))))=true:=by
     rcases hA with q|q|q|q<;>rw[q]<;>rfl
    rw[c1,c2];simp only[ad,fg hL hk1 (cX 60 (by decide)) false,ar,an,bp,bj,el,ea,eb,bh,ak];unfold cA;cases h60:aC l [60] (k+1)
    ·simp only[al,el,ea,eb];obtain⟨h1,v,h2⟩:=rM (K:=K) (lv:=lv) (nm:=[]) (ls:=[]) (ks:=[]) hr (by simp) hk1 true;refine⟨hk1,aa.mk K [] [] [v],?_⟩;simp only[h2,ep,fg hL hk1 (cX 62 (by decide)) true,ar,an,bV,cK,al,bh,ak,ad,fB]
    ·have hk2:=cZ hL hk1 h60;simp only[ad,el,ea,eb];have cr:=rM (K:=K) (lv:=lv) (nm:=[]) (ls:=[]) (ks:=[]) hr (by simp) hk2 false;rw[show RB false (k+1+1) (d6 l d (k+1+1))=d6 l d (k+1+1)from rfl]at cr;cases hg:d6 l d (k+1+1)with
     |no k'=>
      rw[hg]at cr;obtain⟨h1,v,h2⟩:=cr;refine⟨h1,aa.mk K [] [] [v],?_⟩;simp only[h2,ep,fg hL h1 (cX 62 (by decide)) true,ar,an,bV,cK,al,bh,ak,ad,fB]
     |ok v k'=>
      rw[hg]at cr;obtain⟨h1,h2⟩:=cr;simp only[h2,ep,fg hL h1 (cX 62 (by decide)) false,ar,an,bp,bj,bh,ak,ad,fB];cases eX:aC l [62] k'
      ·exact⟨h1,aa.mk K [] [] [v],rfl⟩
      ·exact⟨cZ hL h1 eX,rfl⟩
   ·have c1:(bif K==12 then K==12 else bif K==13 then K==13 else bif K==22 then K==22 else K==23)=false:=by
     have e1:(K==12)=false:=by rw[cO];omega
     have e2:(K==13)=false:=by rw[cO];omega
     have e3:(K==22)=false:=by rw[cO];omega
     have e4:(K==23)=false:=by rw[cO];omega
     rw[e1,e2,e3,e4];rfl
    have c2:((K==12)||((K==13)||((K==22)||(K==23))))=false:=by
     have e1:(K==12)=false:=by rw[cO];omega
     have e2:(K==13)=false:=by rw[cO];omega
     have e3:(K==22)=false:=by rw[cO];omega
     have e4:(K==23)=false:=by rw[cO];omega
     rw[e1,e2,e3,e4];rfl
    rw[c1,c2];simp only[al,bh,ak];by_cases h15:K=15
    ·rw[h15];simp only[Int.reduceBEq,ad,fg hL hk1 (cX 60 (by decide)) false,ar,an,bp,bj,bh,ak];unfold cA;cases h60:aC l [60] (k+1)
     ·simp only[al];obtain⟨h1,v,h2⟩:=Si hL (K:=15) (lv:=lv) (nm:=[]) (ls:=[]) hr hk1 true;refine⟨hk1,aa.mk 15 [] [] v,?_⟩;simp only[h2,fg hL hk1 (cX 62 (by decide)) true,ar,an,bV,cK,al,bh,ak,ad]
     ·have hk2:=cZ hL hk1 h60;simp only[ad];have cr:=Si hL (K:=15) (lv:=lv) (nm:=[]) (ls:=[]) hr hk2 false;rw[show RB false (k+1+1) (dZ l (d6 l d) 5 [] (k+1+1))=dZ l (d6 l d) 5 [] (k+1+1)from rfl]at cr;cases hg:dZ l (d6 l d) 5 [] (k+1+1)with
      |no k'=>
       rw[hg]at cr;obtain⟨h1,v,h2⟩:=cr;refine⟨h1,aa.mk 15 [] [] v,?_⟩;simp only[h2,fg hL h1 (cX 62 (by decide)) true,ar,an,bV,cK,al,bh,ak,ad]
      |ok v k'=>
       rw[hg]at cr;obtain⟨h1,h2⟩:=cr;simp only[h2,fg hL h1 (cX 62 (by decide)) false,ar,an,bp,bj,bh,ak,ad];cases eX:aC l [62] k'
       ·exact⟨h1,aa.mk 15 [] [] v,rfl⟩
       ·exact⟨cZ hL h1 eX,rfl⟩
    ·rw[show(K==15)=false from cO.2 h15];simp only[al];by_cases hB:K=20\/K=21
     ·have c1:(bif K==20 then K==20 else K==21)=true:=by rcases hB with q|q<;>rw[q]<;>rfl
      have c2:((K==20)||(K==21))=true:=by rcases hB with q|q<;>rw[q]<;>rfl
      rw[c1,c2];simp only[ad,fg hL hk1 (cX 60 (by decide)) false,ar,an,bp,bj,bh,ak];unfold cA mT;cases h60:aC l [60] (k+1)
      ·refine⟨hk1,aa.mk K [] [] [],?_⟩;simp only[al,LG hL hT hk1 true,fg hL hk1 (cX 62 (by decide)) true,ar,an,bV,cK,bh,ak,ad]
      ·have hk2:=cZ hL hk1 h60;simp only[ad,LG hL hT hk2 false,ar,an,bp,bj,bh,ak];cases hid:l8 l (k+1+1)
       ·refine⟨hk2,aa.mk K [] [] [],?_⟩;simp only[al,fg hL hk2 (cX 62 (by decide)) true,ar,an,bV,cK,bh,ak,ad]
       ·have hk3:=E2 hL hk2 hid;simp only[ad,fg hL hk3 (cX 62 (by decide)) false,ar,an,bp,bj,bh,ak];cases eX:aC l [62] (k+1+1+1)
        ·exact⟨hk3,aa.mk K (bU l (k+1+1)).Text [] [],rfl⟩
        ·exact⟨cZ hL hk3 eX,rfl⟩
     ·have c1:(bif K==20 then K==20 else K==21)=false:=by
       have e1:(K==20)=false:=by rw[cO];omega
       have e2:(K==21)=false:=by rw[cO];omega
       rw[e1,e2];rfl
      have c2:((K==20)||(K==21))=false:=by
       have e1:(K==20)=false:=by rw[cO];omega
       have e2:(K==21)=false:=by rw[cO];omega
       rw[e1,e2];rfl
      rw[c1,c2];simp only[al];by_cases qd:K=14
      ·rw[qd];simp only[Int.reduceBEq,ad];have cr:=ag4 hL (K:=14) (lv:=lv) (nm:=[]) (ls:=[]) hr hk1;cases hg:oS l (d6 l d) (k+1)with
       |no k'=>
        rw[hg]at cr;obtain⟨h1,v,h2⟩:=cr;refine⟨h1,aa.mk 14 [] [] v,?_⟩;simp only[h2,ar,an,bh,ak,ad]
       |ok v k'=>
        rw[hg]at cr;obtain⟨h1,h2⟩:=cr;refine⟨h1,?_⟩;simp only[h2,ar,an,bh,ak,ad]
      ·rw[show(K==14)=false from cO.2 qd];simp only[al];by_cases hC:K=16\/K=17\/K=18\/K=19
       ·have c1:(bif K==16 then K==16 else bif K==17 then K==17 else bif K==18 then K==18 else K==19)=true:=by
         rcases hC with q|q|q|q<;>rw[q]<;>rfl
        have c2:((K==16)||((K==17)||((K==18)||(K==19))))=true:=by
         rcases hC with q|q|q|q<;>rw[q]<;>rfl
        rw[c1,c2];simp only[ad,fg hL hk1 (cX 123 (by decide)) false,ar,an,bp,bj,bh,ak];unfold cA;cases h60:aC l [123] (k+1)
        ·simp only[al];obtain⟨h1,v,h2⟩:=Sm hL hT (K:=K) (lv:=lv) (nm:=[]) hr hk1 true;refine⟨hk1,aa.mk K [] (v.map (·.1)) (v.map (·.2)).flatten,?_⟩;simp only[h2,fg hL hk1 (cX 125 (by decide)) true,ar,an,bV,cK,al,bh,ak,ad]
        ·have hk2:=cZ hL hk1 h60;simp only[ad];have cr:=Sm hL hT (K:=K) (lv:=lv) (nm:=[]) hr hk2 false;rw[show ∀r:PR (List (List UInt8×List aa)),RB false (k+1+1) r=r from fun _=>rfl]at cr;cases hg:dZ l (gK l K (d6 l d)) 15 [] (k+1+1)with
         |no k'=>
          rw[hg]at cr;obtain⟨h1,v,h2⟩:=cr;refine⟨h1,aa.mk K [] (v.map (·.1)) (v.map (·.2)).flatten,?_⟩;simp only[h2,fg hL h1 (cX 125 (by decide)) true,ar,an,bV,cK,al,bh,ak,ad]
         |ok v k'=>
          rw[hg]at cr;obtain⟨h1,h2⟩:=cr;simp only[h2,fg hL h1 (cX 125 (by decide)) false,ar,an,bp,bj,bh,ak,ad];cases eX:aC l [125] k'
          ·exact⟨h1,aa.mk K [] (v.map (·.1)) (v.map (·.2)).flatten,rfl⟩
          ·exact⟨cZ hL h1 eX,rfl⟩
       ·have e1:(K==16)=false:=by rw[cO];omega
        have e2:(K==17)=false:=by rw[cO];omega
        have e3:(K==18)=false:=by rw[cO];omega
        have e4:(K==19)=false:=by rw[cO];omega
        rw[e1,e2,e3,e4];refine⟨hk1,?_⟩;simp only[al,kb,bh,ak,ad]
theorem Sr{l:List aj}(hL:bY l)(hT:∀t∈l,t.Text.length<=30000):∀(n d:Nat)(lv:Int),d<n->d<=4->lv=5-(d:Int)->qb l (M.vO n) lv (d6 l d)
 |0,d,lv,h,_,_=>by omega
 |n+1,d,lv,h,h4,hlv=>fun k b hk=>by
  show Out l _ (M.tP (M.vO n) lv (ip l k b)) _
  cases b with
  |true=>
   obtain⟨v,e⟩:=ag7 (M.vO n) hL hT lv hk;exact⟨hk,v,e⟩
  |false=>
   cases d with
   |zero=>
    refine⟨hk,aa.mk 30 [] [] [],?_⟩;unfold M.tP;rw[cM (show(4:Int)<lv by omega)];rfl
   |succ d=>
    have hw:Go.IntKind.wrap .i64 (lv+1)=5-(d:Int):=by rw[wrap_i64 (by omega) (by omega)];omega
    have hr:=Sr hL hT n d (Go.IntKind.wrap .i64 (lv+1)) (by omega) (by omega) hw;exact ag8 hL hT (by omega) hr hk
end M
namespace M
open Go.V (inB bN ae aZ)
def md{α:Type}(l:List aj)(el:Nat->PR α)(close:List UInt8):Nat->List α->Nat->PR (List α)
 |m,acc,k=>match el k with
  |.no k'=>.no k'
  |.ok v k1=>bif aC l close k1 then .ok (acc++[v]) (k1+1)else match m with
    |0=>.no k1
    |m+1=>bif aC l [44] k1 then md l el close m (acc++[v]) (k1+1)else .no k1
theorem ag9{l:List aj}{a b:List UInt8}(h:a≠b){k:Nat}(ha:aC l a k=true):aC l b k=false:=by
 unfold aC at ha⊢;rw[bu,cL]at ha;rw[ha.2];have:(a==b)=false:=cO.2 h;rw[this,Bool.and_false]
theorem Bf{α:Type}(l:List aj)(el:Nat->PR α)(close:List UInt8)(hc:close≠[44]):∀(m:Nat)(acc:List α)(k:Nat),
 md l el close m acc k=(dZ l el m acc k).bind fun vs k'=>(cA l close k').bind fun _ k''=>.ok vs k''
 |0,acc,k=>by
  rw[md,dZ];cases el k with
  |no k'=>rfl
  |ok v k1=>
   simp only[PR.bind,cA];cases aC l close k1<;>rfl
 |m+1,acc,k=>by
  rw[md,dZ];cases el k with
  |no k'=>rfl
  |ok v k1=>
   simp only;cases h:aC l close k1
   ·cases ji:aC l [44] k1
    ·simp only[al,PR.bind,cA,h]
    ·simp only[al,ad];exact Bf l el close hc m (acc++[v]) (k1+1)
   ·rw[ag9 hc h];simp only[ad,al,PR.bind,cA,h]
def vP(l:List aj)(rec:Int->ay->Option (aa×ay))(dp:Int)(g:Nat->PR aa):Prop:=
 ∀k b,k<l.length->Out l (RB b k (g k)) (rec dp (sp l k b)) fun v k' b'=>(v,sp l k' b')
theorem me{l:List aj}(hL:bY l){k:Nat}(hk:k<l.length)(n most:Int)(b:Bool):M.kh n most (sp l k b)=some (bif decide (most<=n)then sp l k true else bif !b&&aC l [44] k then sp l (k+1) b else sp l k true):=by
 unfold M.kh;rw[gI hL hk [44] b];cases decide (most<=n)
 ·cases (!b&&aC l [44] k)<;>rfl
 ·rfl
theorem aha{l:List aj}(hL:bY l){rec:Int->ay->Option (aa×ay)}{g:Nat->PR aa}{dp:Int}(hr:vP l rec (Go.IntKind.wrap .i64 (dp-1)) g)(a1:Int)(a2:List UInt8)(a3:Int)(a4:List UInt8)(a5:List (List UInt8))(a6:List aa)(a7:List (List UInt8)):
 ∀(f m:Nat)(ks:List aa)(k:Nat),m+1<f->k<l.length->ks.length+(m+1)=6->
 Out l (md l g [62] m ks k) (M.rP rec dp a1 a2 a3 a4 a5 a6 a7 f (sp l k false) ks) fun vs k' b'=>(l,(k':Int),b',a1,a2,a3,a4,a5,a6,a7,vs):=by
 intro f
 induction f with
 |zero=>intro m ks k h;omega
 |succ f ih=>
  intro m ks k hf hk hks;obtain⟨f',rfl⟩:∃f',f=f'+1:=⟨f-1,by omega⟩;rw[M.rP,md];have el:∀k b,ay.list (sp l k b)=l:=fun _ _=>rfl
  have ea:∀k b,ay.at_ (sp l k b)=(k:Int):=fun _ _=>rfl
  have eb:∀k b,ay.bad (sp l k b)=b:=fun _ _=>rfl
  have hend:∀(k:Nat)(xs:List aa),M.rP rec dp a1 a2 a3 a4 a5 a6 a7 (f'+1) (sp l k true) xs=some (l,(k:Int),true,a1,a2,a3,a4,a5,a6,a7,xs):=fun k xs=>by
   rw[M.rP];rfl
  have h:=hr k false hk;rw[show RB false k (g k)=g k from rfl]at h;simp only[eb,bp,ad];cases hg:g k with
  |no k'=>
   rw[hg]at h;obtain⟨h1,v,h2⟩:=h;refine⟨h1,ks++[v],?_⟩;simp only[h2,fx hL h1 [62] true,me hL h1,an,ar,bV,cK,al,l9,dJ (show ks.length<=1000 by omega),ak,ad,mU,aa.bZ];cases decide ((6:Int)<=(((ks++[v]).length:Nat):Int))<;>exact hend k' _
  |ok v k'=>
   rw[hg]at h;obtain⟨h1,h2⟩:=h;simp only[h2,fx hL h1 [62] false,me hL h1,an,ar,bp,bj,l9,dJ (show ks.length<=1000 by omega),ak,ad,mU,aa.bZ];cases eX:aC l [62] k'
   ·simp only[al,me hL h1,an,ar,ak,ad,bp,bj];have hlen:(((ks++[v]).length:Nat):Int)=(6:Int)-(m:Int):=by rw[aG,List.length_singleton];omega
    cases m with
    |zero=>
     rw[cM (show(6:Int)<=(((ks++[v]).length:Nat):Int) by omega)];exact⟨h1,ks++[v],hend k' _⟩
    |succ m=>
     rw[ct (show ¬(6:Int)<=(((ks++[v]).length:Nat):Int) by omega)];simp only[al];cases ji:aC l [44] k'
     ·exact⟨h1,ks++[v],hend k' _⟩
     ·exact ih m (ks++[v]) (k'+1) (by omega) (cZ hL h1 ji) (by rw[aG,List.length_singleton];omega)
   ·refine⟨cZ hL h1 eX,?_⟩;simp only[ad,eb,el,ea]
theorem ahb{l:List aj}(hL:bY l){rec:Int->ay->Option (aa×ay)}{g:Nat->PR aa}{dp:Int}(hr:vP l rec (Go.IntKind.wrap .i64 (dp-1)) g){k:Nat}(hk:k<l.length):
 Out l (oS l g k) (M.Bg rec dp (sp l k false)) fun ts k' b'=>(ts,sp l k' b'):=by
 have s0:∀a b x:aa,List.set [a,b] (Int.toNat 0) x=[x,b]:=fun _ _ _=>rfl
 have s1:∀a b x:aa,List.set [a,b] (Int.toNat 1) x=[a,x]:=fun _ _ _=>rfl
 have i0:∀a b:aa,inB 0 [a,b].length=true:=fun _ _=>rfl
 have i1:∀a b:aa,inB 1 [a,b].length=true:=fun _ _=>rfl
 have eU:aa.mk 1 [] [] []=dI:=rfl;unfold M.Bg oS;simp only[fx hL hk [60] false,ar,an,bp,bj,ak,eU,s0,s1,i0,i1];cases h60:aC l [60] k
 ·exact⟨hk,rfl⟩
 ·have hk1:=cZ hL hk h60;simp only[ad,bV,al,fx hL hk1 [95] false,ar,an,bp,bj,ak];cases h95:aC l [95] (k+1)
  ·simp only[al,bp,ad];have h:=hr (k+1) false hk1;rw[show RB false (k+1) (g (k+1))=g (k+1)from rfl]at h;cases hg:g (k+1)with
   |no k'=>
    rw[hg]at h;obtain⟨h1,v,h2⟩:=h;refine⟨h1,[v,dI],?_⟩;simp only[h2,fx hL h1 [44] true,gI hL h1 [62] true,ar,an,bV,cK,al,ak,ad,aa.bZ]
   |ok a k'=>
    rw[hg]at h;obtain⟨h1,h2⟩:=h;simp only[h2,fx hL h1 [44] false,ar,an,bp,bj,ak,PR.bind,aa.bZ];cases ji:aC l [44] k'
    ·simp only[al,gI hL h1 [62] false,ar,an,bp,bj,ak,ad,cA];cases eX:aC l [62] k'
     ·exact⟨h1,[a,dI],rfl⟩
     ·exact⟨cZ hL h1 eX,rfl⟩
    ·have hk2:=cZ hL h1 ji;simp only[ad];have hb:=hr (k'+1) false hk2;rw[show RB false (k'+1) (g (k'+1))=g (k'+1)from rfl]at hb;cases hg2:g (k'+1)with
     |no k2=>
      rw[hg2]at hb;obtain⟨q1,v,q2⟩:=hb;refine⟨q1,[a,v],?_⟩;simp only[q2,gI hL q1 [62] true,ar,an,bV,cK,al,ak,ad,aa.bZ,s1,i1]
     |ok c k2=>
      rw[hg2]at hb;obtain⟨q1,q2⟩:=hb;simp only[q2,gI hL q1 [62] false,ar,an,bp,bj,ak,ad,cA,aa.bZ,s1,i1];cases eX:aC l [62] k2
      ·exact⟨q1,[a,c],rfl⟩
      ·exact⟨cZ hL q1 eX,rfl⟩
  ·have oV:=cZ hL hk1 h95;simp only[ad,bV,al,fx hL oV [44] false,ar,an,bp,bj,ak,PR.bind];rw[show k+1+1=k+2 from rfl]at*;cases ji:aC l [44] (k+2)
   ·simp only[al,gI hL oV [62] false,ar,an,bp,bj,ak,ad,cA];cases eX:aC l [62] (k+2)
    ·exact⟨oV,[dI,dI],rfl⟩
    ·exact⟨cZ hL oV eX,rfl⟩
   ·have hk2:=cZ hL oV ji;simp only[ad];have hb:=hr (k+2+1) false hk2;rw[show RB false (k+2+1) (g (k+2+1))=g (k+2+1)from rfl]at hb;cases hg2:g (k+2+1)with
    |no k2=>
     rw[hg2]at hb;obtain⟨q1,v,q2⟩:=hb;refine⟨q1,[dI,v],?_⟩;simp only[q2,gI hL q1 [62] true,ar,an,bV,cK,al,ak,ad,aa.bZ]
    |ok c k2=>
     rw[hg2]at hb;obtain⟨q1,q2⟩:=hb;simp only[q2,gI hL q1 [62] false,ar,an,bp,bj,ak,ad,cA,aa.bZ];cases eX:aC l [62] k2
     ·exact⟨q1,[dI,c],rfl⟩
     ·exact⟨cZ hL q1 eX,rfl⟩
end M
namespace M
open Go.V (inB bN ae aZ)
noncomputable def kQ(l:List aj)(rec:Int->ay->Option (aa×ay))(dp K:Int)(t2:List UInt8)(f:Nat)(o4:List (List UInt8))(o5:List aa)(v:List UInt8×List aa)(k:Nat)(b:Bool):Option ((List M.aj)×Int×Bool×Int×(List UInt8)×(List (List UInt8))×(List M.aa)):=
 bif !b&&aC l [125] k then some (l,((k+1:Nat):Int),b,K,t2,o4++[v.1],o5++v.2)
 else M.ki rec dp K t2 f (bif decide ((16:Int)<=(((o4++[v.1]).length:Nat):Int))then sp l k true else bif !b&&aC l [44] k then sp l (k+1) b else sp l k true) (o4++[v.1]) (o5++v.2)
theorem Ss{l:List aj}(hL:bY l){rec:Int->ay->Option (aa×ay)}{g:Nat->PR aa}{dp K:Int}{t2:List UInt8}{f:Nat}{o4:List (List UInt8)}{o5:List aa}(hr:vP l rec (Go.IntKind.wrap .i64 (dp-1)) g)
 (h4:o4.length<=1000) (h5:o5.length<=1000) {p:ay} (hb:ay.bad p=false) {w:List UInt8} {k1:Nat} {b1:Bool} (hname:M.fX p=some (w,sp l k1 b1)) (hk:k1<l.length):
 Out l (RB b1 k1 (qc l K g w k1)) (some (M.ki rec dp K t2 (f+1) p o4 o5)) fun v k' b'=>kQ l rec dp K t2 f o4 o5 v k' b':=by
 have el:∀k b,ay.list (sp l k b)=l:=fun _ _=>rfl
 have ea:∀k b,ay.at_ (sp l k b)=(k:Int):=fun _ _=>rfl
 have eb:∀k b,ay.bad (sp l k b)=b:=fun _ _=>rfl
 have eu:aa.mk 1 [] [] []=dI:=rfl;rw[M.ki];unfold qc;simp only[hb,bp,ad,hname,ar,an,dJ h4,ak,bj];cases h16:(K==(16:Int))
 ·cases h17:(K==(17:Int))
  ·simp only[al,fx hL hk [125] b1,ar,an,cn,ak,bj];have key:∀o,o=kQ l rec dp K t2 f o4 o5 (w,[]) k1 b1->Out l (RB b1 k1 (PR.ok (w,[]) k1)) (some o) fun v k' b'=>kQ l rec dp K t2 f o4 o5 v k' b':=fun o e=>by
    rw[e];cases b1
    ·exact⟨hk,rfl⟩
    ·exact⟨hk,_,rfl⟩
   apply key;unfold kQ;cases hc:(!b1&&aC l [125] k1)
   ·simp only[al,me hL hk,ar,an,ak,ad,sS]
   ·simp only[ad,el,ea,eb,sS]
  ·simp only[al,ad,fx hL hk [40] b1,ar,an,cn,ak,bj];cases nB:(!b1&&aC l [40] k1)
   ·simp only[al,fx hL hk [125] b1,ar,an,l9,dJ h5,ak,bj,mU,eu];have key:∀o,o=kQ l rec dp K t2 f o4 o5 (w,[dI]) k1 b1->Out l (RB b1 k1 (bif aC l [40] k1 then(g (k1+1)).bind fun t k3=>(cA l [41] k3).bind fun _ k4=>PR.ok (w,[t]) k4 else PR.ok (w,[dI]) k1)) (some o) fun v k' b'=>kQ l rec dp K t2 f o4 o5 v k' b':=fun o e=>by
     rw[e];cases b1
     ·have:aC l [40] k1=false:=by simpa using nB
      rw[this];exact⟨hk,rfl⟩
     ·exact⟨hk,_,rfl⟩
    apply key;unfold kQ;cases hc:(!b1&&aC l [125] k1)
    ·simp only[al,me hL hk,ar,an,ak,ad]
    ·simp only[ad,el,ea,eb]
   ·rw[bu,fb]at nB;obtain⟨hb1,nB⟩:=nB;subst hb1;rw[nB];have hk2:=cZ hL hk nB;have cr:=hr (k1+1) false hk2;rw[show RB false (k1+1) (g (k1+1))=g (k1+1)from rfl]at cr;rw[show ∀r:PR (List UInt8×List aa),RB false k1 r=r from fun _=>rfl];simp only[ad];cases hg:g (k1+1)with
    |no k'=>
     rw[hg]at cr;obtain⟨h1,v,h2⟩:=cr;refine⟨h1,(w,[v]),gV some ?_⟩;simp only[h2,gI hL h1 [41] true,ar,an,bV,cK,al,fx hL h1 [125] true,me hL h1,l9,dJ h5,ak,bj,mU,aa.bZ,ad];unfold kQ;simp only[bV,cK,al]
    |ok v k'=>
     rw[hg]at cr;obtain⟨h1,h2⟩:=cr;simp only[h2,gI hL h1 [41] false,ar,an,bp,bj,PR.bind,cA];cases qe:aC l [41] k'
     ·refine⟨h1,(w,[v]),gV some ?_⟩;simp only[al,fx hL h1 [125] true,me hL h1,ar,an,bV,cK,l9,dJ h5,ak,bj,mU,aa.bZ,ad];unfold kQ;simp only[bV,cK,al]
     ·have h1':=cZ hL h1 qe;refine⟨h1',gV some ?_⟩;simp only[ad,fx hL h1' [125] false,ar,an,bp,l9,dJ h5,ak,bj,mU,aa.bZ];unfold kQ;simp only[bp,bj];cases hc:aC l [125] (k'+1)
      ·simp only[al,me hL h1',ar,an,ak,ad,bp,bj]
      ·simp only[ad,el,ea,eb]
 ·simp only[ad,gI hL hk [58] b1,ar,an];cases hc:(!b1&&aC l [58] k1)
  ·simp only[al];have cr:=hr k1 true hk;obtain⟨h1,v,h2⟩:=cr;have:RB b1 k1 ((cA l [58] k1).bind fun _ k2=>(g k2).bind fun t k3=>PR.ok (w,[t]) k3)=PR.no k1:=by
    cases b1
    ·have:aC l [58] k1=false:=by simpa using hc
     unfold cA;rw[this];rfl
    ·rfl
   rw[this];refine⟨hk,(w,[v]),gV some ?_⟩;simp only[h2,fx hL hk [125] true,me hL hk,ar,an,bV,cK,al,l9,dJ h5,ak,bj,mU,aa.bZ,ad];unfold kQ;simp only[bV,cK,al]
  ·rw[bu,fb]at hc;obtain⟨hb1,hc⟩:=hc;subst hb1;have hk2:=cZ hL hk hc;simp only[ad];have cr:=hr (k1+1) false hk2;rw[show RB false (k1+1) (g (k1+1))=g (k1+1)from rfl]at cr;rw[show RB false k1 ((cA l [58] k1).bind fun _ k2=>(g k2).bind fun t k3=>PR.ok (w,[t]) k3)=(g (k1+1)).bind fun t k3=>PR.ok (w,[t]) k3 by unfold cA;rw[hc];rfl];cases hg:g (k1+1)with
   |no k'=>
    rw[hg]at cr;obtain⟨h1,v,h2⟩:=cr;refine⟨h1,(w,[v]),gV some ?_⟩;simp only[h2,fx hL h1 [125] true,me hL h1,ar,an,bV,cK,al,l9,dJ h5,ak,bj,mU,aa.bZ,ad];unfold kQ;simp only[bV,cK,al]
   |ok v k'=>
    rw[hg]at cr;obtain⟨h1,h2⟩:=cr;refine⟨h1,gV some ?_⟩;simp only[h2,fx hL h1 [125] false,ar,an,bp,l9,dJ h5,ak,bj,mU,aa.bZ];unfold kQ;simp only[bp,bj];cases hc:aC l [125] k'
    ·simp only[al,me hL h1,ar,an,ak,ad,bp,bj]
    ·simp only[ad,el,ea,eb]
theorem ahc{l:List aj}(hL:bY l)(hT:∀t∈l,t.Text.length<=30000){rec:Int->ay->Option (aa×ay)}{g:Nat->PR aa}{dp K:Int}{t2:List UInt8}(hr:vP l rec (Go.IntKind.wrap .i64 (dp-1)) g):
 ∀(f m:Nat)(ps:List (List UInt8×List aa))(k:Nat),m+1<f->k<l.length->ps.length+(m+1)=16->(∀p∈ps,p.2.length<=1)->
 Out l (md l (gK l K g) [125] m ps k) (M.ki rec dp K t2 f (sp l k false) (ps.map (·.1)) (ps.map (·.2)).flatten) fun vs k' b'=>(l,(k':Int),b',K,t2,vs.map (·.1),(vs.map (·.2)).flatten):=by
 intro f
 induction f with
 |zero=>intro m ks k h;omega
 |succ f ih=>
  intro m ps k hf hk hps Bd;obtain⟨f',rfl⟩:∃f',f=f'+1:=⟨f-1,by omega⟩;have hfl:=LI ps Bd;have mA:∀v:List UInt8×List aa,ps.map (·.1)++[v.1]=(ps++[v]).map (·.1):=fun v=>by rw[zO];rfl
  have mB:∀v:List UInt8×List aa,(ps.map (·.2)).flatten++v.2=((ps++[v]).map (·.2)).flatten:=fun v=>by rw[zO,List.flatten_append];simp
  have hend:∀(k:Nat)(xs:List (List UInt8))(ys:List aa),M.ki rec dp K t2 (f'+1) (sp l k true) xs ys=some (l,(k:Int),true,K,t2,xs,ys):=fun k xs ys=>by
   rw[M.ki];rfl
  have hn:=yh hL hT hk false;rw[bp,bj]at hn;have h:Out l (gK l K g k) (some (M.ki rec dp K t2 (f'+1+1) (sp l k false) (ps.map (·.1)) (ps.map (·.2)).flatten)) fun v k' b'=>kQ l rec dp K t2 (f'+1) (ps.map (·.1)) (ps.map (·.2)).flatten v k' b':=by
   rw[EZ];unfold g9;cases hc:f6 l k
   ·rw[hc]at hn;exact Ss hL (K:=K) (t2:=t2) (f:=f'+1) hr (by rw[eQ];omega) (by omega) (show ay.bad (sp l k false)=false from rfl) hn hk
   ·rw[hc]at hn;exact Ss hL (K:=K) (t2:=t2) (f:=f'+1) hr (by rw[eQ];omega) (by omega) (show ay.bad (sp l k false)=false from rfl) hn (yl hL hk hc)
  rw[md];cases hg:gK l K g k with
  |no k'=>
   rw[hg]at h;obtain⟨h1,v,h2⟩:=h;refine⟨h1,ps++[v],?_⟩;rw[ie h2];unfold kQ;simp only[bV,cK,al,mA,mB];cases decide ((16:Int)<=((((ps++[v]).map (·.1)).length:Nat):Int))<;>exact hend k' _ _
  |ok v k'=>
   have hv:=Sl hg;rw[hg]at h;obtain⟨h1,h2⟩:=h;simp only[ie h2];unfold kQ;simp only[bp,bj,mA,mB];cases ahd:aC l [125] k'
   ·simp only[al];have hlen:((((ps++[v]).map (·.1)).length:Nat):Int)=(16:Int)-(m:Int):=by rw[eQ,aG,List.length_singleton];omega
    cases m with
    |zero=>
     rw[cM (show(16:Int)<=((((ps++[v]).map (·.1)).length:Nat):Int) by omega)];exact⟨h1,ps++[v],hend k' _ _⟩
    |succ m=>
     rw[ct (show ¬(16:Int)<=((((ps++[v]).map (·.1)).length:Nat):Int) by omega)];simp only[al];cases ji:aC l [44] k'
     ·exact⟨h1,ps++[v],hend k' _ _⟩
     ·refine ih m (ps++[v]) (k'+1) (by omega) (cZ hL h1 ji) (by rw[aG,List.length_singleton];omega) ?_;intro p hp;rcases df.1 hp with q|q
      ·exact Bd p q
      ·rw[ej.1 q];exact hv
   ·exact⟨cZ hL h1 ahd,rfl⟩
theorem ahe{l:List aj}(hL:bY l)(hT:∀t∈l,t.Text.length<=30000){rec:Int->ay->Option (aa×ay)}{g:Nat->PR aa}{dp K:Int}(hr:vP l rec (Go.IntKind.wrap .i64 (dp-1)) g){k:Nat}(hk:k<l.length):
 Out l ((cA l [123] k).bind fun _ k2=>(dZ l (gK l K g) 15 [] k2).bind fun ps k3=>(cA l [125] k3).bind fun _ k4=>.ok ps k4) (M.nF rec dp (sp l k false) K [] [] []) fun vs k' b'=>(sp l k' b',K,[],vs.map (·.1),(vs.map (·.2)).flatten):=by
 unfold M.nF cA;simp only[gI hL hk [123] false,bp,bj,ar,an,ak,ad];cases E3:aC l [123] k
 ·obtain⟨n,hn⟩:∃n,ae=n+1:=⟨ae-1,by have:=aZ;omega⟩;refine⟨hk,[],?_⟩;simp only[al];rw[hn,M.ki];rfl
 ·have hk2:=cZ hL hk E3;have e:=ahc hL hT (K:=K) (t2:=[]) hr ae 15 [] (k+1) (by have:=aZ;omega) hk2 rfl (by simp);rw[Bf l _ [125] (by decide)]at e;simp only[ad];rw[show(([]:List (List UInt8×List aa)).map (·.1))=[]from rfl,show(([]:List (List UInt8×List aa)).map (·.2)).flatten=[]from rfl]at e;rw[show(PR.ok () (k+1)).bind (fun _ k2=>(dZ l (gK l K g) 15 [] k2).bind fun ps k3=>(bif aC l [125] k3 then PR.ok () (k3+1)else PR.no k3).bind fun _ k4=>PR.ok ps k4)=(dZ l (gK l K g) 15 [] (k+1)).bind fun ps k3=>(bif aC l [125] k3 then PR.ok () (k3+1)else PR.no k3).bind fun _ k4=>PR.ok ps k4 from rfl];unfold cA at e;unfold Out at e⊢;cases hc:(dZ l (gK l K g) 15 [] (k+1)).bind fun ps k3=>(bif aC l [125] k3 then PR.ok () (k3+1)else PR.no k3).bind fun _ k4=>PR.ok ps k4 with
  |ok v k'=>
   rw[hc]at e;obtain⟨h1,h2⟩:=e;refine⟨h1,?_⟩;rw[h2];rfl
  |no k'=>
   rw[hc]at e;obtain⟨h1,v,h2⟩:=e;refine⟨h1,v,?_⟩;rw[h2];rfl
end M
namespace M
open Go.V (inB bN ae aZ)
theorem Su(rec:Int->ay->Option (aa×ay)){l:List aj}(hL:bY l)(hT:∀t∈l,t.Text.length<=30000)(dp:Int){k:Nat}(hk:k<l.length)(b:Bool)(h:b=true\/dp=0):
 ∃v,M.vQ rec dp (sp l k b)=some (v,sp l k true):=by
 have hn:=yh hL hT hk true;have e:(b||(dp==(0:Int)))=true:=by rcases h with q|q<;>rw[q]<;>simp
 refine⟨aa.mk 0 [] [] [],?_⟩;unfold M.vQ;rw[show(ay.mk (ay.list (sp l k b)) (ay.at_ (sp l k b)) ((ay.bad (sp l k b))||(dp==(0:Int))))=sp l k true by
  show ay.mk l (k:Int) (b||(dp==(0:Int)))=_
  rw[e];rfl]
 rw[hn];simp only[bV,cK,al,an,ar,EW,A6,ak,ad];rfl
theorem ahf{l:List aj}(hL:bY l)(hT:∀t∈l,t.Text.length<=30000){rec:Int->ay->Option (aa×ay)}{dp:Int}{d:Nat}(hdp:dp≠0)(hr:vP l rec (Go.IntKind.wrap .i64 (dp-1)) (d6 l d))
 {k:Nat} (hk:k<l.length):Out l (d6 l (d+1) k) (M.vQ rec dp (sp l k false)) fun v k' b'=>(v,sp l k' b'):=by
 have el:∀k b,ay.list (sp l k b)=l:=fun _ _=>rfl
 have ea:∀k b,ay.at_ (sp l k b)=(k:Int):=fun _ _=>rfl
 have eb:∀k b,ay.bad (sp l k b)=b:=fun _ _=>rfl
 have ep:∀(k:Nat) b,ay.mk l (k:Int) b=sp l k b:=fun _ _=>rfl
 have hn:=yh hL hT hk false;have e0:(dp==(0:Int))=false:=cO.2 hdp;unfold M.vQ;rw[el,ea,eb,e0,kb,ep,d6,hn];unfold g9;cases hnm:f6 l k
 ·refine⟨hk,aa.mk (dO []) [] [] [],?_⟩;simp only[Bool.and_false,al,an,ar,eb,EW,ak,ad]
 ·have hk1:=yl hL hk hnm;simp only[bp,ak,ad,an,ar,EW,PR.bind,eb,al];generalize hw:(bU l k).Text=w;have hbd:=EV w;by_cases h0:dO w=0
  ·rw[h0];exact⟨hk1,rfl⟩
  ·rw[show(dO w==0)=false from cO.2 h0];simp only[al];generalize dO w=K at*;by_cases hA:K=12\/K=13\/K=22\/K=23
   ·have c1:(bif K==12 then K==12 else bif K==13 then K==13 else bif K==22 then K==22 else K==23)=true:=by
     rcases hA with q|q|q|q<;>rw[q]<;>rfl
    have c2:((K==12)||((K==13)||((K==22)||(K==23))))=true:=by
     rcases hA with q|q|q|q<;>rw[q]<;>rfl
    rw[c1,c2];simp only[ad,gI hL hk1 [60] false,ar,an,bp,bj,bh,ak];unfold cA;cases h60:aC l [60] (k+1)
    ·simp only[al];obtain⟨h1,v,h2⟩:=hr (k+1) true hk1;refine⟨hk1,aa.mk K [] [] [v],?_⟩;simp only[h2,gI hL hk1 [62] true,ar,an,bV,cK,al,bh,bj,ak,ad,aa.bZ]
    ·have hk2:=cZ hL hk1 h60;simp only[ad];have cr:=hr (k+1+1) false hk2;rw[show RB false (k+1+1) (d6 l d (k+1+1))=d6 l d (k+1+1)from rfl]at cr;cases hg:d6 l d (k+1+1)with
     |no k'=>
      rw[hg]at cr;obtain⟨h1,v,h2⟩:=cr;refine⟨h1,aa.mk K [] [] [v],?_⟩;simp only[h2,gI hL h1 [62] true,ar,an,bV,cK,al,bh,bj,ak,ad,aa.bZ]
     |ok v k'=>
      rw[hg]at cr;obtain⟨h1,h2⟩:=cr;simp only[h2,gI hL h1 [62] false,ar,an,bp,bj,bh,ak,ad,aa.bZ];cases eX:aC l [62] k'
      ·exact⟨h1,aa.mk K [] [] [v],rfl⟩
      ·exact⟨cZ hL h1 eX,rfl⟩
   ·have e1:(K==12)=false:=by rw[cO];omega
    have e2:(K==13)=false:=by rw[cO];omega
    have e3:(K==22)=false:=by rw[cO];omega
    have e4:(K==23)=false:=by rw[cO];omega
    simp only[e1,e2,e3,e4,al,kb];by_cases h15:K=15
    ·rw[h15];have n14:((15:Int)==14)=false:=rfl;simp only[n14,cn,al,ad,gI hL hk1 [60] false,ar,an,bp,bj,bh,ak];unfold cA;cases h60:aC l [60] (k+1)
     ·obtain⟨n,hn⟩:∃n,ae=n+1:=⟨ae-1,by have:=aZ;omega⟩;refine⟨hk1,aa.mk 15 [] [] [],?_⟩;simp only[al];rw[hn,M.rP];rfl
     ·have hk2:=cZ hL hk1 h60;simp only[ad];have e:=aha hL hr 0 [] 15 [] [] [] [] ae 5 [] (k+1+1) (by have:=aZ;omega) hk2 rfl;rw[Bf l _ [62] (by decide)]at e;unfold cA at e;cases hg:dZ l (d6 l d) 5 [] (k+1+1)with
      |no k'=>
       rw[hg]at e;obtain⟨h1,v,h2⟩:=e;refine⟨h1,aa.mk 15 [] [] v,?_⟩;simp only[h2];rfl
      |ok v k'=>
       rw[hg]at e;simp only[PR.bind]at e⊢;cases eX:aC l [62] k'
       ·rw[eX]at e;obtain⟨h1,v,h2⟩:=e;refine⟨h1,aa.mk 15 [] [] v,?_⟩;simp only[h2];rfl
       ·rw[eX]at e;obtain⟨h1,h2⟩:=e;refine⟨h1,?_⟩;simp only[h2];rfl
    ·have e15:(K==15)=false:=cO.2 h15;simp only[e15,al];by_cases qd:K=14
     ·rw[qd];have m20:((14:Int)==20)=false:=rfl;have m21:((14:Int)==21)=false:=rfl;simp only[m20,m21,cn,ad,al,kb];have cr:=ahb hL hr hk1;cases hg:oS l (d6 l d) (k+1)with
      |no k'=>
       rw[hg]at cr;obtain⟨h1,v,h2⟩:=cr;refine⟨h1,aa.mk 14 [] [] v,?_⟩;simp only[h2,ar,an,bh,bj,ak,ad]
      |ok v k'=>
       rw[hg]at cr;obtain⟨h1,h2⟩:=cr;refine⟨h1,?_⟩;simp only[h2,ar,an,bh,bj,ak,ad]
     ·have e14:(K==14)=false:=cO.2 qd;simp only[e14,al];by_cases hB:K=20\/K=21
      ·have c1:(bif K==20 then K==20 else K==21)=true:=by rcases hB with q|q<;>rw[q]<;>rfl
       have c2:((K==20)||(K==21))=true:=by rcases hB with q|q<;>rw[q]<;>rfl
       rw[c1,c2];simp only[ad,gI hL hk1 [60] false,ar,an,bp,bj,bh,ak];unfold cA mT;cases h60:aC l [60] (k+1)
       ·refine⟨hk1,aa.mk K [] [] [],?_⟩;simp only[al,LH hL hT hk1 true,gI hL hk1 [62] true,ar,an,bV,cK,bh,bj,ak,ad]
       ·have hk2:=cZ hL hk1 h60;simp only[ad,LH hL hT hk2 false,ar,an,bp,bj,bh,ak];cases hid:l8 l (k+1+1)
        ·refine⟨hk2,aa.mk K [] [] [],?_⟩;simp only[al,gI hL hk2 [62] true,ar,an,bV,cK,bh,bj,ak,ad]
        ·have hk3:=E2 hL hk2 hid;simp only[ad,gI hL hk3 [62] false,ar,an,bp,bj,bh,ak];cases eX:aC l [62] (k+1+1+1)
         ·exact⟨hk3,aa.mk K (bU l (k+1+1)).Text [] [],rfl⟩
         ·exact⟨cZ hL hk3 eX,rfl⟩
      ·have f1:(K==20)=false:=by rw[cO];omega
       have f2:(K==21)=false:=by rw[cO];omega
       simp only[f1,f2,al,kb];by_cases hC:K=16\/K=17\/K=18\/K=19
       ·have c1:(bif K==16 then K==16 else bif K==17 then K==17 else bif K==18 then K==18 else K==19)=true:=by
         rcases hC with q|q|q|q<;>rw[q]<;>rfl
        have c2:((K==16)||((K==17)||((K==18)||(K==19))))=true:=by
         rcases hC with q|q|q|q<;>rw[q]<;>rfl
        rw[c1,c2];simp only[ad];have e:=ahe hL hT (K:=K) hr hk1;have fin:∀(r:PR (List (List UInt8×List aa))),Out l r (M.nF rec dp (sp l (k+1) false) K [] [] []) (fun vs k' b'=>(sp l k' b',K,[],vs.map (·.1),(vs.map (·.2)).flatten))->
         Out l (r.bind fun ps k4=>PR.ok (aa.mk K [] (ps.map (·.1)) (ps.map (·.2)).flatten) k4) (bif(Option.isSome (M.nF rec dp (sp l (k+1) false) K [] [] []))then some (aa.mk (Option.getD (M.nF rec dp (sp l (k+1) false) K [] [] []) Inhabited.default).2.1 (Option.getD (M.nF rec dp (sp l (k+1) false) K [] [] []) Inhabited.default).2.2.1 (Option.getD (M.nF rec dp (sp l (k+1) false) K [] [] []) Inhabited.default).2.2.2.1 (Option.getD (M.nF rec dp (sp l (k+1) false) K [] [] []) Inhabited.default).2.2.2.2,(Option.getD (M.nF rec dp (sp l (k+1) false) K [] [] []) Inhabited.default).1)else none) fun v k' b'=>(v,sp l k' b'):=by
         intro r hr;cases r with
         |no k'=>
          obtain⟨h1,v,h2⟩:=hr;refine⟨h1,aa.mk K [] (v.map (·.1)) (v.map (·.2)).flatten,?_⟩;rw[h2];rfl
         |ok v k'=>
          obtain⟨h1,h2⟩:=hr;refine⟨h1,?_⟩;rw[h2];rfl
        have:=fin _ e;simp only[bh,bj,bQ,ak];unfold cA at this⊢;cases E3:aC l [123] (k+1)
        ·rw[E3]at this;exact this
        ·rw[E3]at this;simp only[ad,PR.bind]at this⊢;cases hg:dZ l (gK l K (d6 l d)) 15 [] (k+1+1)with
         |no k'=>rw[hg]at this;exact this
         |ok v k'=>
          rw[hg]at this;simp only at this⊢;cases eX:aC l [125] k'
          ·rw[eX]at this;exact this
          ·rw[eX]at this;exact this
       ·have g1:(K==16)=false:=by rw[cO];omega
        have g2:(K==17)=false:=by rw[cO];omega
        have g3:(K==18)=false:=by rw[cO];omega
        have g4:(K==19)=false:=by rw[cO];omega
        rw[g1,g2,g3,g4];refine⟨hk1,?_⟩;simp only[al,kb,bh,bj,ak,ad]
theorem Sv{l:List aj}(hL:bY l)(hT:∀t∈l,t.Text.length<=30000):∀(n d:Nat),d<n->d<=4->vP l (M.tQ n) (d:Int) (d6 l d)
 |0,d,h,_=>by omega
 |n+1,d,h,h4=>fun k b hk=>by
  show Out l _ (M.vQ (M.tQ n) (d:Int) (sp l k b)) _
  cases b with
  |true=>
   obtain⟨v,e⟩:=Su (M.tQ n) hL hT (d:Int) hk true (Or.inl rfl);exact⟨hk,v,e⟩
  |false=>
   cases d with
   |zero=>
    obtain⟨v,e⟩:=Su (M.tQ n) hL hT 0 hk false (Or.inr rfl);exact⟨hk,v,e⟩
   |succ d=>
    have hw:Go.IntKind.wrap .i64 (((d+1:Nat):Int)-1)=(d:Int):=by rw[wrap_i64 (by omega) (by omega)];omega
    have hr:=Sv hL hT n d (by omega) (by omega);rw[<-hw]at hr;exact ahf hL hT (by omega) hr hk
end M
namespace M
open Go.V (inB bN ae aZ)
def At{α:Type}(r:PR α)(v:α)(k:Nat)(b:Bool):Prop:=(r=.ok v k/\b=false)\/(r=.no k/\b=true)
theorem Out.at{α β:Type}{l:List aj}{r:PR α}{o:Option β}{F:α->Nat->Bool->β}(h:Out l r o F):∃v k b,k<l.length/\At r v k b/\o=some (F v k b):=by
 cases r with
 |ok v k=>exact⟨v,k,false,h.1,Or.inl ⟨rfl,rfl⟩,h.2⟩
 |no k=>obtain⟨h1,v,h2⟩:=h;exact⟨v,k,true,h1,Or.inr ⟨rfl,rfl⟩,h2⟩
theorem At.out{α β:Type}{l:List aj}{r:PR α}{o:Option β}{F:α->Nat->Bool->β}{v:α}{k:Nat}{b:Bool}(hk:k<l.length)(h:At r v k b)(ho:o=some (F v k b)):Out l r o F:=by
 rcases h with⟨e1,e2⟩|⟨e1,e2⟩
 ·rw[e1];rw[e2]at ho;exact⟨hk,ho⟩
 ·rw[e1];rw[e2]at ho;exact⟨hk,v,ho⟩
theorem vR{α β:Type}(b:Bool)(k:Nat)(r:PR α)(f:α->Nat->PR β):RB b k (r.bind f)=(RB b k r).bind f:=by cases b<;>rfl
theorem At.bind{α β:Type}{r:PR α}{f:α->Nat->PR β}{v:α}{w:β}{k1 k2:Nat}{b1 b2:Bool}(h:At r v k1 b1)(h2:At (RB b1 k1 (f v k1)) w k2 b2):At (r.bind f) w k2 b2:=by
 rcases h with⟨e1,e2⟩|⟨e1,e2⟩
 ·rw[e1];rw[e2]at h2;exact h2
 ·rw[e1];rw[e2]at h2;exact h2
theorem At.bI{α β:Type}{r:PR α}{f:α->Nat->PR β}{v:α}{w:β}{k k1 k2:Nat}{b b1 b2:Bool}(h:At (RB b k r) v k1 b1)(h2:At (RB b1 k1 (f v k1)) w k2 b2):At (RB b k (r.bind f)) w k2 b2:=by
 rw[vR];exact h.bind h2
theorem At.ret{α:Type}(v:α)(k:Nat)(b:Bool):At (RB b k (PR.ok v k)) v k b:=by
 cases b
 ·exact Or.inl ⟨rfl,rfl⟩
 ·exact Or.inr ⟨rfl,rfl⟩
theorem At.no{α:Type}(v:α)(k:Nat)(r:PR α):At (RB true k r) v k true:=Or.inr ⟨rfl,rfl⟩
theorem mf{α:Type}{l:List aj}{t:List UInt8}{k:Nat}{b:Bool}(h:(!b&&aC l t k)=true)(x y:PR α):RB b k (bif aC l t k then x else y)=x:=by
 rw[bu,fb]at h;rw[h.1,h.2];rfl
theorem nG{α:Type}{l:List aj}{t:List UInt8}{k:Nat}{b:Bool}(h:(!b&&aC l t k)=false)(x y:PR α):RB b k (bif aC l t k then x else y)=RB b k y:=by
 cases b
 ·have:aC l t k=false:=by simpa using h
  rw[this];rfl
 ·rfl
theorem nH{l:List aj}(hL:bY l){t:List UInt8}{k:Nat}{b:Bool}(hk:k<l.length)(h:(!b&&aC l t k)=true):k+1<l.length/\b=false:=by
 rw[bu,fb]at h;exact⟨cZ hL hk h.2,h.1⟩
theorem mg(l:List aj)(k:Nat)(b:Bool):av.mk l (k:Int) b=ip l k b:=rfl
theorem lF(l:List aj)(k:Nat)(b:Bool):av.list (ip l k b)=l:=rfl
theorem kj(l:List aj)(k:Nat)(b:Bool):av.at_ (ip l k b)=(k:Int):=rfl
theorem ir(l:List aj)(k:Nat)(b:Bool):av.bad (ip l k b)=b:=rfl
theorem kR(l:List aj)(k:Nat)(b:Bool):ay.mk l (k:Int) b=sp l k b:=rfl
theorem js(l:List aj)(k:Nat)(b:Bool):ay.list (sp l k b)=l:=rfl
theorem jt(l:List aj)(k:Nat)(b:Bool):ay.at_ (sp l k b)=(k:Int):=rfl
theorem iI(l:List aj)(k:Nat)(b:Bool):ay.bad (sp l k b)=b:=rfl
theorem jR{l:List aj}(hL:bY l){k:Nat}(hk:k<l.length){t:List UInt8}(hn:tK t)(b:Bool):∃k' b',k'<l.length/\At (RB b k (cA l t k)) () k' b'/\M.dk t (ip l k b)=some (ip l k' b'):=by
 rw[fg hL hk hn b];unfold cA;cases h:(!b&&aC l t k)
 ·refine⟨k,true,hk,?_,rfl⟩;rw[nG h];exact Or.inr ⟨by cases b<;>rfl,rfl⟩
 ·obtain⟨h1,h2⟩:=nH hL hk h;refine⟨k+1,b,h1,?_,rfl⟩;rw[mf h,h2];exact Or.inl ⟨rfl,rfl⟩
theorem kS{l:List aj}(hL:bY l){k:Nat}(hk:k<l.length)(t:List UInt8)(b:Bool):∃k' b',k'<l.length/\At (RB b k (cA l t k)) () k' b'/\M.dH t (sp l k b)=some (sp l k' b'):=by
 rw[gI hL hk t b];unfold cA;cases h:(!b&&aC l t k)
 ·refine⟨k,true,hk,?_,rfl⟩;rw[nG h];exact Or.inr ⟨by cases b<;>rfl,rfl⟩
 ·obtain⟨h1,h2⟩:=nH hL hk h;refine⟨k+1,b,h1,?_,rfl⟩;rw[mf h,h2];exact Or.inl ⟨rfl,rfl⟩
theorem ym{l:List aj}{k:Nat}(hk:k<l.length){c:Bool}(hc:c=true->k+1<l.length)(w:List UInt8)(b:Bool){β:Type}(st:Nat->Bool->β):
 ∃v k' b',k'<l.length/\At (RB b k (bif c then PR.ok w (k+1)else PR.no k)) v k' b'/\(some (bif !b&&c then(w,st (k+1) b)else([],st k true)):Option (List UInt8×β))=some (v,st k' b')/\(b'=true->v=[]):=by
 cases b with
 |true=>exact⟨[],k,true,hk,Or.inr ⟨rfl,rfl⟩,rfl,fun _=>rfl⟩
 |false=>cases c with
  |true=>exact⟨w,k+1,false,hc rfl,Or.inl ⟨rfl,rfl⟩,rfl,fun h=>by cases h⟩
  |false=>exact⟨[],k,true,hk,Or.inr ⟨rfl,rfl⟩,rfl,fun _=>rfl⟩
theorem Sz{l:List aj}(hL:bY l){k:Nat}(hk:k<l.length)(h:mS l k=true):k+1<l.length:=by
 unfold mS at h;rw[bu,cL]at h;refine hL.next hk ?_;have:=h.1;unfold bU at this;rw[this];decide
theorem vS{l:List aj}(hL:bY l)(hT:∀t∈l,t.Text.length<=30000){k:Nat}(hk:k<l.length)(b:Bool):∃v k' b',k'<l.length/\At (RB b k (g9 l k)) v k' b'/\M.gJ (ip l k b)=some (v,ip l k' b')/\(b'=true->v=[]):=by
 rw[ET hL hT hk b];exact ym hk (yl hL hk) _ b fun k b=>ip l k b
theorem vT{l:List aj}(hL:bY l)(hT:∀t∈l,t.Text.length<=30000){k:Nat}(hk:k<l.length)(b:Bool):∃v k' b',k'<l.length/\At (RB b k (g9 l k)) v k' b'/\M.fX (sp l k b)=some (v,sp l k' b')/\(b'=true->v=[]):=by
 rw[yh hL hT hk b];exact ym hk (yl hL hk) _ b fun k b=>sp l k b
theorem E4{l:List aj}(hL:bY l)(hT:∀t∈l,t.Text.length<=30000){k:Nat}(hk:k<l.length)(b:Bool):∃v k' b',k'<l.length/\At (RB b k (mT l k)) v k' b'/\M.nD (ip l k b)=some (v,ip l k' b')/\(b'=true->v=[]):=by
 rw[LG hL hT hk b];exact ym hk (E2 hL hk) _ b fun k b=>ip l k b
theorem E5{l:List aj}(hL:bY l)(hT:∀t∈l,t.Text.length<=30000){k:Nat}(hk:k<l.length)(b:Bool):∃v k' b',k'<l.length/\At (RB b k (mT l k)) v k' b'/\M.nE (sp l k b)=some (v,sp l k' b')/\(b'=true->v=[]):=by
 rw[LH hL hT hk b];exact ym hk (E2 hL hk) _ b fun k b=>sp l k b
theorem SA{l:List aj}(hL:bY l)(hT:∀t∈l,t.Text.length<=30000){k:Nat}(hk:k<l.length)(b:Bool):∃v k' b',k'<l.length/\At (RB b k (Bc l k)) v k' b'/\M.tN (ip l k b)=some (v,ip l k' b')/\(b'=true->v=[]):=by
 rw[agX hL hT hk b];exact ym hk (Sz hL hk) _ b fun k b=>ip l k b
theorem SB{l:List aj}(hL:bY l){k:Nat}(hk:k<l.length)(b:Bool):∃v k' b',k'<l.length/\At (RB b k (Bc l k)) v k' b'/\M.tO (sp l k b)=some (v,sp l k' b')/\(b'=true->v=[]):=by
 rw[agY hL hk b];exact ym hk (Sz hL hk) _ b fun k b=>sp l k b
theorem E6{l:List aj}(hL:bY l)(hT:∀t∈l,t.Text.length<=30000){k:Nat}(hk:k<l.length)(b:Bool):∃v k' b',k'<l.length/\At (RB b k (d6 l 4 k)) v k' b'/\M.rQ 1 (ip l k b)=some (v,ip l k' b'):=
 (Sr hL hT ae 4 1 (by have:=aZ;omega) (by omega) (by omega) k b hk).at
theorem LJ{l:List aj}(hL:bY l)(hT:∀t∈l,t.Text.length<=30000){k:Nat}(hk:k<l.length)(b:Bool):∃v k' b',k'<l.length/\At (RB b k (d6 l 4 k)) v k' b'/\M.tR 4 (sp l k b)=some (v,sp l k' b'):=
 (Sv hL hT ae 4 (by have:=aZ;omega) (by omega) k b hk).at
def qf(l:List aj)(k:Nat):PR aI:=(g9 l k).bind fun a k1=>
 bif aC l [47] k1 then(g9 l (k1+1)).bind fun b k2=>
  bif aC l [64] k2 then(Bc l (k2+1)).bind fun v k3=>.ok (aI.mk a b v) k3 else .ok (aI.mk a b []) k2
 else .ok (aI.mk [] a []) k1
theorem LK{l:List aj}(hL:bY l)(hT:∀t∈l,t.Text.length<=30000){k:Nat}(hk:k<l.length)(b:Bool):∃v k' b',k'<l.length/\At (RB b k (qf l k)) v k' b'/\M.nI (ip l k b)=some (v,ip l k' b'):=by
 obtain⟨v1,k1,b1,h1,a1,e1,-⟩:=vS hL hT hk b;unfold M.nI qf;simp only[e1,jh hL h1 (cX 47 (by decide)) b1,an,ar,ak];cases h47:(!b1&&aC l [47] k1)
 ·refine⟨aI.mk [] v1 [],k1,b1,h1,a1.bI ?_,rfl⟩;rw[nG h47];exact At.ret _ _ _
 ·obtain⟨h2,hb⟩:=nH hL h1 h47;subst hb;obtain⟨v3,k3,b3,h3,a3,e3,-⟩:=vS hL hT h2 false;simp only[ad,e3,jh hL h3 (cX 64 (by decide)) b3,an,ar,ak];cases h64:(!b3&&aC l [64] k3)
  ·refine⟨aI.mk v1 v3 [],k3,b3,h3,a1.bI ?_,rfl⟩;rw[mf h47];refine At.bind a3 ?_;rw[nG h64];exact At.ret _ _ _
  ·obtain⟨h4,hb⟩:=nH hL h3 h64;subst hb;obtain⟨v5,k5,b5,h5,a5,e5,-⟩:=SA hL hT h4 false;refine⟨aI.mk v1 v3 v5,k5,b5,h5,a1.bI ?_,?_⟩
   ·rw[mf h47];refine At.bind a3 ?_;rw[mf h64];exact At.bind a5 (At.ret _ _ _)
   ·simp only[ad,e5,an,ar,ak]
theorem LL{l:List aj}(hL:bY l)(hT:∀t∈l,t.Text.length<=30000){k:Nat}(hk:k<l.length)(b:Bool):∃v k' b',k'<l.length/\At (RB b k (qf l k)) v k' b'/\M.mh (sp l k b)=some (v,sp l k' b'):=by
 obtain⟨v1,k1,b1,h1,a1,e1,-⟩:=vT hL hT hk b;unfold M.mh qf;simp only[e1,fx hL h1 [47] b1,an,ar,ak];cases h47:(!b1&&aC l [47] k1)
 ·refine⟨aI.mk [] v1 [],k1,b1,h1,a1.bI ?_,rfl⟩;rw[nG h47];exact At.ret _ _ _
 ·obtain⟨h2,hb⟩:=nH hL h1 h47;subst hb;obtain⟨v3,k3,b3,h3,a3,e3,-⟩:=vT hL hT h2 false;simp only[ad,e3,fx hL h3 [64] b3,an,ar,ak];cases h64:(!b3&&aC l [64] k3)
  ·refine⟨aI.mk v1 v3 [],k3,b3,h3,a1.bI ?_,rfl⟩;rw[mf h47];refine At.bind a3 ?_;rw[nG h64];exact At.ret _ _ _
  ·obtain⟨h4,hb⟩:=nH hL h3 h64;subst hb;obtain⟨v5,k5,b5,h5,a5,e5,-⟩:=SB hL h4 false;refine⟨aI.mk v1 v3 v5,k5,b5,h5,a1.bI ?_,?_⟩
   ·rw[mf h47];refine At.bind a3 ?_;rw[mf h64];exact At.bind a5 (At.ret _ _ _)
   ·simp only[ad,e5,an,ar,ak]
end M
namespace M
open Go.V (inB bN ae aZ)
def kT(l:List aj)(k:Nat):PR aV:=(g9 l k).bind fun w k1=>(cA l [58] k1).bind fun _ k2=>(d6 l 4 k2).bind fun t k3=>.ok (aV.mk w t) k3
def mV(l:List aj)(k:Nat):PR aW:=(mT l k).bind fun a k1=>
 bif aC l [97,115] k1 then(mT l (k1+1)).bind fun b k2=>.ok (aW.mk a b) k2 else .ok (aW.mk a []) k1
theorem ahg:tK [97,115]:=fun d r e=>by cases e;decide
theorem ahh{l:List aj}(hL:bY l)(hT:∀t∈l,t.Text.length<=30000)(t1:Int)(t12:List UInt8)(t13:Int)(t14:List UInt8)(t15:Bool)(t16 t17 t18:List UInt8)(o3:List (List UInt8))(o4:List aa)(o5:List aV)(o6:List aW)
 (h5:o5.length<=1000) {k:Nat} (hk:k<l.length) (b:Bool):∃v k' b',k'<l.length/\At (RB b k (kT l k)) v k' b'/\
   M.Bh t1 t12 t13 t14 t15 t16 t17 t18 l (k:Int) b o3 o4 o5 o6=some (t1,t12,t13,t14,t15,t16,t17,t18,l,(k':Int),b',o3,o4,o5++[v],o6):=by
 obtain⟨v1,k1,b1,h1,a1,e1,-⟩:=vS hL hT hk b;obtain⟨k2,b2,h2,a2,e2⟩:=jR hL h1 (cX 58 (by decide)) b1;obtain⟨v3,k3,b3,h3,a3,e3⟩:=E6 hL hT h2 b2;unfold M.Bh kT;refine⟨aV.mk v1 v3,k3,b3,h3,a1.bI (a2.bI (a3.bI (At.ret _ _ _))),?_⟩;simp only[mg,e1,e2,e3,an,ar,dJ h5,ak,ad,lF,kj,ir,aa.bZ]
theorem ahi{l:List aj}(hL:bY l)(hT:∀t∈l,t.Text.length<=30000)(t1:Int)(t12:List UInt8)(t13:Int)(t14:List UInt8)(t15:Bool)(t16 t17 t18:List UInt8)(o3:List (List UInt8))(o4:List aa)(o5:List aV)(o6:List aW)
 (h6:o6.length<=1000) {k:Nat} (hk:k<l.length) (b:Bool):∃v k' b',k'<l.length/\At (RB b k (mV l k)) v k' b'/\
   M.Bi t1 t12 t13 t14 t15 t16 t17 t18 l (k:Int) b o3 o4 o5 o6=some (t1,t12,t13,t14,t15,t16,t17,t18,l,(k':Int),b',o3,o4,o5,o6++[v]):=by
 obtain⟨v1,k1,b1,h1,a1,e1,-⟩:=E4 hL hT hk b;unfold M.Bi mV;simp only[mg,e1,jh hL h1 ahg b1,an,ar,ak];cases h47:(!b1&&aC l [97,115] k1)
 ·refine⟨aW.mk v1 [],k1,b1,h1,a1.bI ?_,?_⟩
  ·rw[nG h47];exact At.ret _ _ _
  ·simp only[al,dJ h6,ak,ad,lF,kj,ir]
 ·obtain⟨h2,hb⟩:=nH hL h1 h47;subst hb;obtain⟨v3,k3,b3,h3,a3,e3,-⟩:=E4 hL hT h2 false;refine⟨aW.mk v1 v3,k3,b3,h3,a1.bI ?_,?_⟩
  ·rw[mf h47];exact At.bind a3 (At.ret _ _ _)
  ·simp only[ad,e3,an,ar,dJ h6,ak,lF,kj,ir]
theorem ahj{l:List aj}(hL:bY l)(hT:∀t∈l,t.Text.length<=30000)(o2:Int)(eN:List UInt8)(fG:Int)(f8:List UInt8)(ga:Bool)(gd gh gi:List UInt8)(o7:List (List UInt8))(o8:List aa)(bL:List aW):
 ∀(f m:Nat)(ks:List aV)(k:Nat),m<f->k<l.length->ks.length+(m+1)<=6->∃vs k' b',k'<l.length/\At (dZ l (kT l) m ks k) vs k' b'/\
  ((M.tU 6 f ((6:Int)-(m:Int)) (ip l k false) o2 eN fG f8 ga gd gh gi o7 o8 ks bL).map fun r=>match r with
  |.inl x=>x
  |.inr x=>x)=some (l,(k':Int),b',o2,eN,fG,f8,ga,gd,gh,gi,o7,o8,vs,bL):=by
 intro f
 induction f with
 |zero=>intro m ks k h;omega
 |succ f ih=>
  intro m ks k hf hk hks;obtain⟨v,k1,b1,h1,a1,e1⟩:=ahh hL hT o2 eN fG f8 ga gd gh gi o7 o8 ks bL (by omega) hk false;rw[M.tU,dZ];simp only[ir,lF,kj,bp,ad,e1,an,ar];rcases a1 with⟨q1,q2⟩|⟨q1,q2⟩
  ·rw[show RB false k (kT l k)=kT l k from rfl]at q1;rw[q1];subst q2;cases m with
   |zero=>
    have e:(((6:Int)-((0:Nat):Int))==6)=true:=by rw[cL];omega
    refine⟨ks++[v],k1,false,h1,Or.inl ⟨rfl,rfl⟩,?_⟩;simp only[e,ln,ad,ak,cn,iP]
   |succ m=>
    have e:(((6:Int)-((m+1:Nat):Int))==6)=false:=by rw[cO];omega
    simp only[e,mg,jh hL h1 (cX 44 (by decide)) false,ar,an,ln,al,ak,cn,bp,bj];cases hb:aC l [44] k1
    ·exact⟨ks++[v],k1,false,h1,Or.inl ⟨rfl,rfl⟩,rfl⟩
    ·have hw:Go.IntKind.wrap .i64 (((6:Int)-((m+1:Nat):Int))+1)=(6:Int)-(m:Int):=by rw[wrap_i64 (by omega) (by omega)];omega
     simp only[ad,bV,al,hw];exact ih m (ks++[v]) (k1+1) (by omega) (cZ hL h1 hb) (by rw[aG,List.length_singleton];omega)
  ·rw[show RB false k (kT l k)=kT l k from rfl]at q1;rw[q1];subst q2;refine⟨ks++[v],k1,true,h1,Or.inr ⟨rfl,rfl⟩,?_⟩;simp only[bh,ad,ak,cn,iP]
theorem ahk{l:List aj}(hL:bY l)(hT:∀t∈l,t.Text.length<=30000)(o2:Int)(eN:List UInt8)(fG:Int)(f8:List UInt8)(ga:Bool)(gd gh gi:List UInt8)(o7:List (List UInt8))(o8:List aa)(bL:List aW){k:Nat}(hk:k<l.length)(b:Bool):
 ∃vs k' b',k'<l.length/\At (RB b k (dZ l (kT l) 5 [] k)) vs k' b'/\
  M.yn 6 (ip l k b) o2 eN fG f8 ga gd gh gi o7 o8 [] bL=some (ip l k' b',o2,eN,fG,f8,ga,gd,gh,gi,o7,o8,vs,bL):=by
 cases b with
 |true=>
  refine⟨[],k,true,hk,At.no _ _ _,?_⟩;obtain⟨n,hn⟩:∃n,ae=n+1:=⟨ae-1,by have:=aZ;omega⟩;unfold M.yn;rw[hn,M.tU];rfl
 |false=>
  obtain⟨vs,k',b',h1,a1,e1⟩:=ahj hL hT o2 eN fG f8 ga gd gh gi o7 o8 bL ae 5 [] k (by have:=aZ;omega) hk (by simp);refine⟨vs,k',b',h1,a1,?_⟩;unfold M.yn;rw[show(6:Int)-((5:Nat):Int)=1 from rfl]at e1;cases ho:M.tU 6 ae 1 (ip l k false) o2 eN fG f8 ga gd gh gi o7 o8 [] bL with
  |none=>rw[ho]at e1;cases e1
  |some r=>
   rw[ho]at e1;cases r<;>(simp only[iP,aw]at e1;rw[e1];rfl)
theorem ahl{l:List aj}(hL:bY l)(hT:∀t∈l,t.Text.length<=30000)(o2:Int)(eN:List UInt8)(fG:Int)(f8:List UInt8)(ga:Bool)(gd gh gi:List UInt8)(o7:List (List UInt8))(o8:List aa)(o9:List aV):
 ∀(f m:Nat)(ks:List aW)(k:Nat),m<f->k<l.length->ks.length+(m+1)<=16->∃vs k' b',k'<l.length/\At (dZ l (mV l) m ks k) vs k' b'/\
  ((M.tV 16 f ((16:Int)-(m:Int)) (ip l k false) o2 eN fG f8 ga gd gh gi o7 o8 o9 ks).map fun r=>match r with
  |.inl x=>x
  |.inr x=>x)=some (l,(k':Int),b',o2,eN,fG,f8,ga,gd,gh,gi,o7,o8,o9,vs):=by
 intro f
 induction f with
 |zero=>intro m ks k h;omega
 |succ f ih=>
  intro m ks k hf hk hks;obtain⟨v,k1,b1,h1,a1,e1⟩:=ahi hL hT o2 eN fG f8 ga gd gh gi o7 o8 o9 ks (by omega) hk false;rw[M.tV,dZ];simp only[ir,lF,kj,bp,ad,e1,an,ar];rcases a1 with⟨q1,q2⟩|⟨q1,q2⟩
  ·rw[show RB false k (mV l k)=mV l k from rfl]at q1;rw[q1];subst q2;cases m with
   |zero=>
    have e:(((16:Int)-((0:Nat):Int))==16)=true:=by rw[cL];omega
    refine⟨ks++[v],k1,false,h1,Or.inl ⟨rfl,rfl⟩,?_⟩;simp only[e,ln,ad,ak,cn,iP]
   |succ m=>
    have e:(((16:Int)-((m+1:Nat):Int))==16)=false:=by rw[cO];omega
    simp only[e,mg,jh hL h1 (cX 44 (by decide)) false,ar,an,ln,al,ak,cn,bp,bj];cases hb:aC l [44] k1
    ·exact⟨ks++[v],k1,false,h1,Or.inl ⟨rfl,rfl⟩,rfl⟩
    ·have hw:Go.IntKind.wrap .i64 (((16:Int)-((m+1:Nat):Int))+1)=(16:Int)-(m:Int):=by rw[wrap_i64 (by omega) (by omega)];omega
     simp only[ad,bV,al,hw];exact ih m (ks++[v]) (k1+1) (by omega) (cZ hL h1 hb) (by rw[aG,List.length_singleton];omega)
  ·rw[show RB false k (mV l k)=mV l k from rfl]at q1;rw[q1];subst q2;refine⟨ks++[v],k1,true,h1,Or.inr ⟨rfl,rfl⟩,?_⟩;simp only[bh,ad,ak,cn,iP]
theorem ahm{l:List aj}(hL:bY l)(hT:∀t∈l,t.Text.length<=30000)(o2:Int)(eN:List UInt8)(fG:Int)(f8:List UInt8)(ga:Bool)(gd gh gi:List UInt8)(o7:List (List UInt8))(o8:List aa)(o9:List aV){k:Nat}(hk:k<l.length)(b:Bool):
 ∃vs k' b',k'<l.length/\At (RB b k (dZ l (mV l) 15 [] k)) vs k' b'/\
  M.vU 16 (ip l k b) o2 eN fG f8 ga gd gh gi o7 o8 o9 []=some (ip l k' b',o2,eN,fG,f8,ga,gd,gh,gi,o7,o8,o9,vs):=by
 cases b with
 |true=>
  refine⟨[],k,true,hk,At.no _ _ _,?_⟩;obtain⟨n,hn⟩:∃n,ae=n+1:=⟨ae-1,by have:=aZ;omega⟩;unfold M.vU;rw[hn,M.tV];rfl
 |false=>
  obtain⟨vs,k',b',h1,a1,e1⟩:=ahl hL hT o2 eN fG f8 ga gd gh gi o7 o8 o9 ae 15 [] k (by have:=aZ;omega) hk (by simp);refine⟨vs,k',b',h1,a1,?_⟩;unfold M.vU;rw[show(16:Int)-((15:Nat):Int)=1 from rfl]at e1;cases ho:M.tV 16 ae 1 (ip l k false) o2 eN fG f8 ga gd gh gi o7 o8 o9 []with
  |none=>rw[ho]at e1;cases e1
  |some r=>
   rw[ho]at e1;cases r<;>(simp only[iP,aw]at e1;rw[e1];rfl)
theorem ahn{l:List aj}(hL:bY l)(hT:∀t∈l,t.Text.length<=30000):∀(f m:Nat)(ks:List aV)(k:Nat),m+1<f->k<l.length->ks.length+(m+1)=6->
 ∃vs k' b',k'<l.length/\At (md l (kT l) [41] m ks k) vs k' b'/\M.nJ  f (sp l k false) ks=some (l,(k':Int),b',vs):=by
 intro f
 induction f with
 |zero=>intro m ks k h;omega
 |succ f ih=>
  intro m ks k hf hk hks;obtain⟨f',rfl⟩:∃f',f=f'+1:=⟨f-1,by omega⟩;have hend:∀(k:Nat)(xs:List aV),M.nJ  (f'+1) (sp l k true) xs=some (l,(k:Int),true,xs):=fun k xs=>by
   rw[M.nJ];rfl
  have fin:∀(v:aV)(k1:Nat)(b1:Bool),k1<l.length->At (kT l k) v k1 b1->
   M.nJ  (f'+1+1) (sp l k false) ks=(bif !b1&&aC l [41] k1 then some (l,((k1+1:Nat):Int),b1,ks++[v])
     else M.nJ  (f'+1) (bif decide ((6:Int)<=(((ks++[v]).length:Nat):Int))then sp l k1 true else bif !b1&&aC l [44] k1 then sp l (k1+1) b1 else sp l k1 true) (ks++[v]))->
   ∃vs k' b',k'<l.length/\At (md l (kT l) [41] m ks k) vs k' b'/\M.nJ  (f'+1+1) (sp l k false) ks=some (l,(k':Int),b',vs):=by
   intro v k1 b1 h1 a1 e1;rw[e1,md];rcases a1 with⟨q1,q2⟩|⟨q1,q2⟩
   ·rw[q1];subst q2;simp only[bp,bj];cases hc:aC l [41] k1
    ·simp only[al];have hlen:(((ks++[v]).length:Nat):Int)=(6:Int)-(m:Int):=by rw[aG,List.length_singleton];omega
     cases m with
     |zero=>
      rw[cM (show(6:Int)<=(((ks++[v]).length:Nat):Int) by omega)];exact⟨ks++[v],k1,true,h1,Or.inr ⟨rfl,rfl⟩,hend k1 _⟩
     |succ m=>
      rw[ct (show ¬(6:Int)<=(((ks++[v]).length:Nat):Int) by omega)];simp only[al];cases ji:aC l [44] k1
      ·exact⟨ks++[v],k1,true,h1,Or.inr ⟨rfl,rfl⟩,hend k1 _⟩
      ·exact ih m (ks++[v]) (k1+1) (by omega) (cZ hL h1 ji) (by rw[aG,List.length_singleton];omega)
    ·exact⟨ks++[v],k1+1,false,cZ hL h1 hc,Or.inl ⟨rfl,rfl⟩,rfl⟩
   ·rw[q1];subst q2;refine⟨ks++[v],k1,true,h1,Or.inr ⟨rfl,rfl⟩,?_⟩;simp only[bV,cK,al];cases decide ((6:Int)<=(((ks++[v]).length:Nat):Int))<;>exact hend k1 _
  obtain⟨v1,k1,b1,h1,a1,e1,-⟩:=vT hL hT hk false;obtain⟨k2,b2,h2,a2,e2⟩:=kS hL h1 [58] b1;obtain⟨v3,k3,b3,h3,a3,e3⟩:=LJ hL hT h2 b2;refine fin (aV.mk v1 v3) k3 b3 h3 (At.bind (r:=g9 l k) a1 (a2.bI (a3.bI (At.ret _ _ _)))) ?_;rw[M.nJ];simp only[iI,bp,ad,e1,e2,e3,fx hL h3 [41] b3,an,ar,dJ (show ks.length<=1000 by omega),ak,bj,aa.bZ];cases hc:(!b3&&aC l [41] k3)
  ·simp only[al,me hL h3,an,ar,ak,ad]
  ·simp only[ad,js,jt,iI]
theorem aho{l:List aj}(hL:bY l)(hT:∀t∈l,t.Text.length<=30000)(P N V:List UInt8):∀(f m:Nat)(ks:List aW)(k:Nat),m+1<f->k<l.length->ks.length+(m+1)=16->
 ∃vs k' b',k'<l.length/\At (md l (mV l) [125] m ks k) vs k' b'/\M.mi 0 [] 0 [] false [] [] [] 4 [] 0 [] false P N V [] [] [] [] [] [] [] f (sp l k false) ks=some (l,(k':Int),b',0,[],0,[],false,[],[],[],4,[],0,[],false,P,N,V,[],[],[],[],[],[],[],vs):=by
 intro f
 induction f with
 |zero=>intro m ks k h;omega
 |succ f ih=>
  intro m ks k hf hk hks;obtain⟨f',rfl⟩:∃f',f=f'+1:=⟨f-1,by omega⟩;have hend:∀(k:Nat)(xs:List aW),M.mi 0 [] 0 [] false [] [] [] 4 [] 0 [] false P N V [] [] [] [] [] [] [] (f'+1) (sp l k true) xs=some (l,(k:Int),true,0,[],0,[],false,[],[],[],4,[],0,[],false,P,N,V,[],[],[],[],[],[],[],xs):=fun k xs=>by
   rw[M.mi];rfl
  have fin:∀(v:aW)(k1:Nat)(b1:Bool),k1<l.length->At (mV l k) v k1 b1->
   M.mi 0 [] 0 [] false [] [] [] 4 [] 0 [] false P N V [] [] [] [] [] [] [] (f'+1+1) (sp l k false) ks=(bif !b1&&aC l [125] k1 then some (l,((k1+1:Nat):Int),b1,0,[],0,[],false,[],[],[],4,[],0,[],false,P,N,V,[],[],[],[],[],[],[],ks++[v])
     else M.mi 0 [] 0 [] false [] [] [] 4 [] 0 [] false P N V [] [] [] [] [] [] [] (f'+1) (bif decide ((16:Int)<=(((ks++[v]).length:Nat):Int))then sp l k1 true else bif !b1&&aC l [44] k1 then sp l (k1+1) b1 else sp l k1 true) (ks++[v]))->
   ∃vs k' b',k'<l.length/\At (md l (mV l) [125] m ks k) vs k' b'/\M.mi 0 [] 0 [] false [] [] [] 4 [] 0 [] false P N V [] [] [] [] [] [] [] (f'+1+1) (sp l k false) ks=some (l,(k':Int),b',0,[],0,[],false,[],[],[],4,[],0,[],false,P,N,V,[],[],[],[],[],[],[],vs):=by
   intro v k1 b1 h1 a1 e1;rw[e1,md];rcases a1 with⟨q1,q2⟩|⟨q1,q2⟩
   ·rw[q1];subst q2;simp only[bp,bj];cases hc:aC l [125] k1
    ·simp only[al];have hlen:(((ks++[v]).length:Nat):Int)=(16:Int)-(m:Int):=by rw[aG,List.length_singleton];omega
     cases m with
     |zero=>
      rw[cM (show(16:Int)<=(((ks++[v]).length:Nat):Int) by omega)];exact⟨ks++[v],k1,true,h1,Or.inr ⟨rfl,rfl⟩,hend k1 _⟩
     |succ m=>
      rw[ct (show ¬(16:Int)<=(((ks++[v]).length:Nat):Int) by omega)];simp only[al];cases ji:aC l [44] k1
      ·exact⟨ks++[v],k1,true,h1,Or.inr ⟨rfl,rfl⟩,hend k1 _⟩
      ·exact ih m (ks++[v]) (k1+1) (by omega) (cZ hL h1 ji) (by rw[aG,List.length_singleton];omega)
    ·exact⟨ks++[v],k1+1,false,cZ hL h1 hc,Or.inl ⟨rfl,rfl⟩,rfl⟩
   ·rw[q1];subst q2;refine⟨ks++[v],k1,true,h1,Or.inr ⟨rfl,rfl⟩,?_⟩;simp only[bV,cK,al];cases decide ((16:Int)<=(((ks++[v]).length:Nat):Int))<;>exact hend k1 _
  obtain⟨v1,k1,b1,h1,a1,e1,-⟩:=E5 hL hT hk false;cases h47:(!b1&&aC l [97,115] k1)
  ·refine fin (aW.mk v1 []) k1 b1 h1 (At.bind (r:=mT l k) a1 ?_) ?_
   ·rw[nG h47];exact At.ret _ _ _
   ·rw[M.mi];simp only[iI,bp,ad,e1,fx hL h1 [97,115] b1,h47,al,fx hL h1 [125] b1,an,ar,dJ (show ks.length<=1000 by omega),ak,bj];cases hc:(!b1&&aC l [125] k1)
    ·simp only[al,me hL h1,an,ar,ak,ad]
    ·simp only[ad,js,jt,iI]
  ·obtain⟨h2,hb⟩:=nH hL h1 h47;subst hb;obtain⟨v3,k3,b3,h3,a3,e3,-⟩:=E5 hL hT h2 false;refine fin (aW.mk v1 v3) k3 b3 h3 (At.bind (r:=mT l k) a1 ?_) ?_
   ·rw[mf h47];exact At.bind a3 (At.ret _ _ _)
   ·rw[M.mi];have ht:M.dN [97,115] (sp l k1 false)=some (true,sp l (k1+1) false):=by rw[fx hL h1,h47];rfl
    simp only[iI,bp,ad,e1,ht,e3,fx hL h3 [125] b3,an,ar,dJ (show ks.length<=1000 by omega),ak,bj];cases hc:(!b3&&aC l [125] k3)
    ·simp only[al,me hL h3,an,ar,ak,ad]
    ·simp only[ad,js,jt,iI]
end M
