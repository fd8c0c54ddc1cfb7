/-
  ONE MOVE OF A HANDLE, the program.
-/
import Derived.Test.YtpablcpgdagijaaGreatXVPa
import Derived.Test.YtpablcpgdagijaaGreatXVYH
set_option linter.unusedVariables false
set_option linter.unusedSimpArgs false
namespace M
open Go.V (inB bV ak b9 c9)
theorem SE{α Y:Type}{P:α->Bool}{F:Nat->Int->Int->List α->Option Y}{h:Int->List α->Option Y}(s0:List α)(d:α)
 (SG:∀f (i j:Nat) s,∀hj:j<s0.length,i<s0.length->s.length=s0.length->P s0[j]=true->s.getD j d=s0[j]->F (f+1) (i:Int) (j:Int) s=F f ((i+1:Nat):Int) ((j+1:Nat):Int) (s.set i s0[j]))
 (SH:∀f (i j:Nat) s,∀hj:j<s0.length,i<s0.length->s.length=s0.length->P s0[j]=false->s.getD j d=s0[j]->F (f+1) (i:Int) (j:Int) s=F f (i:Int) ((j+1:Nat):Int) s)
 (stop:∀f (i:Nat) s,s.length=s0.length->F (f+1) (i:Int) (s0.length:Int) s=h (i:Int) s):
 ∀f (i j:Nat) s,j<=s0.length->s0.length-j<f->i<j->s.length=s0.length->s.take i=(s0.take j).filter P->(∀q,j<=q->s[q]?=s0[q]?)->
  ∃(i':Nat)(s':List α),F f (i:Int) (j:Int) s=h (i':Int) s'/\i'<=s0.length/\s'.length=s0.length/\s'.take i'=s0.filter P:=by
 intro f
 induction f with
 |zero=>intro i j s h1 h2;omega
 |succ f ih=>
  intro i j s h1 h2 hij hl ht hq;rcases Nat.lt_or_ge j s0.length with hj|hj
  ·have hg:s.getD j d=s0[j]:=by rw[List.getD_eq_getElem?_getD,hq j (Nat.le_refl _),List.getElem?_eq_getElem hj];rfl
   have hf:(s0.take (j+1)).filter P=(s0.take j).filter P++(if P s0[j]then[s0[j]]else[]):=by
    rw[List.take_add_one,List.getElem?_eq_getElem hj,Option.toList_some,List.filter_append];congr 1;cases hp:P s0[j]<;>simp[hp]
   cases hp:P s0[j]with
   |true=>
    rw[SG f i j s hj (by omega) hl hp hg];refine ih (i+1) (j+1) _ (by omega) (by omega) (by omega) (by simpa using hl) ?_ fun q hq'=>?_
    ·rw[hf,hp,if_pos rfl,<-ht,List.take_add_one,List.getElem?_set_self (by omega),Option.toList_some,List.take_set_of_le (Nat.le_refl _)]
    ·rw[List.getElem?_set,if_neg (by omega)];exact hq q (by omega)
   |false=>
    rw[SH f i j s hj (by omega) hl hp hg];refine ih i (j+1) s (by omega) (by omega) (by omega) hl ?_ fun q hq'=>hq q (by omega)
    rw[hf,hp,ht];simp
  ·have:j=s0.length:=by omega
   subst this;refine⟨i,s,stop f i s hl,by omega,hl,?_⟩;rw[ht,List.take_length]
theorem FV{α:Type}{P:α->Bool}:∀(l:List α){k:Nat},l.findIdx? (fun x=> !P x)=some k->k<l.length/\(l.take (k+1)).filter P=l.take k
 |[],k,h=>by simp at h
 |x::r,k,h=>by
  rw[List.findIdx?_cons]at h;cases hp:P x with
  |false=>
   rw[hp]at h;simp at h;subst h;exact⟨by simp,by simp[hp]⟩
  |true=>
   rw[hp]at h;simp only[Bool.not_true,Bool.false_eq_true,if_false,Option.map_eq_some_iff]at h;obtain⟨j,hj,rfl⟩:=h;obtain⟨h1,h2⟩:=FV r hj;exact⟨by simp;omega,by simp only[List.take_succ_cons,List.filter_cons,hp,if_true,h2]⟩
theorem SI{α:Type}{P:α->Bool}{l:List α}(h:l.findIdx? (fun x=> !P x)=none):l.filter P=l:=by
 rw[List.findIdx?_eq_none_iff]at h;rw[List.filter_eq_self];intro x hx;simpa using h x hx
def mG(l:List ae)(num:Int):List ae:=l.filter fun e=>e.Num !=num
theorem SJ(s:List ae)(hs:s.length<2^62)(num:Int):M.sZ s num=some (match s.findIdx? (fun e=>e.Num==num)with
 |some k=>(k:Int)
 |none=> -1):=by
 exact contains_of (p:=fun e:ae=>e.Num==num) (F:=fun f k=>M.mH s num (s.length:Int) f k) s hs (fun f k h=>by
  simp only[M.mH,Int.toNat_natCast,getD_lt h,Bool.and_true,cond_true,bF,Int.ofNat_lt,h,decide_true,bn h hs]) (fun f=>by
  simp only[M.mH,Int.lt_irrefl,decide_false,cond_false])
theorem SK(s:List ae)(hs:s.length<2^62)(num:Int):∃o,M.pE s num=some (o,mG s num):=by
 unfold M.pE mG;rw[SJ s hs num];have hP:(fun e:ae=>e.Num==num)=fun e:ae=> !(e.Num !=num):=by funext e;rw[eS,Bool.not_not]
 rw[hP];cases h:s.findIdx? fun e=> !(e.Num !=num)with
 |none=>
  rw[SI (P:=fun e:ae=>e.Num !=num) h];exact⟨num,rfl⟩
 |some k=>
  obtain⟨hk,ht⟩:=FV (P:=fun e:ae=>e.Num !=num) s h;have hne:(((k:Nat):Int)== -1)=false:=by rw[beq_eq_false_iff_ne];omega
  have hw:Go.IntKind.wrap .i64 ((k:Int)+1)=((k+1:Nat):Int):=bn hk hs;obtain⟨i,s',e,hi,hl,hf⟩:=SE (P:=fun e:ae=>e.Num !=num) (F:=fun f i j s=>M.gd num f i j s) (h:=fun i s=>some (i,num,s)) s ae.zero (fun f i j l hj hi hl hp hg=>by
   show M.gd num (f+1) (i:Int) (j:Int) l=_
   rw[M.gd];have hlt:decide ((j:Int)<((l.length:Nat):Int))=true:=by rw[decide_eq_true_eq];omega
   have h1:inB (i:Int) l.length=true:=by rw[bF];simpa [hl]using hi
   have h2:inB (j:Int) l.length=true:=by rw[bF];simpa [hl]using hj
   have hp':(s[j].Num==num)=false:=by rw[eS]at hp;simpa using hp
   simp only[hlt,h1,h2,Int.toNat_natCast,hg,hp',Bool.not_true,Bool.not_false,cond_true,Bool.and_self,Bool.true_and,bn hi hs,bn hj hs]) (fun f i j l hj hi hl hp hg=>by
   show M.gd num (f+1) (i:Int) (j:Int) l=_
   rw[M.gd];have hlt:decide ((j:Int)<((l.length:Nat):Int))=true:=by rw[decide_eq_true_eq];omega
   have h2:inB (j:Int) l.length=true:=by rw[bF];simpa [hl]using hj
   have hp':(s[j].Num==num)=true:=by rw[eS]at hp;simpa using hp
   simp only[hlt,h2,Int.toNat_natCast,hg,hp',Bool.not_true,Bool.not_false,cond_true,cond_false,Bool.and_self,Bool.true_and,bn hj hs]) (fun f i l hl=>by
   show M.gd num (f+1) (i:Int) (s.length:Int) l=_
   rw[M.gd];simp[hl]) ak k (k+1) s hk (by have:=b9;omega) (Nat.lt_succ_self _) rfl ht.symm (fun _ _=>rfl)
  have e':M.gd num ak (k:Int) ((k+1:Nat):Int) s=_:=e;have hd:List.drop s'.length s'=[]:=List.drop_length;have hs1:bV 0 (i:Int) (List.take i s'++List.replicate (s'.length-i) (ae.mk 0 0 false 0 0 0 0)++[]).length=true:=by
   unfold bV;simp only[Bool.and_eq_true,decide_eq_true_eq];simp;omega
  have hs2:bV (i:Int) (s'.length:Int) s'.length=true:=by
   unfold bV;simp only[Bool.and_eq_true,decide_eq_true_eq];omega
  have ht2:List.take i (List.take i s'++List.replicate (s'.length-i) (ae.mk 0 0 false 0 0 0 0)++[])=s.filter fun e=>e.Num !=num:=by
   rw[List.append_nil,List.take_append_of_le_length (by simp;omega),List.take_take,Nat.min_self,hf]
  simp only[Option.getD_some,Option.isSome_some,hne,cond_false,hw,e',Int.toNat_natCast,hd,hs1,hs2,ht2,Nat.le_refl,decide_true,Bool.and_self,Bool.and_true,cond_true];exact⟨num,rfl⟩
structure Inv (tb:List aa) (th:List ai):Prop where
 tt:tb.length<2^62
 hh:th.length<2^62
 en:∀t∈tb,t.Entries.length<=12
 nx:∀t∈tb,1<=t.Next/\t.Next<=1000000
 fd:∀t∈tb,∀e∈t.Entries,(th.any fun x=>x.Id==e.Id)=true/\0<=e.bT
def s6(th:List ai)(id:Int):Int:=(th.getD (il th id).toNat ai.zero).bI
def iT(tb:List aa)(who:Int):Bool:=((tb.getD who.toNat aa.zero).Entries.length:Int)==12||(tb.getD who.toNat aa.zero).Next==1000000
def fF(tb:List aa)(who num:Int):List aa:=tb.set who.toNat (aa.mk (tb.getD who.toNat aa.zero).Next (mG (tb.getD who.toNat aa.zero).Entries num))
def jz(tb:List aa)(to:Int)(id:Int):List aa:=tb.set to.toNat (aa.mk ((tb.getD to.toNat aa.zero).Next+1) ((tb.getD to.toNat aa.zero).Entries++[ae.mk (tb.getD to.toNat aa.zero).Next id true 0 0 0 0]))
def g9(tb:List aa)(th:List ai)(who num res:Int):Option ae:=match cH tb who num with
 |none=>none
 |some e=>bif s6 th e.Id !=res then none else some e
def dE(tb:List aa)(th:List ai)(who num res to:Int):Int×Int×List aa:=match g9 tb th who num res with
 |none=>(0,11,tb)
 |some e=>bif !e.Own then(0,11,tb)else bif e.bT !=0 then(0,12,tb)else bif iT tb to then(0,4,tb)else(((fF tb who num).getD to.toNat aa.zero).Next,0,jz (fF tb who num) to e.Id)
theorem at_mem{tb:List aa}{who num:Int}{e:ae}(h:cH tb who num=some e):0<=who/\who<tb.length/\∃t∈tb,tb.getD who.toNat aa.zero=t/\e∈t.Entries:=by
 unfold cH at h;cases hi:aG 0 ((tb.length:Int)-1) who with
 |false=>rw[hi]at h;exact absurd h (by simp)
 |true=>
  rw[hi]at h;simp only[aG,Bool.and_eq_true,decide_eq_true_eq]at hi;have hlt:who.toNat<tb.length:=by omega
  exact⟨hi.1,by omega,tb[who.toNat],List.getElem_mem hlt,getD_lt hlt _,by
   have:=List.mem_of_find?_eq_some h
   rwa [getD_lt hlt]at this⟩
theorem SL{th:List ai}{id:Int}(h:(th.any fun x=>x.Id==id)=true):inB (il th id) th.length=true:=by
 unfold il;rw[yt]at h;cases hf:th.findIdx? (fun x=>x.Id==id)with
 |none=>rw[hf]at h;simp at h
 |some k=>
  have:=iS _ _ _ hf;simp only[bF,decide_eq_true_eq];exact this
theorem Inv.big{tb:List aa}{th:List ai}(h:Inv tb th):∀t∈tb,t.Entries.length<2^62:=fun t ht=>by have:=h.en t ht;omega
theorem Inv.at{tb:List aa}{th:List ai}(h:Inv tb th){who num:Int}{e:ae}(ha:cH tb who num=some e):inB (il th e.Id) th.length=true/\0<=e.bT:=by
 obtain⟨_,_,t,ht,_,he⟩:=at_mem ha;have:=h.fd t ht e he;exact⟨SL this.1,this.2⟩
theorem SN{tb:List aa}{th:List ai}(h:Inv tb th)(s who num res:Int):M.pF (av.mk s tb th) who num res=g9 tb th who num res:=by
 unfold M.pF g9;have e2:=uV (av.mk s tb th) h.tt h.big who num;have e1:=uW (av.mk s tb th) h.tt h.big who num;simp only[]at e1 e2;rw[e2,e1];cases ha:cH tb who num with
 |none=>simp[c9]
 |some e=>
  have hI:=(h.at ha).1;simp only[yw (av.mk s tb th) h.hh,Option.getD_some,Option.isSome_some,Bool.and_true,Bool.or_false,cond_true,cond_false,hI];unfold s6;cases ((List.getD th (il th e.Id).toNat ai.zero).bI !=res)<;>rfl
theorem SO{tb:List aa}{th:List ai}(h:Inv tb th)(s who num res:Int):M.pG (av.mk s tb th) who num res=bif(g9 tb th who num res).isSome then none else some ():=by
 unfold M.pG g9;have e2:=uV (av.mk s tb th) h.tt h.big who num;have e1:=uW (av.mk s tb th) h.tt h.big who num;simp only[]at e1 e2;rw[e2,e1];cases ha:cH tb who num with
 |none=>simp[c9]
 |some e=>
  have hI:=(h.at ha).1;simp only[yw (av.mk s tb th) h.hh,Option.getD_some,Option.isSome_some,Bool.and_true,Bool.or_false,cond_true,cond_false,hI];unfold s6;cases ((List.getD th (il th e.Id).toNat ai.zero).bI !=res)<;>rfl
theorem jA{tb:List aa}{to:Int}(h:aG 0 ((tb.length:Int)-1) to=true):to.toNat<tb.length/\inB to tb.length=true:=by
 simp only[aG,Bool.and_eq_true,decide_eq_true_eq]at h;exact⟨by omega,kr ⟨by omega,by omega⟩⟩
theorem SQ{tb:List aa}{th:List ai}(s to:Int)(ht:aG 0 ((tb.length:Int)-1) to=true):M.kS (av.mk s tb th) to=some (iT tb to):=by
 unfold M.kS iT;simp only[(jA ht).2,Bool.and_true,cond_true]
theorem FW(l:List ae)(num:Int):(mG l num).length<=l.length:=List.length_filter_le _ _
theorem SR{tb:List aa}{th:List ai}(h:Inv tb th)(s who num:Int)(ht:aG 0 ((tb.length:Int)-1) who=true):M.kT who num s tb th=some (s,fF tb who num,th):=by
 unfold M.kT fF;obtain⟨h1,h2⟩:=jA ht;have hm:=h.big _ (List.getElem_mem h1);rw[<-getD_lt h1 aa.zero]at hm;obtain⟨o,e⟩:=SK _ hm num;simp only[e,Option.isSome_some,h2,Bool.and_true,decide_true,cond_true,Option.getD_some]
theorem SS{tb:List aa}{th}(s to id:Int)(ht:aG 0 ((tb.length:Int)-1) to=true)(hn:(tb.getD to.toNat aa.zero).Entries.length<=12)(hx:1<=(tb.getD to.toNat aa.zero).Next/\(tb.getD to.toNat aa.zero).Next<=1000000):
 M.kU to (ae.mk 0 id true 0 0 0 0) s tb th=some ((tb.getD to.toNat aa.zero).Next,s,jz tb to id,th):=by
 unfold M.kU jz;obtain⟨h1,h2⟩:=jA ht;have hl:decide (((tb.getD to.toNat aa.zero).Entries.length+1)<=1073741824)=true:=by rw[decide_eq_true_eq];omega
 have hg:∀X:aa,(tb.set to.toNat X).getD to.toNat aa.zero=X:=fun X=>by
  rw[List.getD_eq_getElem?_getD,List.getElem?_set_self h1];rfl
 simp only[h2,hl,List.length_cons,List.length_nil,Nat.zero_add,Bool.and_true,decide_true,cond_true,hg,List.set_set];rw[wrap_i64 (by omega) (by omega)]
theorem Inv.cut{tb:List aa}{th:List ai}(h:Inv tb th)(who num:Int)(ht:aG 0 ((tb.length:Int)-1) who=true):Inv (fF tb who num) th:=by
 obtain⟨h1,h2⟩:=jA ht;have hm:=List.getElem_mem h1;have hw:=getD_lt h1 aa.zero;unfold fF;rw[hw];refine⟨by rw[List.length_set];exact h.tt,h.hh,fun t ht'=>?_,fun t ht'=>?_,fun t ht' e he=>?_⟩
 ·rcases List.mem_or_eq_of_mem_set ht' with g|rfl
  ·exact h.en t g
  ·exact Nat.le_trans (FW _ _) (h.en _ hm)
 ·rcases List.mem_or_eq_of_mem_set ht' with g|rfl
  ·exact h.nx t g
  ·exact(h.nx _ hm:1<=tb[who.toNat].Next/\tb[who.toNat].Next<=1000000)
 ·rcases List.mem_or_eq_of_mem_set ht' with g|rfl
  ·exact h.fd t g e he
  ·exact h.fd _ hm e (List.mem_filter.1 he).1
theorem Inv.put{tb:List aa}{th:List ai}(h:Inv tb th)(to id:Int)(ht:aG 0 ((tb.length:Int)-1) to=true)(hn:(tb.getD to.toNat aa.zero).Entries.length<12)(hx:(tb.getD to.toNat aa.zero).Next<1000000)(hid:(th.any fun x=>x.Id==id)=true):Inv (jz tb to id) th:=by
 obtain⟨h1,h2⟩:=jA ht;have hm:=List.getElem_mem h1;have hw:=getD_lt h1 aa.zero;unfold jz;rw[hw]at hn hx⊢;refine⟨by rw[List.length_set];exact h.tt,h.hh,fun t ht'=>?_,fun t ht'=>?_,fun t ht' e he=>?_⟩
 ·rcases List.mem_or_eq_of_mem_set ht' with g|rfl
  ·exact h.en t g
  ·simp only[List.length_append,List.length_singleton];omega
 ·rcases List.mem_or_eq_of_mem_set ht' with g|rfl
  ·exact h.nx t g
  ·have:=h.nx _ hm;simp only[];omega
 ·rcases List.mem_or_eq_of_mem_set ht' with g|rfl
  ·exact h.fd t g e he
  ·simp only[List.mem_append,List.mem_singleton]at he;rcases he with he|rfl
   ·exact h.fd _ hm e he
   ·exact⟨hid,Int.le_refl _⟩
theorem u7{tb:List aa}(who num:Int):(fF tb who num).length=tb.length:=by unfold fF;rw[List.length_set]
theorem yD{tb:List aa}(to id:Int):(jz tb to id).length=tb.length:=by unfold jz;rw[List.length_set]
theorem yE{tb:List aa}{th:List ai}(h:Inv tb th){who num to:Int}(ht:aG 0 ((tb.length:Int)-1) to=true)(hf:iT tb to=false):
 ((fF tb who num).getD to.toNat aa.zero).Entries.length<12/\((fF tb who num).getD to.toNat aa.zero).Next<1000000/\1<=((fF tb who num).getD to.toNat aa.zero).Next:=by
 obtain⟨h1,h2⟩:=jA ht;have hm:=List.getElem_mem h1;have hw:=getD_lt h1 aa.zero;have he:=h.en _ hm;have hx:=h.nx _ hm;unfold iT at hf;rw[hw]at hf;simp only[Bool.or_eq_false_iff,beq_eq_false_iff_ne]at hf;unfold fF;rw[List.getD_eq_getElem?_getD,List.getElem?_set];by_cases hq:who.toNat=to.toNat
 ·rw[if_pos hq,if_pos (by omega),hq,hw];have:=FW tb[to.toNat].Entries num;simp only[Option.getD_some];omega
 ·rw[if_neg hq,List.getElem?_eq_getElem h1];simp only[Option.getD_some];omega
theorem yF{tb:List aa}{th:List ai}{who num res:Int}{e:ae}(h:g9 tb th who num res=some e):cH tb who num=some e:=by
 unfold g9 at h;cases ha:cH tb who num with
 |none=>rw[ha]at h;simp at h
 |some x=>
  rw[ha]at h;simp only[]at h;cases hr:(s6 th x.Id !=res)<;>rw[hr]at h<;>simp at h;rw[h]
theorem at_in{tb:List aa}{who num:Int}{e:ae}(h:cH tb who num=some e):aG 0 ((tb.length:Int)-1) who=true:=by
 obtain⟨h1,h2,_⟩:=at_mem h;simp only[aG,Bool.and_eq_true,decide_eq_true_eq];omega
theorem yG{tb:List aa}{th:List ai}(h:Inv tb th)(who num res to:Int)(ht:aG 0 ((tb.length:Int)-1) to=true):Inv (dE tb th who num res to).2.2 th/\(dE tb th who num res to).2.2.length=tb.length:=by
 unfold dE;cases hy:g9 tb th who num res with
 |none=>exact⟨h,rfl⟩
 |some e=>
  have ha:=yF hy;have hi:=at_in ha;simp only[];cases e.Own
  ·exact⟨h,rfl⟩
  ·cases (e.bT !=0)
   ·cases hf:iT tb to
    ·simp only[Bool.not_true,cond_false];obtain⟨g1,g2,g3⟩:=yE h (who:=who) (num:=num) ht hf;obtain⟨_,_,t,u9,_,he⟩:=at_mem ha;refine⟨(h.cut who num hi).put to e.Id (by rw[u7];exact ht) g1 g2 (h.fd t u9 e he).1,by rw[yD,u7]⟩
    ·exact⟨h,rfl⟩
   ·exact⟨h,rfl⟩
theorem SU{tb:List aa}{th:List ai}(h:Inv tb th)(who num res to s:Int)(ht:aG 0 ((tb.length:Int)-1) to=true):
 M.pH who num res to s tb th=some ((dE tb th who num res to).1,(dE tb th who num res to).2.1,s,(dE tb th who num res to).2.2,th):=by
 unfold M.pH dE;rw[SN h,SO h];cases hy:g9 tb th who num res with
 |none=>simp[c9]
 |some e=>
  have ha:=yF hy;have hi:=at_in ha;simp only[Option.getD_some,Option.isSome_some,Bool.and_true,cond_true,cond_false,SQ s to ht];cases e.Own
  ·rfl
  ·cases (e.bT !=0)
   ·cases hf:iT tb to
    ·obtain⟨g1,g2,g3⟩:=yE h (who:=who) (num:=num) ht hf;have hc:=h.cut who num hi;simp only[SR h s who num hi,Option.getD_some,SS s to e.Id (by rw[u7];exact ht) (by omega) ⟨g3,by omega⟩,Option.isSome_some,Bool.and_self,cond_true,Bool.not_true,cond_false,c9]
    ·rfl
   ·rfl
end M
namespace M
open Go.V (inB bV ak b9 c9)
def yOf(s s2:Int)(tb:List aa)(th:List ai)(o3:List ah)(o4:List Int):af:=af.mk (av.mk s tb th) o3 s2 o4
theorem SV{tb:List aa}{th:List ai}(h:Inv tb th)(s s2:Int)(o3:List ah)(o4:List Int)(who num res:Int):
 M.pI (af.mk (av.mk s tb th) o3 s2 o4) who num res=some (match g9 tb th who num res with
   |some e=>(e,0)
   |none=>(ae.zero,11)):=by
 unfold M.pI g9;rw[s_at (af.mk (av.mk s tb th) o3 s2 o4) h.tt h.big who num];simp only[FH (af.mk (av.mk s tb th) o3 s2 o4) h.hh];cases ha:cH tb who num with
 |none=>simp;rfl
 |some e=>
  have hI:=(h.at ha).1;simp only[Option.getD_some,Option.isSome_some,hI,Bool.not_true,Bool.false_or,Bool.true_or,Bool.and_true,cond_true];unfold s6;cases ((List.getD th (il th e.Id).toNat ai.zero).bI !=res)<;>rfl
theorem SX{tb:List aa}{th:List ai}(h:Inv tb th)(s s2:Int)(o3:List ah)(o4:List Int)(to:Int)(ht:aG 0 ((tb.length:Int)-1) to=true):
 M.pJ (af.mk (av.mk s tb th) o3 s2 o4) to=some (iT tb to):=by
 obtain⟨h1,h2⟩:=jA ht;have hm:=List.getElem_mem h1;have he:=h.en _ hm;have hx:=h.nx _ hm;rw[<-getD_lt h1 aa.zero]at he hx;unfold M.pJ iT;simp only[h2,Bool.true_or,Bool.and_true,cond_true];generalize tb.getD to.toNat aa.zero=t at he hx;have e1:decide ((12:Int)<=(t.Entries.length:Int))=((t.Entries.length:Int)==12):=by
  rw[Bool.eq_iff_iff,decide_eq_true_eq,beq_iff_eq];omega
 have e2:decide ((1000000:Int)<=t.Next)=(t.Next==1000000):=by
  rw[Bool.eq_iff_iff,decide_eq_true_eq,beq_iff_eq];omega
 rw[e1,e2]
theorem FX(num:Int):∀(l a:List ae),l.foldl (fun a e=>if e.Num !=num then a++[e]else a) a=a++mG l num
 |[],a=>by simp[mG]
 |x::r,a=>by
  rw[List.foldl_cons,FX num r];unfold mG;cases hx:x.Num !=num
  ·simp[hx]
  ·simp[hx]
theorem SY{tb:List aa}{th:List ai}(h:Inv tb th)(s s2:Int)(o3:List ah)(o4:List Int)(who num:Int)(ht:aG 0 ((tb.length:Int)-1) who=true):
 M.pK who num s s2 tb th o3 o4=some (s,s2,fF tb who num,th,o3,o4):=by
 obtain⟨h1,h2⟩:=jA ht;have hm:=h.en _ (List.getElem_mem h1);rw[<-getD_lt h1 aa.zero]at hm;unfold M.pK fF;generalize hT:tb.getD who.toNat aa.zero=t at hm⊢;have e:=yu (F:=M.kV who num t.Entries (af.mk (av.mk s tb th) o3 s2 o4)) (g:=fun a n=>if n.Num !=num then a++[n]else a) (h:=fun a=>(who,af.mk (av.mk s tb th) o3 s2 o4,a)) t.Entries (by omega) (fun k a=>a.length<=k) (fun f k a hk hI=>by
  rw[M.kV];have hb:decide (a.length+[t.Entries[k]].length<=1073741824)=true:=by rw[decide_eq_true_eq,List.length_singleton];omega
  simp only[getD_lt hk,Int.toNat_natCast,bF,Int.ofNat_lt,hk,decide_true,cond_true,Bool.true_and,Bool.and_true,hb,bn hk (by omega)];cases t.Entries[k].Num !=num
  ·exact⟨rfl,by simp;omega⟩
  ·exact⟨rfl,by simp;omega⟩) (fun f a hI=>by rw[M.kV];simp) [] (Nat.le_refl _)
 rw[FX]at e;rw[e];simp only[h2,hT,List.nil_append,Bool.and_true,cond_true]
theorem s_put{tb:List aa}{th:List ai}(s s2 to id:Int)(o3:List ah)(o4:List Int)(ht:aG 0 ((tb.length:Int)-1) to=true)(hn:(tb.getD to.toNat aa.zero).Entries.length<=12)(hx:1<=(tb.getD to.toNat aa.zero).Next/\(tb.getD to.toNat aa.zero).Next<=1000000):
 M.pL to (ae.mk 0 id true 0 0 0 0) s s2 tb th o3 o4=some ((tb.getD to.toNat aa.zero).Next,s,s2,jz tb to id,th,o3,o4):=by
 unfold M.pL jz;obtain⟨h1,h2⟩:=jA ht;have hl:decide (((tb.getD to.toNat aa.zero).Entries.length+1)<=1073741824)=true:=by rw[decide_eq_true_eq];omega
 have hg:∀X:aa,(tb.set to.toNat X).getD to.toNat aa.zero=X:=fun X=>by
  rw[List.getD_eq_getElem?_getD,List.getElem?_set_self h1];rfl
 simp only[h2,hg,List.set_set,hl,List.length_cons,List.length_nil,Nat.zero_add,Bool.and_true,decide_true,cond_true];rw[wrap_i64 (by omega) (by omega)]
theorem SZ{tb:List aa}{th:List ai}(h:Inv tb th)(s s2:Int)(o3:List ah)(o4:List Int)(who num res to:Int)(ht:aG 0 ((tb.length:Int)-1) to=true):
 M.pM who num res to s s2 tb th o3 o4=some ((dE tb th who num res to).1,(dE tb th who num res to).2.1,s,s2,(dE tb th who num res to).2.2,th,o3,o4):=by
 unfold M.pM dE;rw[SV h];cases hy:g9 tb th who num res with
 |none=>rfl
 |some e=>
  have ha:=yF hy;have hi:=at_in ha;have hL:=(h.at ha).2;have eL:decide (0<e.bT)=(e.bT !=0):=by rw[Bool.eq_iff_iff,decide_eq_true_eq,bne_iff_ne];omega
  simp only[Option.getD_some,Option.isSome_some,Bool.and_true,bne_self_eq_false,cond_true,cond_false,SX h s s2 o3 o4 to ht,eL];cases e.Own
  ·rfl
  ·cases (e.bT !=0)
   ·cases hf:iT tb to
    ·obtain⟨g1,g2,g3⟩:=yE h (who:=who) (num:=num) ht hf;simp only[SY h s s2 o3 o4 who num hi,Option.getD_some,s_put s s2 to e.Id o3 o4 (by rw[u7];exact ht) (by omega) ⟨g3,by omega⟩,Option.isSome_some,Bool.and_self,cond_true,Bool.not_true,cond_false]
    ·rfl
   ·rfl
end M
namespace M
open Go.V (inB bV ak b9 c9)
def jB(p:aB):Bool:=aG 1 8 p.bI&&aG 1 1000000 p.Num
def iU(l:List aB):Bool:=decide ((l.length:Int)<=12)&&l.all jB
def kW(l:List aB):Bool:=l.all fun p=>p.Own
theorem S3(l:List aB)(hl:l.length<2^62):M.pN l=some (l.any fun p=> !jB p):=by
 have:=contains_of (p:=fun p:aB=> !jB p) (F:=fun f k=>M.mJ l (l.length:Int) f k) l hl (fun f k h=>by
  simp only[M.mJ,M.s7,Int.toNat_natCast,getD_lt h,Bool.and_true,cond_true,bF,Int.ofNat_lt,h,decide_true,bn h hl,Option.getD_some,Option.isSome_some,Bool.true_and];unfold jB aG;simp only[Bool.not_and]) (fun f=>by
  simp only[M.mJ,Int.lt_irrefl,decide_false,cond_false])
 have e:M.s8 l=_:=this;unfold M.pN;rw[e];simp only[Option.isSome_some,Option.getD_some,Bool.and_true,cond_true];exact congrArg some (index_ge (fun p:aB=> !jB p) l)
theorem S4(l:List aB)(hl:l.length<2^62):M.pO l=some (iU l):=by
 unfold M.pO iU;rw[S3 l hl];simp only[Option.isSome_some,Option.getD_some,Bool.true_or,Bool.and_true,cond_true,List.not_any_eq_all_not,Bool.not_not]
theorem S5(l:List aB)(hl:l.length<2^62):M.pP l=some (!kW l):=by
 have:=contains_of (p:=fun p:aB=> !p.Own) (F:=fun f k=>M.mK l (l.length:Int) f k) l hl (fun f k h=>by
  simp only[M.mK,Int.toNat_natCast,getD_lt h,Bool.and_true,cond_true,bF,Int.ofNat_lt,h,decide_true,bn h hl]) (fun f=>by
  simp only[M.mK,Int.lt_irrefl,decide_false,cond_false])
 have e:M.s9 l=_:=this;unfold M.pP kW;rw[e];simp only[Option.isSome_some,Option.getD_some,Bool.and_true,cond_true,List.not_all_eq_any_not];exact congrArg some (index_ge (fun p:aB=> !p.Own) l)
theorem FY{α:Type}(p:α->Bool)(l:List α)(z:α):(List.range l.length).all (fun k=>p (l.getD k z))=l.all p:=by
 rw[Bool.eq_iff_iff,List.all_eq_true,List.all_eq_true];constructor
 ·intro h x hx;obtain⟨k,hk,rfl⟩:=List.getElem_of_mem hx;have:=h k (List.mem_range.2 hk)
  rwa [getD_lt hk]at this
 ·intro h k hk;have hk':=List.mem_range.1 hk;rw[getD_lt hk'];exact h _ (List.getElem_mem hk')
theorem S7(l:List aB)(hl:l.length<2^62):M.pQ l=some (iU l):=by
 unfold M.pQ iU;have:=l7 (p:=fun k=>jB (l.getD k aB.zero)) (e:=()) (b:=false) (F:=fun f k=>M.kX l f k) l.length hl (fun f k hk=>by
  simp only[M.kX,Int.toNat_natCast,bF,Int.ofNat_lt,hk,decide_true,cond_true,Bool.and_true,Bool.true_or,bn hk hl];unfold jB aG;rw[<-Bool.not_and];cases ((decide (1<=(l.getD k aB.zero).bI)&&decide ((l.getD k aB.zero).bI<=8))&&(decide (1<=(l.getD k aB.zero).Num)&&decide ((l.getD k aB.zero).Num<=1000000)))<;>rfl) (fun f=>by
  simp only[M.kX,Int.lt_irrefl,decide_false,cond_false])
 rw[show M.kX l ak 0=_ from this,FY jB l];have e:decide ((12:Int)<(l.length:Int))= !decide ((l.length:Int)<=12):=by
  rw[Bool.eq_iff_iff];simp only[Bool.not_eq_true',decide_eq_true_eq,decide_eq_false_iff_not];omega
 rw[e];cases decide ((l.length:Int)<=12)<;>cases l.all jB<;>rfl
theorem S8(l:List aB)(hl:l.length<2^62):M.pR l=some (kW l):=by
 unfold M.pR kW;have:=l7 (p:=fun k=>(l.getD k aB.zero).Own) (e:=()) (b:=false) (F:=fun f k=>M.kY l f k) l.length hl (fun f k hk=>by
  simp only[M.kY,Int.toNat_natCast,bF,Int.ofNat_lt,hk,decide_true,cond_true,Bool.and_true,Bool.true_or,bn hk hl];cases (l.getD k aB.zero).Own<;>rfl) (fun f=>by
  simp only[M.kY,Int.lt_irrefl,decide_false,cond_false])
 rw[show M.kY l ak 0=_ from this,FY (fun p:aB=>p.Own) l];cases (l.all fun p=>p.Own)<;>rfl
def ir(sc:Int)(e:ae):Bool:= !e.Own&&e.Scope==sc
def pS(tb:List aa)(sc:Int):Nat:=(cC tb).countP (ir sc)
theorem S9(sc:Int)(T:List aa)(n0 i:Int)(l:List ae)(hn:l.length<2^62):∀(f k:Nat)(n:Int),l.length-k<f->0<=n->n+((l.length-k:Nat):Int)<=1099511627776->
 M.mL sc T n0 i l (l.length:Int) f n (k:Int)=some (sc,n+((l.drop k).countP (ir sc):Nat),T,n0,i):=by
 intro f
 induction f with
 |zero=>intro k n h;omega
 |succ f ih=>
  intro k n hk h0 h1;rw[M.mL];simp only[Int.toNat_natCast];rcases Nat.lt_or_ge k l.length with h2|h2
  ·rw[cm h2,List.countP_cons];have e:((!l[k].Own)&&(l[k].Scope==sc))=ir sc l[k]:=rfl;simp only[getD_lt h2,e,bF,Int.ofNat_lt,h2,decide_true,cond_true,Bool.and_true,bn h2 hn,M.ta];cases ir sc l[k]
   ·simp only[cond_false,Option.isSome_some,cond_true,Option.getD_some,Int.add_zero];rw[wrap_i64 (by omega) (by omega),ih (k+1) n (by omega) h0 (by omega)];simp
   ·simp only[cond_true,Option.isSome_some,Option.getD_some];rw[wrap_i64 (by omega) (by omega),ih (k+1) (n+1) (by omega) (by omega) (by omega)];simp;omega
  ·rw[decide_eq_false (by omega),cond_false,List.drop_eq_nil_of_le h2];simp
theorem Ta(sc:Int)(T:List aa)(hT:T.length<2^62)(ht:∀t∈T,t.Entries.length<2^62):∀(f k:Nat)(n:Int),T.length-k<f->0<=n->n+(cC (T.drop k)).length<=1099511627776->
 M.mM f sc n T (T.length:Int) (k:Int)=some (n+((cC (T.drop k)).countP (ir sc):Nat)):=by
 intro f
 induction f with
 |zero=>intro k n h;omega
 |succ f ih=>
  intro k n hk h0 h1;rw[M.mM];rcases Nat.lt_or_ge k T.length with h2|h2
  ·rw[cm h2,gZ,List.length_append]at h1;rw[cm h2,gZ,List.countP_append];have e:=S9 sc T (T.length:Int) (k:Int) T[k].Entries (ht _ (List.getElem_mem h2)) ak 0 n (by have:=b9;have:=ht _ (List.getElem_mem h2);omega) h0 (by omega);rw[List.drop_zero]at e;have e':M.mL sc T (T.length:Int) (k:Int) T[k].Entries (T[k].Entries.length:Int) ak n 0=_:=e;have hc:=List.countP_le_length (p:=ir sc) (l:=T[k].Entries);simp only[Int.toNat_natCast,getD_lt h2,Int.ofNat_lt,h2,decide_true,cond_true,e',bn h2 hT,bF,Bool.and_true];rw[ih (k+1) _ (by omega) (by omega) (by omega)];congr 1;omega
  ·rw[decide_eq_false (by omega),cond_false,List.drop_eq_nil_of_le h2];simp[cC]
theorem yH:∀(tb:List aa),(∀t∈tb,t.Entries.length<=12)->(cC tb).length<=12*tb.length
 |[],_=>by simp[cC]
 |t::r,h=>by
  rw[gZ,List.length_append,List.length_cons];have:=yH r (fun t ht=>h t (List.mem_cons_of_mem _ ht));have:=h t List.mem_cons_self;omega
theorem Tc{tb:List aa}{th:List ai}(h:Inv tb th)(hs:tb.length<=1048576)(s sc:Int):M.pT (av.mk s tb th) sc=some ((pS tb sc:Nat):Int):=by
 unfold M.pT;have hA:=yH tb h.en;have e:=Ta sc tb h.tt h.big ak 0 0 (by have:=b9;have:=h.tt;omega) (by omega) (by rw[List.drop_zero];omega);rw[List.drop_zero,Int.zero_add]at e;have e':M.mM ak sc 0 tb (tb.length:Int) 0=_:=e;simp only[e'];rfl
theorem Td(y:af)(sc:Int)(i:Nat)(hi:i<y.Shelf.Tables.length)(l:List ae)(hl:(y.Shelf.Tables.getD i aa.zero).Entries=l)(hn:l.length<2^62):∀(f k:Nat)(n:Int),l.length-k<f->0<=n->n+((l.length-k:Nat):Int)<=1099511627776->
 M.mN y sc (i:Int) f n (k:Int)=some (y,sc,n+((l.drop k).countP (ir sc):Nat),(i:Int)):=by
 intro f
 induction f with
 |zero=>intro k n h;omega
 |succ f ih=>
  intro k n hk h0 h1;rw[M.mN];simp only[Int.toNat_natCast,hl];rcases Nat.lt_or_ge k l.length with h2|h2
  ·rw[cm h2,List.countP_cons];have e:((!l[k].Own)&&(l[k].Scope==sc))=ir sc l[k]:=rfl;simp only[getD_lt h2,e,bF,Int.ofNat_lt,h2,hi,decide_true,cond_true,Bool.and_true,bn h2 hn,Bool.true_or];cases ir sc l[k]
   ·rw[cond_false,ih (k+1) n (by omega) h0 (by omega)];simp
   ·rw[cond_true,wrap_i64 (by omega) (by omega),ih (k+1) (n+1) (by omega) (by omega) (by omega)];simp;omega
  ·rw[decide_eq_false (by omega),cond_false,List.drop_eq_nil_of_le h2];simp only[bF,hi,decide_true,Bool.and_true,cond_true,List.countP_nil];simp
theorem Tf(y:af)(sc:Int)(hT:y.Shelf.Tables.length<2^62)(ht:∀t∈y.Shelf.Tables,t.Entries.length<2^62):∀(f k:Nat)(n:Int),y.Shelf.Tables.length-k<f->0<=n->n+(cC (y.Shelf.Tables.drop k)).length<=1099511627776->
 M.mO f y sc n (k:Int)=some (n+((cC (y.Shelf.Tables.drop k)).countP (ir sc):Nat)):=by
 intro f
 induction f with
 |zero=>intro k n h;omega
 |succ f ih=>
  intro k n hk h0 h1;rw[M.mO];rcases Nat.lt_or_ge k y.Shelf.Tables.length with h2|h2
  ·rw[cm h2,gZ,List.length_append]at h1;rw[cm h2,gZ,List.countP_append];have e:=Td y sc k h2 y.Shelf.Tables[k].Entries (by rw[getD_lt h2]) (ht _ (List.getElem_mem h2)) ak 0 n (by have:=b9;have:=ht _ (List.getElem_mem h2);omega) h0 (by omega);rw[List.drop_zero]at e;have e':M.mN y sc (k:Int) ak n 0=_:=e;have hc:=List.countP_le_length (p:=ir sc) (l:=y.Shelf.Tables[k].Entries);simp only[Int.ofNat_lt,h2,decide_true,cond_true,e',bn h2 hT];rw[ih (k+1) _ (by omega) (by omega) (by omega)];congr 1;omega
  ·rw[decide_eq_false (by omega),cond_false,List.drop_eq_nil_of_le h2];simp[cC]
theorem Ti{tb:List aa}{th:List ai}(h:Inv tb th)(hs:tb.length<=1048576)(s s2:Int)(o3:List ah)(o4:List Int)(sc:Int):M.pU (af.mk (av.mk s tb th) o3 s2 o4) sc=some ((pS tb sc:Nat):Int):=by
 unfold M.pU;have hA:=yH tb h.en;have e:=Tf (af.mk (av.mk s tb th) o3 s2 o4) sc h.tt h.big ak 0 0 (by have:=b9;have:=h.tt;simp only[];omega) (by omega) (by rw[List.drop_zero];simp only[];omega);rw[List.drop_zero,Int.zero_add]at e;have e':M.mO ak (af.mk (av.mk s tb th) o3 s2 o4) sc 0 0=_:=e;rw[e'];rfl
end M
namespace M
open Go.V (inB bV ak b9 c9)
theorem foldl_push{α:Type}:∀(l a:List α),l.foldl (fun a x=>a++[x]) a=a++l
 |[],a=>by simp
 |x::r,a=>by rw[List.foldl_cons,foldl_push r];simp
theorem tc{α Y:Type}{F:Nat->Int->List α->Option Y}{h:List α->Y}(l:List α)(hn:l.length<=1048576)
 (step:∀f k a,∀hk:k<l.length,a.length+1<=1073741824->F (f+1) (k:Int) a=F f ((k+1:Nat):Int) (a++[l[k]])) (stop:∀f a,F (f+1) (l.length:Int) a=some (h a)):
 F ak 0 []=some (h l):=by
 have:=yu (F:=F) (g:=fun a x=>a++[x]) (h:=h) l (by omega) (fun k a=>a.length=k) (fun f k a hk hI=>⟨step f k a hk (by omega),by simp[hI]⟩) (fun f a _=>stop f a) [] rfl
 rwa [foldl_push,List.nil_append]at this
structure jC (y:af):Prop where
 th:y.Shelf.aA.length<=1048576
 tb:y.Shelf.Tables.length<=1048576
 en:∀t∈y.Shelf.Tables,t.Entries.length<=1048576
 st:y.Stack.length<=1048576
 ar:∀c∈y.Stack,c.bG.length<=1048576
 de:y.Dead.length<=1048576
theorem va(l:List Int)(h:l.length<=1048576):M.gQ l=some l:=by unfold M.gQ;rw[decide_eq_true (by omega)];rfl
theorem FZ(s:av)(h1:s.aA.length<=1048576)(h2:s.Tables.length<=1048576)(h3:∀t∈s.Tables,t.Entries.length<=1048576):M.kZ s=some (s.Next,s.Tables,s.aA):=by
 unfold M.kZ;have e1:M.kf s.aA=some s.aA:=by unfold M.kf;rw[decide_eq_true h1];rfl
 have e:=tc (F:=fun f k a=>M.iV s.Tables (s.Tables.length:Int) 0 s.Next [] [] s.aA f k a) (h:=fun a=>(0,s.Next,[],[],a,s.aA)) s.Tables h2 (fun f k a hk ha=>by
  show M.iV _ _ _ _ _ _ _ _ _ _=_
  rw[M.iV];have e2:M.ke s.Tables[k].Entries=some s.Tables[k].Entries:=by unfold M.ke;rw[decide_eq_true (h3 _ (List.getElem_mem hk))];rfl
  simp only[Int.toNat_natCast,getD_lt hk,e2,Option.getD_some,Option.isSome_some,List.length_cons,List.length_nil,Nat.zero_add,ha,bF,Int.ofNat_lt,hk,decide_true,Bool.and_true,cond_true,bn hk (by omega:s.Tables.length<2^62)]) (fun f a=>by
  show M.iV _ _ _ _ _ _ _ _ _ _=_
  rw[M.iV];simp)
 have e':M.iV s.Tables (s.Tables.length:Int) 0 s.Next [] [] s.aA ak 0 []=_:=e;simp only[e1,Option.getD_some,e',Option.isSome_some,Bool.and_true,cond_true]
theorem Tj(s:av)(h1:s.aA.length<=1048576)(h2:s.Tables.length<=1048576)(h3:∀t∈s.Tables,t.Entries.length<=1048576):M.pV s=some (s.Next,s.Tables,s.aA):=by
 unfold M.pV;rw[FZ s h1 h2 h3];rfl
theorem Tm(y:af)(h:jC y):M.pW y=some (y.Next,y.Shelf.Next,y.Stack,y.Dead,y.Shelf.Tables,y.Shelf.aA):=by
 unfold M.pW;have e:=tc (F:=fun f k a=>M.iW y.Stack (y.Stack.length:Int) y.Next y.Shelf.Next y.Dead y.Shelf.Tables y.Shelf.aA f k a) (h:=fun a=>(y.Next,y.Shelf.Next,a,y.Dead,y.Shelf.Tables,y.Shelf.aA)) y.Stack h.st (fun f k a hk ha=>by
  show M.iW _ _ _ _ _ _ _ _ _ _=_
  rw[M.iW];have e2:=va y.Stack[k].bG (h.ar _ (List.getElem_mem hk));simp only[Int.toNat_natCast,getD_lt hk,e2,Option.getD_some,Option.isSome_some,List.length_cons,List.length_nil,Nat.zero_add,ha,bF,Int.ofNat_lt,hk,decide_true,Bool.and_true,cond_true,bn hk (by have:=h.st;omega:y.Stack.length<2^62)]) (fun f a=>by
  show M.iW _ _ _ _ _ _ _ _ _ _=_
  rw[M.iW];simp)
 have e':M.iW y.Stack (y.Stack.length:Int) y.Next y.Shelf.Next y.Dead y.Shelf.Tables y.Shelf.aA ak 0 []=_:=e;simp only[Tj y.Shelf h.th h.tb h.en,va y.Dead h.de,Option.getD_some,e',Option.isSome_some,Bool.and_true,cond_true]
theorem Tn(y:af)(h:jC y):M.pX y.Next y.Shelf.Next y.Stack y.Dead y.Shelf.Tables y.Shelf.aA=some (y.Shelf.Next,y.Next,y.Next,y.Shelf.Next,y.Shelf.Tables,y.Shelf.aA,y.Stack,y.Dead,y.Dead,y.Shelf.Tables,y.Shelf.aA):=by
 unfold M.pX;have e:=tc (F:=fun f k a=>M.iY (y.Stack.length:Int) 0 0 y.Shelf.Next y.Next [] [] [] [] y.Shelf.Tables y.Shelf.aA y.Dead f k y.Stack a) (h:=fun a=>(0,0,y.Shelf.Next,y.Next,[],[],[],[],y.Shelf.Tables,y.Shelf.aA,a,y.Dead)) y.Stack h.st (fun f k a hk ha=>by
  show M.iY _ _ _ _ _ _ _ _ _ _ _ _ _ _ _ _=_
  rw[M.iY];have e2:=va y.Stack[k].bG (h.ar _ (List.getElem_mem hk));have e3:y.Stack.set k y.Stack[k]=y.Stack:=List.set_getElem_self ..;simp only[Int.toNat_natCast,getD_lt hk,e2,e3,Option.getD_some,Option.isSome_some,List.length_cons,List.length_nil,Nat.zero_add,ha,bF,Int.ofNat_lt,hk,decide_true,Bool.and_true,cond_true,bn hk (by have:=h.st;omega:y.Stack.length<2^62)]) (fun f a=>by
  show M.iY _ _ _ _ _ _ _ _ _ _ _ _ _ _ _ _=_
  rw[M.iY];simp)
 have e':M.iY (y.Stack.length:Int) 0 0 y.Shelf.Next y.Next [] [] [] [] y.Shelf.Tables y.Shelf.aA y.Dead ak 0 y.Stack []=_:=e;simp only[FZ (av.mk y.Shelf.Next y.Shelf.Tables y.Shelf.aA) h.th h.tb h.en,va y.Dead h.de,Option.getD_some,e',Option.isSome_some,Bool.and_true,cond_true]
theorem F3(l:List Int)(h:l.length<=1048576):M.mP l=some l:=by
 unfold M.mP;rw[decide_eq_true (by omega)];rfl
theorem To(y:af)(h:jC y):M.pY y=some (y.Shelf.Next,y.Shelf.Tables,y.Shelf.aA):=by
 unfold M.pY;have e:=tc (F:=fun f k a=>M.iZ y 0 y.Shelf.Next [] [] y.Shelf.aA f k a) (h:=fun a=>(0,y.Shelf.Next,[],[],a,y.Shelf.aA)) y.Shelf.Tables h.tb (fun f k a hk ha=>by
  show M.iZ _ _ _ _ _ _ _ _ _=_
  rw[M.iZ];have e2:decide (0+y.Shelf.Tables[k].Entries.length<=1073741824)=true:=by have:=h.en _ (List.getElem_mem hk);rw[decide_eq_true_eq];omega
  simp only[Int.toNat_natCast,getD_lt hk,e2,List.nil_append,Option.getD_some,Option.isSome_some,List.length_cons,List.length_nil,Nat.zero_add,ha,bF,Int.ofNat_lt,hk,decide_true,Bool.and_true,cond_true,bn hk (by have:=h.tb;omega:y.Shelf.Tables.length<2^62)];rw[Nat.zero_add]at e2;rw[e2];rfl) (fun f a=>by
  show M.iZ _ _ _ _ _ _ _ _ _=_
  rw[M.iZ];simp)
 have e':M.iZ y 0 y.Shelf.Next [] [] y.Shelf.aA ak 0 []=_:=e;have e3:decide (0+y.Shelf.aA.length<=1073741824)=true:=by have:=h.th;rw[decide_eq_true_eq];omega
 simp only[List.nil_append,e',e3,Bool.and_true,cond_true]
theorem Tq(y:af)(h:jC y):M.pZ y=some (y.Shelf.Next,y.Next,y.Shelf.Tables,y.Shelf.aA,y.Stack,y.Dead):=by
 unfold M.pZ;have e:=tc (F:=fun f k a=>M.i4 y 0 0 y.Shelf.Next y.Next [] [] [] [] y.Shelf.Tables y.Shelf.aA y.Dead f k a) (h:=fun a=>(0,0,y.Shelf.Next,y.Next,[],[],[],[],y.Shelf.Tables,y.Shelf.aA,a,y.Dead)) y.Stack h.st (fun f k a hk ha=>by
  show M.i4 _ _ _ _ _ _ _ _ _ _ _ _ _ _ _=_
  rw[M.i4];have e2:=F3 y.Stack[k].bG (h.ar _ (List.getElem_mem hk));simp only[Int.toNat_natCast,getD_lt hk,e2,Option.getD_some,Option.isSome_some,List.length_cons,List.length_nil,Nat.zero_add,ha,bF,Int.ofNat_lt,hk,decide_true,Bool.and_true,cond_true,bn hk (by have:=h.st;omega:y.Stack.length<2^62)]) (fun f a=>by
  show M.i4 _ _ _ _ _ _ _ _ _ _ _ _ _ _ _=_
  rw[M.i4];simp)
 have e':M.i4 y 0 0 y.Shelf.Next y.Next [] [] [] [] y.Shelf.Tables y.Shelf.aA y.Dead ak 0 []=_:=e;simp only[To y h,F3 y.Dead h.de,Option.getD_some,e',Option.isSome_some,Bool.and_true,cond_true]
end M
namespace M
open Go.V (inB bV ak b9 c9)
def hJ(th:List ai)(who to:Int):List aB->List Int->List aa->(Int×List aa)⊕(List Int×List aa)
 |[],ns,tb=>.inr (ns,tb)
 |p::r,ns,tb=>bif(dE tb th who p.Num p.bI to).2.1 !=0 then .inl ((dE tb th who p.Num p.bI to).2.1,(dE tb th who p.Num p.bI to).2.2)else hJ th who to r (ns++[(dE tb th who p.Num p.bI to).1]) (dE tb th who p.Num p.bI to).2.2
def okM(th:List ai)(n m:Nat):(Int×List aa)⊕(List Int×List aa)->Prop
 |.inl p=>p.1≠0
 |.inr p=>Inv p.2 th/\p.2.length=n/\p.1.length=m
theorem F4{th:List ai}{who to:Int}:∀(l:List aB)(ns:List Int)(tb:List aa),Inv tb th->aG 0 ((tb.length:Int)-1) to=true->okM th tb.length (ns.length+l.length) (hJ th who to l ns tb)
 |[],ns,tb,h,ht=>⟨h,rfl,by simp⟩
 |p::r,ns,tb,h,ht=>by
  rw[hJ];obtain⟨g1,g2⟩:=yG h who p.Num p.bI to ht;cases hc:((dE tb th who p.Num p.bI to).2.1 !=0)with
  |true=>
   rw[cond_true];exact bne_iff_ne.1 hc
  |false=>
   rw[cond_false];have ih:=F4 (who:=who) r (ns++[(dE tb th who p.Num p.bI to).1]) _ g1 (by rw[g2];exact ht);cases hm:hJ th who to r (ns++[(dE tb th who p.Num p.bI to).1]) (dE tb th who p.Num p.bI to).2.2 with
   |inl x=>rw[hm]at ih;exact ih
   |inr x=>
    rw[hm]at ih;obtain⟨i1,i2,i3⟩:=ih;exact⟨i1,i2.trans g2,by rw[i3,List.length_append,List.length_singleton,List.length_cons];omega⟩
theorem Tt(pass:List aB)(hp:pass.length<=1048576)(last y_ c who to o3:Int)(o9:List ah)(eg:List Int)(th:List ai):∀(f k:Nat)(ns:List Int)(tb:List aa),pass.length-k<f->ns.length+(pass.length-k)<=1048576->Inv tb th->aG 0 ((tb.length:Int)-1) to=true->
 M.mQ last pass (pass.length:Int) y_ c to who o9 eg f (k:Int) o3 ns tb th=some (match hJ th who to (pass.drop k) ns tb with
   |.inl (e,ef)=>.inl (e,y_,o3,[],o9,eg,ef,th)
   |.inr (ns',ef)=>.inr (last,y_,o3,ns',o9,eg,ef,th)):=by
 intro f
 induction f with
 |zero=>intro k ns tb h;omega
 |succ f ih=>
  intro k ns tb hk hn h ht;rw[M.mQ];rcases Nat.lt_or_ge k pass.length with h2|h2
  ·rw[cm h2,hJ];obtain⟨g1,g2⟩:=yG h who pass[k].Num pass[k].bI to ht;have hb:decide (ns.length+1<=1073741824)=true:=by rw[decide_eq_true_eq];omega
   simp only[Int.toNat_natCast,getD_lt h2,bF,Int.ofNat_lt,h2,decide_true,cond_true,Bool.and_true,bn h2 (by omega:pass.length<2^62),SU h who pass[k].Num pass[k].bI to o3 ht,Option.getD_some,Option.isSome_some,List.length_cons,List.length_nil,Nat.zero_add,hb];cases ((dE tb th who pass[k].Num pass[k].bI to).2.1 !=0)
   ·simp only[cond_false];exact ih (k+1) _ _ (by omega) (by rw[List.length_append,List.length_singleton];omega) g1 (by rw[g2];exact ht)
   ·rfl
  ·rw[decide_eq_false (by omega),cond_false,List.drop_eq_nil_of_le h2];rfl
theorem Tu(pass:List aB)(hp:pass.length<=1048576)(n c who to y_ y2:Int)(eg:List ah)(gf:List Int)(th:List ai):∀(f k:Nat)(ns:List Int)(tb:List aa),pass.length-k<f->ns.length+(pass.length-k)<=1048576->Inv tb th->aG 0 ((tb.length:Int)-1) to=true->
 M.mR pass n c to who f (k:Int) y_ y2 ns tb th eg gf=some (match hJ th who to (pass.drop k) ns tb with
   |.inl (e,ef)=>.inl (e,y_,y2,[],ef,th,eg,gf)
   |.inr (ns',ef)=>.inr (n,y_,y2,ns',ef,th,eg,gf)):=by
 intro f
 induction f with
 |zero=>intro k ns tb h;omega
 |succ f ih=>
  intro k ns tb hk hn h ht;rw[M.mR];rcases Nat.lt_or_ge k pass.length with h2|h2
  ·rw[cm h2,hJ];obtain⟨g1,g2⟩:=yG h who pass[k].Num pass[k].bI to ht;have hb:decide (ns.length+1<=1073741824)=true:=by rw[decide_eq_true_eq];omega
   simp only[Int.toNat_natCast,getD_lt h2,bF,Int.ofNat_lt,h2,decide_true,cond_true,Bool.and_true,bn h2 (by omega:pass.length<2^62),SZ h y_ y2 eg gf who pass[k].Num pass[k].bI to ht,Option.getD_some,Option.isSome_some,List.length_cons,List.length_nil,Nat.zero_add,hb];cases ((dE tb th who pass[k].Num pass[k].bI to).2.1 !=0)
   ·simp only[cond_false];exact ih (k+1) _ _ (by omega) (by rw[List.length_append,List.length_singleton];omega) g1 (by rw[g2];exact ht)
   ·rfl
  ·rw[decide_eq_false (by omega),cond_false,List.drop_eq_nil_of_le h2];rfl
def cQ(st:List ah):ah:=st.getD (st.length-1) ah.zero
def dL(st:List ah)(tb:List aa)(th:List ai)(pass:List aB):Int×List Int×List ah×List aa:=
 bif decide (st.length=0)then(5,[],st,tb)else bif !iU pass|| !kW pass then(1,[],st,tb)else bif decide ((0:Int)<((pS tb (cQ st).Id:Nat):Int))then(12,[],st,tb)else
  match hJ th (cQ st).Callee (cQ st).Caller pass [] tb with
  |.inl (e,ef)=>(e,[],st,ef)
  |.inr (ns,ef)=>(0,ns,st.take (st.length-1),ef)
theorem Tv{tb:List aa}{th:List ai}(h:Inv tb th)(hs:tb.length<=1048576)(pass:List aB)(hp:pass.length<=1048576)(y_ o1:Int)(st:List ah)(o3:List Int)(hst:st.length<=1048576)(ht:0<st.length->aG 0 ((tb.length:Int)-1) (cQ st).Caller=true):
 M.qa pass y_ o1 st o3 tb th=some ((dL st tb th pass).1,y_,o1,(dL st tb th pass).2.1,(dL st tb th pass).2.2.1,o3,(dL st tb th pass).2.2.2,th):=by
 unfold M.qa dL;rw[wrap_i64 (by omega) (by omega)];rcases Nat.eq_zero_or_pos st.length with h0|h0
 ·have d1:decide (((st.length:Nat):Int)-1<0)=true:=by rw[decide_eq_true_eq];omega
  have d2:decide (st.length=0)=true:=by rw[decide_eq_true_eq];omega
  simp only[d1,d2,cond_true]
 ·have d1:decide (((st.length-1:Nat):Int)<0)=false:=by rw[decide_eq_false_iff_not];omega
  have d2:decide (st.length=0)=false:=by rw[decide_eq_false_iff_not];omega
  have hn:((st.length:Int)-1)=((st.length-1:Nat):Int):=by omega
  have hw:inB ((st.length-1:Nat):Int) st.length=true:=by rw[bF,decide_eq_true_eq];omega
  have hl:=Tt pass hp ((st.length-1:Nat):Int) y_ (cQ st).Id (cQ st).Callee (cQ st).Caller o1 st o3 th ak 0 [] tb (by have:=b9;omega) (by simpa using hp) h (ht h0);rw[List.drop_zero]at hl;have hl':M.mQ ((st.length-1:Nat):Int) pass (pass.length:Int) y_ (cQ st).Id (cQ st).Caller (cQ st).Callee st o3 ak 0 o1 [] tb th=_:=hl;have hlc:st.getD (st.length-1) ah.zero=cQ st:=rfl;have hsl:bV 0 ((st.length-1:Nat):Int) st.length=true:=by unfold bV;simp only[Bool.and_eq_true,decide_eq_true_eq];omega
  simp only[hn,d1,d2,S4 pass (by omega),S5 pass (by omega),Option.getD_some,Option.isSome_some,Bool.true_or,Bool.and_true,cond_true,cond_false,Int.toNat_natCast,hlc,Tc h hs,hw,hl',hsl];cases (!iU pass|| !kW pass)
  ·cases decide ((0:Int)<((pS tb (cQ st).Id:Nat):Int))
   ·cases hJ th (cQ st).Callee (cQ st).Caller pass [] tb with
    |inl x=>rfl
    |inr x=>simp only[cond_false,Int.toNat_natCast,hsl,cond_true]
   ·rfl
  ·rfl
theorem Tz{tb:List aa}{th:List ai}(h:Inv tb th)(hs:tb.length<=1048576)(pass:List aB)(hp:pass.length<=1048576)(y_ y2:Int)(st:List ah)(o4:List Int)(hst:st.length<=1048576)(ht:0<st.length->aG 0 ((tb.length:Int)-1) (cQ st).Caller=true):
 M.qb pass y_ y2 tb th st o4=some ((dL st tb th pass).1,y_,y2,(dL st tb th pass).2.1,(dL st tb th pass).2.2.2,th,(dL st tb th pass).2.2.1,o4):=by
 unfold M.qb dL;rcases Nat.eq_zero_or_pos st.length with h0|h0
 ·rw[h0];rfl
 ·have hz:(((st.length:Nat):Int)==0)=false:=by rw[beq_eq_false_iff_ne];omega
  rw[hz,decide_eq_false (by omega:¬st.length=0)];have hn:Go.IntKind.wrap .i64 ((st.length:Int)-1)=((st.length-1:Nat):Int):=by rw[wrap_i64 (by omega) (by omega)];omega
  have hw:inB ((st.length-1:Nat):Int) st.length=true:=by rw[bF,decide_eq_true_eq];omega
  have hl:=Tu pass hp (st.length:Int) (cQ st).Id (cQ st).Callee (cQ st).Caller y_ y2 st o4 th ak 0 [] tb (by have:=b9;omega) (by simpa using hp) h (ht h0);rw[List.drop_zero]at hl;have hl':M.mR pass (st.length:Int) (cQ st).Id (cQ st).Caller (cQ st).Callee ak 0 y_ y2 [] tb th st o4=_:=hl;have hlc:st.getD (st.length-1) ah.zero=cQ st:=rfl;have hsl:bV 0 ((st.length-1:Nat):Int) st.length=true:=by unfold bV;simp only[Bool.and_eq_true,decide_eq_true_eq];omega
  have htk:decide (0+(st.take (st.length-1)).length<=1073741824)=true:=by rw[decide_eq_true_eq,List.length_take];omega
  simp only[hn,S7 pass (by omega),S8 pass (by omega),Option.getD_some,Option.isSome_some,Bool.true_or,Bool.and_true,cond_true,cond_false,Int.toNat_natCast,hlc,Ti h hs,hw,hl'];cases (!iU pass|| !kW pass)
  ·cases decide ((0:Int)<((pS tb (cQ st).Id:Nat):Int))
   ·cases hJ th (cQ st).Callee (cQ st).Caller pass [] tb with
    |inl x=>rfl
    |inr x=>
     simp only[cond_false,hn,Int.toNat_natCast,htk,hsl,Bool.and_true,cond_true];rfl
   ·rfl
  ·rfl
end M
namespace M
open Go.V (inB bV ak b9 c9 dn)
theorem F5:∀(tb:List aa),(cC tb).length<=aH aa.sz tb
 |[]=>by simp[cC]
 |t::r=>by
  have:=F5 r;have h1:=cw ae.sz t.Entries;have h2:=aa.bX t;rw[gZ,List.length_append,aH];omega
theorem td{a:Int}(h:I64 a):dn a=true:=FB h.1 h.2
theorem vb(y:af)(h:y.sz<=1048576):jC y:=by
 have e1:=af.bX y;have e2:=av.bX y.Shelf;refine⟨?_,?_,fun t ht=>?_,?_,fun c hc=>?_,?_⟩
 ·have:=cw ai.sz y.Shelf.aA;omega
 ·have:=cw aa.sz y.Shelf.Tables;omega
 ·have:=dC aa.sz y.Shelf.Tables t ht;have h1:=cw ae.sz t.Entries;have h2:=aa.bX t;omega
 ·have:=cw ah.sz y.Stack;omega
 ·have:=dC ah.sz y.Stack c hc;have h1:=cw (fun _=>0) c.bG;have h2:=ah.bX c;omega
 ·have:=cw (fun _=>0) y.Dead;omega
theorem F6(y:af)(h:y.sz<=1048576)(ok:y.Ok):Fit y:=by
 have f:=vb y h;have e1:=af.bX y;have e2:=av.bX y.Shelf;have oS:=ok.1;refine⟨by have:=f.th;omega,by have:=f.tb;omega,fun t ht=>by have:=f.en t ht;omega,by have:=f.st;omega,fun c hc=>by have:=f.ar c hc;omega,by have:=f.de;omega,?_,fun t ht e he=>?_,fun x hx=>?_⟩
 ·have:=F5 y.Shelf.Tables;omega
 ·have oE:=(oS.2.1.2 t ht).2.1.2 e he;exact⟨td oE.1,td oE.2.1,td oE.2.2.2.2.2.1,td oE.2.2.2.2.2.2.1⟩
 ·exact td (oS.2.2.1.2 x hx).1
theorem F7(nx:Int):∀(l:List ae)(last:Int),jr nx last l=true->∀e∈l,0<=e.bT
 |[],_,_,e,he=>by simp at he
 |x::r,last,h,e,he=>by
  rw[jr,Bool.and_eq_true,Bool.and_eq_true,Bool.and_eq_true,decide_eq_true_eq,decide_eq_true_eq,decide_eq_true_eq]at h;rcases List.mem_cons.1 he with rfl|he
  ·exact h.1.2.2
  ·exact F7 nx r x.Num h.2 e he
theorem F8(p:Int->ae->Bool)(q:ae->Bool)(hpq:∀w e,p w e=true->q e=true):∀(tb:List aa)(k:Nat),cP p k tb=true->∀t∈tb,∀e∈t.Entries,q e=true
 |[],_,_,t,ht=>by simp at ht
 |x::r,k,h,t,ht=>by
  rw[cP,Bool.and_eq_true,List.all_eq_true]at h;rcases List.mem_cons.1 ht with rfl|ht
  ·exact fun e he=>hpq _ _ (h.1 e he)
  ·exact F8 p q hpq r (k+1) h.2 t ht
theorem inv_of(y:af)(f:jC y)(h:ga y=true):Inv y.Shelf.Tables y.Shelf.aA/\(0<y.Stack.length->aG 0 ((y.Shelf.Tables.length:Int)-1) (cQ y.Stack).Caller=true):=by
 unfold ga kz oR sV at h;simp only[Bool.and_eq_true]at h;obtain⟨⟨⟨⟨⟨_,_,hT,hE,_⟩,h2⟩,hS,_⟩,_⟩,_⟩:=h;rw[List.all_eq_true]at hT;refine⟨⟨by have:=f.tb;omega,by have:=f.th;omega,fun t ht=>?_,fun t ht=>?_,fun t ht e he=>⟨?_,?_⟩⟩,fun h0=>?_⟩
 ·have:=hT t ht;unfold eG at this;simp only[Bool.and_eq_true,decide_eq_true_eq]at this;omega
 ·have:=hT t ht;unfold eG aG at this;simp only[Bool.and_eq_true,decide_eq_true_eq]at this;omega
 ·exact F8 (eB y.Shelf) (fun e=>y.Shelf.aA.any fun x=>x.Id==e.Id) (fun w e g=>by
   unfold eB at g;rw[Bool.and_eq_true]at g;exact g.1) _ 0 hE t ht e he
 ·have:=hT t ht;unfold eG at this;rw[Bool.and_eq_true]at this;exact F7 _ _ _ this.1 e he
 ·rw[List.all_eq_true]at hS;have g:=hS (y.Stack.length-1) (List.mem_range.2 (by omega));unfold sP sC at g;simp only[Bool.and_eq_true,beq_iff_eq]at g;have hc:(cQ y.Stack).Caller=(ip y.Stack (y.Stack.length-1)).Callee:=g.1.1.2.2;rw[hc];simp only[aG,Bool.and_eq_true,decide_eq_true_eq]at h2;cases hk:y.Stack.length-1 with
  |zero=>
   show aG 0 ((y.Shelf.Tables.length:Int)-1) 0=true
   simp only[aG,Bool.and_eq_true,decide_eq_true_eq];omega
  |succ k=>
   have g':=hS k (List.mem_range.2 (by omega));unfold sP sC at g';simp only[Bool.and_eq_true]at g';have hi:instB y (y.Stack.getD k ah.zero).Callee=true:=g'.1.2.1
   show aG 0 ((y.Shelf.Tables.length:Int)-1) (y.Stack.getD k ah.zero).Callee=true
   simp only[instB,aG,Bool.and_eq_true,decide_eq_true_eq]at hi⊢;omega
def iu(y:af)(pass:List aB):Int×Int×Int×List aa×List ai×List ah×List Int×List Int:=
 bif !ga y then(0,0,1,[],[],[],[],[])else
  bif(dL y.Stack y.Shelf.Tables y.Shelf.aA pass).1 !=0 then(0,0,(dL y.Stack y.Shelf.Tables y.Shelf.aA pass).1,[],[],[],[],[])else
   (y.Shelf.Next,y.Next,0,(dL y.Stack y.Shelf.Tables y.Shelf.aA pass).2.2.2,y.Shelf.aA,(dL y.Stack y.Shelf.Tables y.Shelf.aA pass).2.2.1,y.Dead,(dL y.Stack y.Shelf.Tables y.Shelf.aA pass).2.1)
theorem yI(y:af)(f:jC y)(h:ga y=true)(pass:List aB)(h0:((dL y.Stack y.Shelf.Tables y.Shelf.aA pass).1 !=0)=false):
 ∃ns tb,dL y.Stack y.Shelf.Tables y.Shelf.aA pass=(0,ns,y.Stack.take (y.Stack.length-1),tb)/\Inv tb y.Shelf.aA/\tb.length=y.Shelf.Tables.length/\ns.length=pass.length/\iU pass=true:=by
 obtain⟨hI,hC⟩:=inv_of y f h;unfold dL at h0⊢;cases h1:decide (y.Stack.length=0)with
 |true=>rw[h1]at h0;simp at h0
 |false=>
  rw[h1]at h0;rw[decide_eq_false_iff_not]at h1;simp only[cond_false]at h0⊢;cases h2:(!iU pass|| !kW pass)with
  |true=>rw[h2]at h0;simp at h0
  |false=>
   rw[h2]at h0;simp only[cond_false]at h0⊢;cases h3:decide ((0:Int)<((pS y.Shelf.Tables (cQ y.Stack).Id:Nat):Int))with
   |true=>rw[h3]at h0;simp at h0
   |false=>
    rw[h3]at h0;simp only[cond_false]at h0⊢;have hm:=F4 (who:=(cQ y.Stack).Callee) pass [] y.Shelf.Tables hI (hC (by omega));cases hq:hJ y.Shelf.aA (cQ y.Stack).Callee (cQ y.Stack).Caller pass [] y.Shelf.Tables with
    |inl x=>
     rw[hq]at hm h0;simp only[okM]at hm h0;exact absurd (by simpa using h0) hm
    |inr x=>
     rw[hq]at hm;simp only[okM]at hm;exact⟨x.1,x.2,rfl,hm.1,hm.2.1,by simpa using hm.2.2,by simp only[Bool.or_eq_false_iff,Bool.not_eq_false']at h2;exact h2.1⟩
theorem TA(y:af)(f:jC y){tb:List aa}(hI:Inv tb y.Shelf.aA)(hl:tb.length=y.Shelf.Tables.length):jC (af.mk (av.mk y.Shelf.Next tb y.Shelf.aA) (y.Stack.take (y.Stack.length-1)) y.Next y.Dead):=by
 refine⟨f.th,by simp only[hl];exact f.tb,fun t ht=>by have:=hI.en t ht;omega,?_,fun c hc=>f.ar c (List.mem_of_mem_take hc),f.de⟩;have:=f.st;simp only[List.length_take];omega
theorem TB(y:af)(h:y.sz<=1048576)(ok:y.Ok)(pass:List aB)(hp:pass.length<=1048576):M.mS y pass=some (iu y pass):=by
 have f:=vb y h;unfold M.mS iu;rw[RD y (F6 y h ok)];cases hy:ga y with
 |false=>rfl
 |true=>
  obtain⟨hI,hC⟩:=inv_of y f hy;have hl:=Tv hI f.tb pass hp y.Next y.Shelf.Next y.Stack y.Dead f.st hC;simp only[Tm y f,Option.getD_some,Option.isSome_some,Bool.not_true,cond_false,Bool.and_true,hl];cases h0:((dL y.Stack y.Shelf.Tables y.Shelf.aA pass).1 !=0)with
  |true=>rfl
  |false=>
   obtain⟨ns,tb,e,gI,gl,gn,_⟩:=yI y f hy pass h0;have gy:=Tn _ (TA y f gI gl);simp only[]at gy;simp only[e,cond_false,gy,Option.isSome_some,Option.getD_some,cond_true]
theorem TC(y:af)(h:y.sz<=1048576)(ok:y.Ok)(pass:List aB)(hp:pass.length<=1048576):M.mT y pass=some (iu y pass):=by
 have f:=vb y h;unfold M.mT iu;rw[SD y (F6 y h ok)];cases hy:ga y with
 |false=>rfl
 |true=>
  obtain⟨hI,hC⟩:=inv_of y f hy;have hl:=Tz hI f.tb pass hp y.Shelf.Next y.Next y.Stack y.Dead f.st hC;simp only[Tq y f,Option.getD_some,Option.isSome_some,Bool.not_true,cond_false,Bool.and_true,hl];cases h0:((dL y.Stack y.Shelf.Tables y.Shelf.aA pass).1 !=0)with
  |true=>rfl
  |false=>
   obtain⟨ns,tb,e,gI,gl,gn,_⟩:=yI y f hy pass h0;simp only[e,cond_false,cond_true]
end M
namespace M
open Go.V (inB bV ak b9)
def aU{α:Type}(mk:Int->α->Int×α):Int->List α->Int×List α
 |k,[]=>(k,[])
 |k,x::r=>((aU mk (mk k x).1 r).1,(mk k x).2::(aU mk (mk k x).1 r).2)
theorem eH{α:Type}(mk:Int->α->Int×α):∀(k:Int)(l:List α),(aU mk k l).2.length=l.length
 |k,[]=>rfl
 |k,x::r=>by simp[aU,eH mk _ r]
theorem te{α:Type}{l:List α}{i:Nat}(h:i<l.length)(x d:α):(l.set i x).getD i d=x:=by
 rw[List.getD_eq_getElem?_getD,List.getElem?_set_self h];rfl
theorem qc{α:Type}{F:Nat->Int->Int->List α->Option (Int×List α)}{mk:Int->α->Int×α}(a:List α)(ha:a.length<=1048576)(I:Nat->Int->Prop)(d:α)
 (step:∀f k i (l:List α),∀h:i<a.length,i<l.length->l.getD i d=a[i]->I i k->F (f+1) k (i:Int) l=F f (mk k a[i]).1 ((i+1:Nat):Int) (l.set i (mk k a[i]).2)/\I (i+1) (mk k a[i]).1)
 (stop:∀f k (l:List α),l.length=a.length->F (f+1) k (a.length:Int) l=some (k,l)) (k0:Int) (h0:I 0 k0):F ak k0 0 a=some (aU mk k0 a):=by
 have key:∀f i k (l:List α),i<=a.length->a.length-i<f->l.length=a.length->(∀j,i<=j->l[j]?=a[j]?)->I i k->F f k (i:Int) l=some ((aU mk k (a.drop i)).1,l.take i++(aU mk k (a.drop i)).2):=by
  intro f
  induction f with
  |zero=>intro i k l h1 h2;omega
  |succ f ih=>
   intro i k l h1 h2 hl hj hI;rcases Nat.lt_or_ge i a.length with hi|hi
   ·have hg:l.getD i d=a[i]:=by rw[List.getD_eq_getElem?_getD,hj i (Nat.le_refl _),List.getElem?_eq_getElem hi];rfl
    obtain⟨e,hI'⟩:=step f k i l hi (by omega) hg hI;rw[e,ih (i+1) _ _ (by omega) (by omega) (by simpa using hl) (fun j hj'=>by rw[List.getElem?_set,if_neg (by omega)];exact hj j (by omega)) hI',cm hi];simp only[aU];congr 2;rw[List.take_add_one,List.getElem?_set_self (by omega),List.take_set_of_le (Nat.le_refl _)];simp
   ·have:i=a.length:=by omega
    subst this;rw[stop f k l hl,List.drop_length,<-hl,List.take_length];simp[aU]
 have:=key ak 0 k0 a (Nat.zero_le _) (by have:=b9;omega) rfl (fun _ _=>rfl) h0;simpa using this
theorem tf{α E:Type}{F:Nat->Int->Int->Option (Int⊕E)}{mk:Int->α->Int×α}{fin:Int->E}(a:List α)(ha:a.length<=1048576)(I:Nat->Int->Prop)(d:α)(k0:Int)(h0:I 0 k0)
 (step:∀f k i (y:α),∀h:i<a.length,((aU mk k0 a).2).getD i d=y->y=(mk k a[i]).2->I i k->F (f+1) k (i:Int)=F f (mk k a[i]).1 ((i+1:Nat):Int)/\I (i+1) (mk k a[i]).1)
 (stop:∀f k,F (f+1) k (a.length:Int)=some (.inr (fin k))):F ak k0 0=some (.inr (fin (aU mk k0 a).1)):=by
 have key:∀f i k,i<=a.length->a.length-i<f->(aU mk k0 a).2.drop i=(aU mk k (a.drop i)).2->(aU mk k0 a).1=(aU mk k (a.drop i)).1->I i k->F f k (i:Int)=some (.inr (fin (aU mk k (a.drop i)).1)):=by
  intro f
  induction f with
  |zero=>intro i k h1 h2;omega
  |succ f ih=>
   intro i k h1 h2 hd hk hI;rcases Nat.lt_or_ge i a.length with hi|hi
   ·have hlen:=eH mk k0 a;have hi':i<(aU mk k0 a).2.length:=by omega
    have hd':=hd;rw[cm hi,aU,cm hi']at hd;have hg:((aU mk k0 a).2).getD i d=(mk k a[i]).2:=by
     rw[getD_lt hi'];exact(List.cons.inj hd).1
    obtain⟨e,hI'⟩:=step f k i _ hi rfl hg hI;rw[e,ih (i+1) _ (by omega) (by omega) (List.cons.inj hd).2 (by rw[hk,cm hi,aU]) hI',cm hi,aU]
   ·have:i=a.length:=by omega
    subst this;rw[stop,List.drop_length];rfl
 have:=key ak 0 k0 (Nat.zero_le _) (by have:=b9;omega) rfl rfl h0;simpa using this
theorem three:((3:Int) !=0)=true:=rfl
theorem jD{n:Int}(h:0<=n):decide (n<0)=false:=by rw[decide_eq_false_iff_not];omega
theorem iv{q:Int}(h0:0<=q)(h1:q<=1000000000000):Go.IntKind.wrap .i64 (q+1)=q+1:=wrap_i64 (by omega) (by omega)
def mI(k:Int)(x:Int):Int×Int:=(k+1,k)
theorem qd:∀(l:List Int)(k:Int),k<=(aU mI k l).1/\(aU mI k l).1<=k+1*(aH (fun _=>0) l:Int)
 |[],k=>by simp[aU,aH]
 |x::r,k=>by
  have h2:=qd r (mI k x).1;simp only[aU,aH,mI]at h2⊢;omega
theorem yJ(a:List Int)(k:Int)(hz:aH (fun _=>0) a<=1048576)(h0:0<=k)(h1:k<=90000000000):M.hK k a=some (aU mI k a):=by
 have hlen:=cw (fun _=>0) a;unfold M.hK;rw[qc (F:=M.mU) (mk:=mI) a (by omega) (fun i q=>0<=q/\q+1*(aH (fun _=>0) (a.drop i):Int)<=91000000000) 0 (fun f q i l hi hl hg hI=>by
  rw[cm hi,aH]at hI;rw[M.mU];have hlt:decide ((i:Int)<((l.length:Nat):Int))=true:=by rw[decide_eq_true_eq];omega
  have hin:inB (i:Int) l.length=true:=by rw[bF];simpa using hl
  refine⟨?_,by simp only[mI];omega,by simp only[mI];omega⟩;simp (disch:=omega) only[hlt,hin,Int.toNat_natCast,cond_true,Bool.true_and,Bool.and_true,iv,bn hi (dw (show a.length<=1048576 by omega))];rfl) (fun f q l hl=>by rw[M.mU];simp[hl]) k ⟨h0,by simp only[List.drop_zero];omega⟩]
theorem yK(a:List Int)(k:Int)(hz:aH (fun _=>0) a<=1048576)(h0:0<=k)(h1:k<=90000000000):M.iw (aU mI k a).2 k=some (aU mI k a).1:=by
 have hlen:=cw (fun _=>0) a;unfold M.iw;rw[tf (F:=M.mV (aU mI k a).2) (mk:=mI) (fin:=id) a (by omega) (fun i q=>0<=q/\q+1*(aH (fun _=>0) (a.drop i):Int)<=91000000000) 0 k ⟨h0,by simp only[List.drop_zero];omega⟩ (fun f q i y hi e1 e2 hI=>by
  rw[e2]at e1;rw[cm hi,aH]at hI;rw[M.mV];have hlt:decide ((i:Int)<(((aU mI k a).2.length:Nat):Int))=true:=by rw[decide_eq_true_eq,eH];omega
  have hin:inB (i:Int) (aU mI k a).2.length=true:=by rw[bF,eH];simpa using hi
  refine⟨?_,by simp only[mI];omega,by simp only[mI];omega⟩;have em:(mI q a[i]).2=q:=rfl;simp (disch:=omega) only[hlt,hin,e1,em,Int.toNat_natCast,cond_true,cond_false,Bool.true_and,Bool.and_true,iv,bn hi (dw (show a.length<=1048576 by omega)),beq_self_eq_true,bne_self_eq_false,Bool.not_true,Bool.and_self];rfl) (fun f q=>by rw[M.mV];simp[eH])]
 rfl
noncomputable def d5(k:Int)(x:ae):Int×ae:=(k+1+1+1+1+1+1+1,ae.mk (k) (k+1) ((Int.tmod (k+1+1) (3:Int)==(0:Int))) (k+1+1+1) (k+1+1+1+1) (k+1+1+1+1+1) (k+1+1+1+1+1+1))
theorem yL(x:ae)(k:Int):k<=(d5 k x).1/\(d5 k x).1<=k+7*((x.sz+1:Nat):Int):=by
 have hs:=ae.bX x;unfold d5;simp only[];omega
theorem vc:∀(l:List ae)(k:Int),k<=(aU d5 k l).1/\(aU d5 k l).1<=k+7*(aH ae.sz l:Int)
 |[],k=>by simp[aU,aH]
 |x::r,k=>by
  have h1:=yL x k;have h2:=vc r (d5 k x).1;simp only[aU,aH];omega
theorem TD(a:List ae)(k:Int)(hz:aH ae.sz a<=1048576)(h0:0<=k)(h1:k<=90000000000):M.qe k a=some (aU d5 k a):=by
 have hlen:=cw ae.sz a;unfold M.qe;rw[qc (F:=M.mW) (mk:=d5) a (by omega) (fun i q=>0<=q/\q+7*(aH ae.sz (a.drop i):Int)<=91000000000) ae.zero (fun f q i l hi hl hg hI=>by
  rw[cm hi,aH]at hI;have hle:=yL a[i] q;have hmem:=dC ae.sz a a[i] (List.getElem_mem hi);have hs:=ae.bX a[i];rw[M.mW];have hlt:decide ((i:Int)<((l.length:Nat):Int))=true:=by rw[decide_eq_true_eq];omega
  have hin:inB (i:Int) l.length=true:=by rw[bF];simpa using hl
  refine⟨?_,by omega,by omega⟩;simp (disch:=omega) only[hlt,hin,Int.toNat_natCast,cond_true,Bool.true_and,Bool.and_true,te,hl,List.length_set,hg,iv,three,Option.isSome_some,Option.getD_some,bn hi (dw (show a.length<=1048576 by omega)),List.set_set];rfl) (fun f q l hl=>by rw[M.mW];simp[hl]) k ⟨h0,by simp only[List.drop_zero];omega⟩]
theorem TE(a:List ae)(k:Int)(hz:aH ae.sz a<=1048576)(h0:0<=k)(h1:k<=90000000000):M.qf (aU d5 k a).2 k=some (aU d5 k a).1:=by
 have hlen:=cw ae.sz a;unfold M.qf;rw[tf (F:=M.mX (aU d5 k a).2) (mk:=d5) (fin:=id) a (by omega) (fun i q=>0<=q/\q+7*(aH ae.sz (a.drop i):Int)<=91000000000) ae.zero k ⟨h0,by simp only[List.drop_zero];omega⟩ (fun f q i y hi e1 e2 hI=>by
  subst e2;rw[cm hi,aH]at hI;have hle:=yL a[i] q;have hmem:=dC ae.sz a a[i] (List.getElem_mem hi);have hs:=ae.bX a[i];rw[M.mX];have hlt:decide ((i:Int)<(((aU d5 k a).2.length:Nat):Int))=true:=by rw[decide_eq_true_eq,eH];omega
  have hin:inB (i:Int) (aU d5 k a).2.length=true:=by rw[bF,eH];simpa using hi
  refine⟨?_,by omega,by omega⟩;have em:(d5 q a[i]).2=ae.mk (q) (q+1) ((Int.tmod (q+1+1) (3:Int)==(0:Int))) (q+1+1+1) (q+1+1+1+1) (q+1+1+1+1+1) (q+1+1+1+1+1+1):=rfl;simp (disch:=omega) only[hlt,hin,e1,em,Int.toNat_natCast,cond_true,cond_false,Bool.true_and,Bool.and_true,iv,three,Option.isSome_some,Option.getD_some,bn hi (dw (show a.length<=1048576 by omega)),beq_self_eq_true,bne_self_eq_false,Bool.not_true,Bool.and_self];rfl) (fun f q=>by rw[M.mX];simp[eH])]
 rfl
noncomputable def da(k:Int)(x:ai):Int×ai:=(k+1+1+1,ai.mk (k) (k+1) (k+1+1))
theorem yM(x:ai)(k:Int):k<=(da k x).1/\(da k x).1<=k+3*((x.sz+1:Nat):Int):=by
 have hs:=ai.bX x;unfold da;simp only[];omega
theorem F9:∀(l:List ai)(k:Int),k<=(aU da k l).1/\(aU da k l).1<=k+3*(aH ai.sz l:Int)
 |[],k=>by simp[aU,aH]
 |x::r,k=>by
  have h1:=yM x k;have h2:=F9 r (da k x).1;simp only[aU,aH];omega
theorem TF(a:List ai)(k:Int)(hz:aH ai.sz a<=1048576)(h0:0<=k)(h1:k<=90000000000):M.qg k a=some (aU da k a):=by
 have hlen:=cw ai.sz a;unfold M.qg;rw[qc (F:=M.mY) (mk:=da) a (by omega) (fun i q=>0<=q/\q+3*(aH ai.sz (a.drop i):Int)<=91000000000) ai.zero (fun f q i l hi hl hg hI=>by
  rw[cm hi,aH]at hI;have hle:=yM a[i] q;have hmem:=dC ai.sz a a[i] (List.getElem_mem hi);have hs:=ai.bX a[i];rw[M.mY];have hlt:decide ((i:Int)<((l.length:Nat):Int))=true:=by rw[decide_eq_true_eq];omega
  have hin:inB (i:Int) l.length=true:=by rw[bF];simpa using hl
  refine⟨?_,by omega,by omega⟩;simp (disch:=omega) only[hlt,hin,Int.toNat_natCast,cond_true,Bool.true_and,Bool.and_true,te,hl,List.length_set,hg,iv,three,Option.isSome_some,Option.getD_some,bn hi (dw (show a.length<=1048576 by omega)),List.set_set];rfl) (fun f q l hl=>by rw[M.mY];simp[hl]) k ⟨h0,by simp only[List.drop_zero];omega⟩]
theorem TG(a:List ai)(k:Int)(hz:aH ai.sz a<=1048576)(h0:0<=k)(h1:k<=90000000000):M.qh (aU da k a).2 k=some (aU da k a).1:=by
 have hlen:=cw ai.sz a;unfold M.qh;rw[tf (F:=M.mZ (aU da k a).2) (mk:=da) (fin:=id) a (by omega) (fun i q=>0<=q/\q+3*(aH ai.sz (a.drop i):Int)<=91000000000) ai.zero k ⟨h0,by simp only[List.drop_zero];omega⟩ (fun f q i y hi e1 e2 hI=>by
  subst e2;rw[cm hi,aH]at hI;have hle:=yM a[i] q;have hmem:=dC ai.sz a a[i] (List.getElem_mem hi);have hs:=ai.bX a[i];rw[M.mZ];have hlt:decide ((i:Int)<(((aU da k a).2.length:Nat):Int))=true:=by rw[decide_eq_true_eq,eH];omega
  have hin:inB (i:Int) (aU da k a).2.length=true:=by rw[bF,eH];simpa using hi
  refine⟨?_,by omega,by omega⟩;have em:(da q a[i]).2=ai.mk (q) (q+1) (q+1+1):=rfl;simp (disch:=omega) only[hlt,hin,e1,em,Int.toNat_natCast,cond_true,cond_false,Bool.true_and,Bool.and_true,iv,three,Option.isSome_some,Option.getD_some,bn hi (dw (show a.length<=1048576 by omega)),beq_self_eq_true,bne_self_eq_false,Bool.not_true,Bool.and_self];rfl) (fun f q=>by rw[M.mZ];simp[eH])]
 rfl
noncomputable def jE(k:Int)(x:aB):Int×aB:=(k+1+1+1,aB.mk ((Int.tmod (k) (3:Int)==(0:Int))) (k+1) (k+1+1))
theorem Ge(x:aB)(k:Int):k<=(jE k x).1/\(jE k x).1<=k+3*((x.sz+1:Nat):Int):=by
 have hs:=aB.bX x;unfold jE;simp only[];omega
theorem Gf:∀(l:List aB)(k:Int),k<=(aU jE k l).1/\(aU jE k l).1<=k+3*(aH aB.sz l:Int)
 |[],k=>by simp[aU,aH]
 |x::r,k=>by
  have h1:=Ge x k;have h2:=Gf r (jE k x).1;simp only[aU,aH];omega
theorem TI(a:List aB)(k:Int)(hz:aH aB.sz a<=1048576)(h0:0<=k)(h1:k<=90000000000):M.qi k a=some (aU jE k a):=by
 have hlen:=cw aB.sz a;unfold M.qi;rw[qc (F:=M.m5) (mk:=jE) a (by omega) (fun i q=>0<=q/\q+3*(aH aB.sz (a.drop i):Int)<=91000000000) aB.zero (fun f q i l hi hl hg hI=>by
  rw[cm hi,aH]at hI;have hle:=Ge a[i] q;have hmem:=dC aB.sz a a[i] (List.getElem_mem hi);have hs:=aB.bX a[i];rw[M.m5];have hlt:decide ((i:Int)<((l.length:Nat):Int))=true:=by rw[decide_eq_true_eq];omega
  have hin:inB (i:Int) l.length=true:=by rw[bF];simpa using hl
  refine⟨?_,by omega,by omega⟩;simp (disch:=omega) only[hlt,hin,Int.toNat_natCast,cond_true,Bool.true_and,Bool.and_true,te,hl,List.length_set,hg,iv,three,Option.isSome_some,Option.getD_some,bn hi (dw (show a.length<=1048576 by omega)),List.set_set];rfl) (fun f q l hl=>by rw[M.m5];simp[hl]) k ⟨h0,by simp only[List.drop_zero];omega⟩]
noncomputable def cL(k:Int)(x:aa):Int×aa:=((aU d5 (k+1) x.Entries).1,aa.mk (k) ((aU d5 (k+1) x.Entries).2))
theorem yN(x:aa)(k:Int):k<=(cL k x).1/\(cL k x).1<=k+7*((x.sz+1:Nat):Int):=by
 have h0:=vc x.Entries (k+1);have l0:=cw ae.sz x.Entries;have hs:=aa.bX x;unfold cL;simp only[];omega
theorem Gg:∀(l:List aa)(k:Int),k<=(aU cL k l).1/\(aU cL k l).1<=k+7*(aH aa.sz l:Int)
 |[],k=>by simp[aU,aH]
 |x::r,k=>by
  have h1:=yN x k;have h2:=Gg r (cL k x).1;simp only[aU,aH];omega
theorem TJ(a:List aa)(k:Int)(hz:aH aa.sz a<=1048576)(h0:0<=k)(h1:k<=80000000000):M.qj k a=some (aU cL k a):=by
 have hlen:=cw aa.sz a;unfold M.qj;rw[qc (F:=M.m6) (mk:=cL) a (by omega) (fun i q=>0<=q/\q+7*(aH aa.sz (a.drop i):Int)<=81000000000) aa.zero (fun f q i l hi hl hg hI=>by
  rw[cm hi,aH]at hI;have hle:=yN a[i] q;have hmem:=dC aa.sz a a[i] (List.getElem_mem hi);have hs:=aa.bX a[i];have h0:=vc a[i].Entries (q+1);have l0:=cw ae.sz a[i].Entries;rw[M.m6];have hlt:decide ((i:Int)<((l.length:Nat):Int))=true:=by rw[decide_eq_true_eq];omega
  have hin:inB (i:Int) l.length=true:=by rw[bF];simpa using hl
  refine⟨?_,by omega,by omega⟩;simp (disch:=omega) only[hlt,hin,Int.toNat_natCast,cond_true,Bool.true_and,Bool.and_true,te,hl,List.length_set,hg,iv,three,TD,Option.isSome_some,Option.getD_some,bn hi (dw (show a.length<=1048576 by omega)),List.set_set];rfl) (fun f q l hl=>by rw[M.m6];simp[hl]) k ⟨h0,by simp only[List.drop_zero];omega⟩]
theorem TK(a:List aa)(k:Int)(hz:aH aa.sz a<=1048576)(h0:0<=k)(h1:k<=80000000000):M.qk (aU cL k a).2 k=some (aU cL k a).1:=by
 have hlen:=cw aa.sz a;unfold M.qk;rw[tf (F:=M.m7 (aU cL k a).2) (mk:=cL) (fin:=id) a (by omega) (fun i q=>0<=q/\q+7*(aH aa.sz (a.drop i):Int)<=81000000000) aa.zero k ⟨h0,by simp only[List.drop_zero];omega⟩ (fun f q i y hi e1 e2 hI=>by
  subst e2;rw[cm hi,aH]at hI;have hle:=yN a[i] q;have hmem:=dC aa.sz a a[i] (List.getElem_mem hi);have hs:=aa.bX a[i];have h0:=vc a[i].Entries (q+1);have l0:=cw ae.sz a[i].Entries;rw[M.m7];have hlt:decide ((i:Int)<(((aU cL k a).2.length:Nat):Int))=true:=by rw[decide_eq_true_eq,eH];omega
  have hin:inB (i:Int) (aU cL k a).2.length=true:=by rw[bF,eH];simpa using hi
  have n0:=jD (n:=(aU d5 (q+1) a[i].Entries).1) (by omega);refine⟨?_,by omega,by omega⟩;have em:(cL q a[i]).2=aa.mk (q) ((aU d5 (q+1) a[i].Entries).2):=rfl;simp (disch:=omega) only[hlt,hin,e1,em,Int.toNat_natCast,cond_true,cond_false,Bool.true_and,Bool.and_true,iv,three,TE,n0,Option.isSome_some,Option.getD_some,bn hi (dw (show a.length<=1048576 by omega)),beq_self_eq_true,bne_self_eq_false,Bool.not_true,Bool.and_self];rfl) (fun f q=>by rw[M.m7];simp[eH])]
 rfl
noncomputable def dx(k:Int)(x:ah):Int×ah:=((aU mI (k+1+1+1) x.bG).1,ah.mk (k) (k+1) (k+1+1) ((aU mI (k+1+1+1) x.bG).2))
theorem yO(x:ah)(k:Int):k<=(dx k x).1/\(dx k x).1<=k+3*((x.sz+1:Nat):Int):=by
 have h0:=qd x.bG (k+1+1+1);have l0:=cw (fun _=>0) x.bG;have hs:=ah.bX x;unfold dx;simp only[];omega
theorem Gh:∀(l:List ah)(k:Int),k<=(aU dx k l).1/\(aU dx k l).1<=k+3*(aH ah.sz l:Int)
 |[],k=>by simp[aU,aH]
 |x::r,k=>by
  have h1:=yO x k;have h2:=Gh r (dx k x).1;simp only[aU,aH];omega
theorem TL(a:List ah)(k:Int)(hz:aH ah.sz a<=1048576)(h0:0<=k)(h1:k<=80000000000):M.ql k a=some (aU dx k a):=by
 have hlen:=cw ah.sz a;unfold M.ql;rw[qc (F:=M.m8) (mk:=dx) a (by omega) (fun i q=>0<=q/\q+3*(aH ah.sz (a.drop i):Int)<=81000000000) ah.zero (fun f q i l hi hl hg hI=>by
  rw[cm hi,aH]at hI;have hle:=yO a[i] q;have hmem:=dC ah.sz a a[i] (List.getElem_mem hi);have hs:=ah.bX a[i];have h0:=qd a[i].bG (q+1+1+1);have l0:=cw (fun _=>0) a[i].bG;rw[M.m8];have hlt:decide ((i:Int)<((l.length:Nat):Int))=true:=by rw[decide_eq_true_eq];omega
  have hin:inB (i:Int) l.length=true:=by rw[bF];simpa using hl
  refine⟨?_,by omega,by omega⟩;simp (disch:=omega) only[hlt,hin,Int.toNat_natCast,cond_true,Bool.true_and,Bool.and_true,te,hl,List.length_set,hg,iv,three,yJ,Option.isSome_some,Option.getD_some,bn hi (dw (show a.length<=1048576 by omega)),List.set_set];rfl) (fun f q l hl=>by rw[M.m8];simp[hl]) k ⟨h0,by simp only[List.drop_zero];omega⟩]
theorem TM(a:List ah)(k:Int)(hz:aH ah.sz a<=1048576)(h0:0<=k)(h1:k<=80000000000):M.qm (aU dx k a).2 k=some (aU dx k a).1:=by
 have hlen:=cw ah.sz a;unfold M.qm;rw[tf (F:=M.m9 (aU dx k a).2) (mk:=dx) (fin:=id) a (by omega) (fun i q=>0<=q/\q+3*(aH ah.sz (a.drop i):Int)<=81000000000) ah.zero k ⟨h0,by simp only[List.drop_zero];omega⟩ (fun f q i y hi e1 e2 hI=>by
  subst e2;rw[cm hi,aH]at hI;have hle:=yO a[i] q;have hmem:=dC ah.sz a a[i] (List.getElem_mem hi);have hs:=ah.bX a[i];have h0:=qd a[i].bG (q+1+1+1);have l0:=cw (fun _=>0) a[i].bG;rw[M.m9];have hlt:decide ((i:Int)<(((aU dx k a).2.length:Nat):Int))=true:=by rw[decide_eq_true_eq,eH];omega
  have hin:inB (i:Int) (aU dx k a).2.length=true:=by rw[bF,eH];simpa using hi
  have n0:=jD (n:=(aU mI (q+1+1+1) a[i].bG).1) (by omega);refine⟨?_,by omega,by omega⟩;have em:(dx q a[i]).2=ah.mk (q) (q+1) (q+1+1) ((aU mI (q+1+1+1) a[i].bG).2):=rfl;simp (disch:=omega) only[hlt,hin,e1,em,Int.toNat_natCast,cond_true,cond_false,Bool.true_and,Bool.and_true,iv,three,yK,n0,Option.isSome_some,Option.getD_some,bn hi (dw (show a.length<=1048576 by omega)),beq_self_eq_true,bne_self_eq_false,Bool.not_true,Bool.and_self];rfl) (fun f q=>by rw[M.m9];simp[eH])]
 rfl
end M
namespace M
open Go.V (inB bV ak b9)
structure Sm (tb:List aa) (th:List ai) (st:List ah) (de:List Int):Prop where
 a:aH aa.sz tb<=1048576
 b:aH ai.sz th<=1048576
 c:aH ah.sz st<=1048576
 d:aH (fun _=>0) de<=1048576
theorem Gi(n1 n2:Int)(tb:List aa)(th:List ai)(st:List ah)(de:List Int)(h:Sm tb th st de):∃k ef Gj st' Gk,M.na n1 n2 1 tb th st de=some (k,ef,Gj,st',Gk)/\
 (∀n3 n4,M.qn (af.mk (av.mk n3 ef Gj) st' n4 Gk) 1=some k)/\0<=k/\k<=20000000:=by
 obtain⟨ha,hb,hc,hd⟩:=h;have b1:=Gg tb 1;have b2:=F9 th (aU cL 1 tb).1;have b3:=Gh st (aU da (aU cL 1 tb).1 th).1;have b4:=qd de (aU dx (aU da (aU cL 1 tb).1 th).1 st).1;have e1:=TJ tb 1 ha (by omega) (by omega);have e2:=TF th (aU cL 1 tb).1 hb (by omega) (by omega);have e3:=TL st (aU da (aU cL 1 tb).1 th).1 hc (by omega) (by omega);have e4:=yJ de (aU dx (aU da (aU cL 1 tb).1 th).1 st).1 hd (by omega) (by omega);have g1:=TK tb 1 ha (by omega) (by omega);have g2:=TG th (aU cL 1 tb).1 hb (by omega) (by omega);have g3:=TM st (aU da (aU cL 1 tb).1 th).1 hc (by omega) (by omega);have g4:=yK de (aU dx (aU da (aU cL 1 tb).1 th).1 st).1 hd (by omega) (by omega);have k1:=jD (n:=(aU cL 1 tb).1) (by omega);have k2:=jD (n:=(aU da (aU cL 1 tb).1 th).1) (by omega);have k3:=jD (n:=(aU dx (aU da (aU cL 1 tb).1 th).1 st).1) (by omega);have k4:=jD (n:=(aU mI (aU dx (aU da (aU cL 1 tb).1 th).1 st).1 de).1) (by omega);refine⟨(aU mI (aU dx (aU da (aU cL 1 tb).1 th).1 st).1 de).1,(aU cL 1 tb).2,(aU da (aU cL 1 tb).1 th).2,(aU dx (aU da (aU cL 1 tb).1 th).1 st).2,(aU mI (aU dx (aU da (aU cL 1 tb).1 th).1 st).1 de).2,?_,fun n3 n4=>?_,?_,?_⟩
 ·unfold M.na M.tg;simp only[e1,e2,e3,e4,Option.getD_some,Option.isSome_some,Bool.and_true,cond_true]
 ·unfold M.qn M.ti;simp only[g1,g2,g3,g4,k1,k2,k3,k4,Option.getD_some,Option.isSome_some,Bool.and_true,cond_true,cond_false]
 ·omega
 ·omega
theorem TN(ns:List Int)(h:ns.length<=1048576)(k:Int)(h0:0<=k)(h1:k<=20000000):∃k' ns',M.hK k ns=some (k',ns')/\M.iw ns' k=some k'/\0<=k':=by
 have hz:aH (fun _=>0) ns<=1048576:=by
  have:∀l:List Int,aH (fun _=>0) l=l.length:=fun l=>by induction l with
   |nil=>rfl
   |cons x r ih=>rw[aH,ih,List.length_cons];omega
  rw[this];exact h
 have b:=qd ns k;exact⟨_,_,yJ ns k hz h0 (by omega),yK ns k hz h0 (by omega),by omega⟩
theorem Gl(f:ah->Nat):∀(l:List ah)(n:Nat),aH f (l.take n)<=aH f l
 |[],n=>by simp
 |x::r,0=>by simp[aH]
 |x::r,n+1=>by
  have:=Gl f r n;rw[List.take_succ_cons,aH,aH];omega
theorem Gm:∀l:List ae,aH ae.sz l=l.length
 |[]=>rfl
 |x::r=>by rw[aH,Gm r,ae.bX,List.length_cons];omega
theorem Gn:∀(tb:List aa),(∀t∈tb,t.Entries.length<=12)->aH aa.sz tb<=13*tb.length
 |[],_=>by simp[aH]
 |t::r,h=>by
  have h1:=Gn r (fun t ht=>h t (List.mem_cons_of_mem _ ht));have h2:=h t List.mem_cons_self;have h3:=aa.bX t;rw[Gm]at h3;rw[aH,List.length_cons];omega
theorem TP(y:af)(h:ga y=true):y.Shelf.Tables.length<=7:=by
 unfold ga at h;simp only[Bool.and_eq_true,aG,decide_eq_true_eq]at h;omega
theorem TQ(y:af)(h:y.sz<=1048576)(pass:List aB):Sm (iu y pass).2.2.2.1 (iu y pass).2.2.2.2.1 (iu y pass).2.2.2.2.2.1 (iu y pass).2.2.2.2.2.2.1/\(iu y pass).2.2.2.2.2.2.2.length<=12:=by
 have f:=vb y h;have hs:=af.bX y;have hs2:=av.bX y.Shelf;have z:Sm [] [] [] []:=⟨by simp[aH],by simp[aH],by simp[aH],by simp[aH]⟩;unfold iu;cases hy:ga y with
 |false=>exact⟨z,by simp⟩
 |true=>
  cases h0:((dL y.Stack y.Shelf.Tables y.Shelf.aA pass).1 !=0)with
  |true=>exact⟨z,by simp⟩
  |false=>
   obtain⟨ns,tb,e,gI,gl,gn,gp⟩:=yI y f hy pass h0;have h7:=TP y hy;have ht:=Gn tb gI.en;have hk:=Gl ah.sz y.Stack (y.Stack.length-1);unfold iU at gp;simp only[Bool.and_eq_true,decide_eq_true_eq]at gp;simp only[e,Bool.not_true,cond_false];refine⟨⟨by omega,by omega,by omega,by omega⟩,by omega⟩
theorem Gp(a:af)(h:Sm a.Shelf.Tables a.Shelf.aA a.Stack a.Dead):M.k7 a a=some true:=by
 unfold M.k7 M.tj;simp only[TR _ h.a,TS _ h.b,TU _ h.c,yP _ h.d,Option.getD_some,Option.isSome_some,Bool.and_true,Bool.not_true,cond_true,cond_false,bne_self_eq_false]
theorem TV(l:List Int):aH (fun _=>0) l=l.length:=by induction l with
 |nil=>rfl
 |cons x r ih=>rw[aH,ih,List.length_cons];omega
theorem TW(y:af)(pass:List aB)(hy:y.Ok)(hp:d6 aB.Ok pass):M.k9 y pass=some true:=by
 have s0:=TX y 1048576 hy (by omega) (by omega);by_cases h0:(y.sz:Int)<=1048576
 ·rw[if_pos h0]at s0;have d0:decide (1048576-(y.sz:Int)<0)=false:=decide_eq_false (by omega);have s1:=TY pass (1048576-(y.sz:Int)) hp (by omega) (by omega);by_cases h1:(aH aB.sz pass:Int)<=1048576-(y.sz:Int)
  ·rw[if_pos h1]at s1;have d1:decide (1048576-(y.sz:Int)-(aH aB.sz pass:Int)<0)=false:=decide_eq_false (by omega);have vd:y.sz<=1048576:=by omega
   have hpz:aH aB.sz pass<=1048576:=by omega
   have hpl:=Nat.le_trans (cw aB.sz pass) hpz;have hs:=af.bX y;have hs2:=av.bX y.Shelf;have hsm:Sm y.Shelf.Tables y.Shelf.aA y.Stack y.Dead:=⟨by omega,by omega,by omega,by omega⟩;have e1:M.mS (af.mk (av.mk y.Shelf.Next y.Shelf.Tables y.Shelf.aA) y.Stack y.Next y.Dead) pass=_:=TB y vd hy pass hpl;have e2:M.mT (af.mk (av.mk y.Shelf.Next y.Shelf.Tables y.Shelf.aA) y.Stack y.Next y.Dead) pass=_:=TC y vd hy pass hpl;obtain⟨o1,o2⟩:=TQ y vd pass;generalize iu y pass=R at*;have e3:=TZ y vd;have e4:=T0 pass hpz;have e5:M.k7 (af.mk (av.mk y.Shelf.Next y.Shelf.Tables y.Shelf.aA) y.Stack y.Next y.Dead) (af.mk (av.mk y.Shelf.Next y.Shelf.Tables y.Shelf.aA) y.Stack y.Next y.Dead)=some true:=Gp _ hsm;have e6:=T8 pass hpz;have e7:=Gp (af.mk (av.mk R.1 R.2.2.2.1 R.2.2.2.2.1) R.2.2.2.2.2.1 R.2.1 R.2.2.2.2.2.2.1) o1;have e8:=yP R.2.2.2.2.2.2.2 (by rw[TV];omega);obtain⟨k,tb,th,st,de,m1,m2,m3,m4⟩:=Gi y.Shelf.Next y.Next _ _ _ _ hsm;obtain⟨q,tb2,th2,st2,de2,n1,n2,n3,n4⟩:=Gi R.1 R.2.1 _ _ _ _ o1;have p1:=TI pass k hpz m3 (by omega);have p2:=jD (n:=(aU jE k pass).1) (by have:=Gf pass k;omega);obtain⟨r,ns,u1,u2,u3⟩:=TN R.2.2.2.2.2.2.2 (by omega) q n3 n4;have d2:=jD n3;have d3:=jD u3;unfold M.k9;simp only[s0,s1,d0,d1,d2,d3,e1,e2,e3,e4,e5,e6,e7,e8,m1,n1,n2,p1,p2,u1,u2,Option.getD_some,Option.isSome_some,Bool.and_true,
    Bool.not_true,Bool.or_self,bne_self_eq_false,cond_false,cond_true,Bool.false_or,Bool.or_false,Bool.true_or,Bool.true_and]
  ·rw[if_neg h1]at s1;unfold M.k9;simp only[s0,s1,d0,Option.getD_some,Option.isSome_some,Bool.and_true,cond_false];rfl
 ·rw[if_neg h0]at s0;unfold M.k9;simp only[s0,Option.getD_some,Option.isSome_some,Bool.and_true,cond_false];rfl
end M
