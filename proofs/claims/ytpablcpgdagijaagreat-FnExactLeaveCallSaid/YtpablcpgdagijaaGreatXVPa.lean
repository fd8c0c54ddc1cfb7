/-
  COUNTS KEPT IN A MAP; A CHAIN THAT FOLLOWS ENTRIES; RISING LISTS: laws without a program.
-/
import Derived.Test.YtpablcpgdagijaaGreatXCplA
import Derived.Test.YtpablcpgdagijaaGreatXWgC
import Derived.Test.YtpablcpgdagijaaGreatXVYM
import Derived.Test.YtpablcpgdagijaaGreatXClaw
set_option linter.unusedVariables false
set_option linter.unusedSimpArgs false
namespace M
open Go.V (inB bU bJ dr dS fD du ko)
theorem sK(k:List Int):bU [] k=0:=rfl
theorem uU(p:List Int×Int)(r:List (List Int×Int))(k:List Int):bU (p::r) k=bif p.1==k then p.2 else bU r k:=by
 unfold bU;simp only[bJ];cases p.1==k<;>simp
theorem QY(k:List Int)(v:Int):fD [] k v=[(k,v)]:=rfl
theorem QZ(p:List Int×Int)(r:List (List Int×Int))(k:List Int)(v:Int):fD (p::r) k v=bif p.1==k then(p.1,v)::r else p::fD r k v:=by
 unfold fD dr du dS;simp only[bJ];by_cases hp:(p.1==k)=true
 ·simp only[hp,cond_true];simp
 ·simp only[Bool.not_eq_true]at hp;simp only[hp,cond_false,List.length_cons];by_cases hd:bJ r k<r.length
  ·have h1:bJ r k+1<r.length+1:=by omega
   simp[hd]
  ·have h1:¬bJ r k+1<r.length+1:=by omega
   simp[hd]
theorem Q0(l:List (List Int×Int))(k k':List Int)(v:Int):bU (fD l k v) k'=bif k==k' then v else bU l k':=by
 induction l with
 |nil=>rw[QY,uU,sK]
 |cons p r ih=>
  rw[QZ,uU];cases hp:p.1==k
  ·rw[cond_false,uU,ih];cases hk:p.1==k'
   ·rfl
   ·rw[cond_true];have e1:=eq_of_beq hk;cases hkk:k==k'
    ·rfl
    ·have e2:=eq_of_beq hkk;rw[e2,<-e1]at hp;simp at hp
  ·rw[cond_true,uU];have e1:=eq_of_beq hp;rw[e1];cases k==k'<;>rfl
def kq(l:List (List Int×Int))(k:List Int):List (List Int×Int):=fD l k (Go.IntKind.wrap .i64 (bU l k+1))
theorem yv:∀(ks:List (List Int))(l:List (List Int×Int)),(∀k,0<=bU l k/\bU l k+ks.length<=1099511627776)->∀k,bU (ks.foldl kq l) k=bU l k+(ks.countP (· ==k):Nat)
 |[],l,h,k=>by simp
 |q::r,l,h,k=>by
  have hq:=h q;simp only[List.length_cons,Int.natCast_add,Int.natCast_one]at hq;have hw:Go.IntKind.wrap .i64 (bU l q+1)=bU l q+1:=wrap_i64 (by omega) (by omega);have hg:∀k',bU (kq l q) k'=bif q==k' then bU l q+1 else bU l k':=fun k'=>by
   unfold kq;rw[hw,Q0]
  rw[List.foldl_cons,yv r (kq l q) (fun k'=>by
   rw[hg];have hk:=h k';simp only[List.length_cons,Int.natCast_add,Int.natCast_one]at hk;cases q==k'
   ·rw[cond_false];omega
   ·rw[cond_true];omega) k,hg,List.countP_cons]
  cases hqk:q==k
  ·rw[cond_false];simp
  ·rw[cond_true];have:=eq_of_beq hqk;subst this;simp;omega
theorem Fh{α:Type}{p q:α->Bool}:∀(l:List α),(∀x∈l,p x=true->q x=true)->l.countP p<=l.countP q:=fun l h=>List.countP_mono_left h
theorem Fj{α:Type}{p q:α->Bool}:∀(l:List α),(∀x∈l,p x=true->q x=true)->l.countP p=l.countP q->∀x∈l,q x=true->p x=true
 |[],_,_,x,hx,_=>by cases hx
 |y::r,h,he,x,hx,hq=>by
  have hr:=Fh (p:=p) (q:=q) r fun z hz=>h z (List.mem_cons_of_mem _ hz)
  rw[List.countP_cons,List.countP_cons]at he;have hy:=h y (by simp);have key:r.countP p=r.countP q/\(q y=true->p y=true):=by
   cases hp:p y<;>cases Q1:q y<;>simp[hp,Q1]at he hy⊢<;>omega
  rcases List.mem_cons.1 hx with rfl|hx
  ·exact key.2 hq
  ·exact Fj r (fun z hz=>h z (List.mem_cons_of_mem _ hz)) key.1 x hx hq
theorem rests{α:Type}(T:Nat->α->Bool)(l:List α)(hm:∀n,∀x∈l,T n x=true->T (n+1) x=true)(hs:∀n,(∀x∈l,T (n+1) x=true->T n x=true)->∀x∈l,T (n+2) x=true->T (n+1) x=true):
 ∀n,l.length<=n->∀x∈l,T (n+1) x=true->T n x=true:=by
 have step:∀n,n<=l.countP (T n)\/∀x∈l,T (n+1) x=true->T n x=true:=fun n=>by
  induction n with
  |zero=>exact .inl (Nat.zero_le _)
  |succ n ih=>
   rcases ih with h|h
   ·have hle:=Fh (p:=T n) (q:=T (n+1)) l (hm n);rcases Nat.lt_or_ge (l.countP (T n)) (l.countP (T (n+1)))with h1|h1
    ·exact .inl (by omega)
    ·exact .inr (hs n (Fj l (hm n) (by omega)))
   ·exact .inr (hs n h)
 intro n hn x hx hT;rcases step n with h|h
 ·have h1:=List.countP_le_length (p:=T n) (l:=l);have h2:l.countP (T n)=l.length:=by omega
  exact List.countP_eq_length.1 h2 x hx
 ·exact h x hx hT
def gW:Int->List Int->Bool
 |_,[]=>true
 |last,x::r=>decide (last<x)&&gW x r
theorem Fo:∀(l:List Int)(last hi:Int),gW last l=true->(∀x∈l,x<=hi)->(l.length:Int)<=(if l=[]then 0 else hi-last)
 |[],last,hi,_,_=>by simp
 |x::r,last,hi,h,hb=>by
  simp only[gW,Bool.and_eq_true,decide_eq_true_eq]at h;have h2:=Fo r x hi h.2 fun y hy=>hb y (List.mem_cons_of_mem _ hy)
  have hx:=hb x (by simp);rw[if_neg (by simp)];simp only[List.length_cons,Int.natCast_add,Int.natCast_one];split at h2
  ·rename_i e;subst e;simp;omega
  ·omega
end M
namespace M
open Go.V (inB bV ak b9 bU bJ dr dS fD du ko cb dn c9)
theorem kr{k:Int}{n:Nat}(h:0<=k/\k<(n:Int)):inB k n=true:=by unfold inB;rw[decide_eq_true h.1,decide_eq_true h.2];rfl
def aG(lo hi n:Int):Bool:=decide (lo<=n)&&decide (n<=hi)
def jq(nx:Int):Int->List ai->Bool
 |_,[]=>true
 |last,x::r=>(decide (last<x.Id)&&(decide (x.Id<nx)&&(aG 1 8 x.bI&&aG 0 2147483647 x.Rep)))&&jq nx x.Id r
theorem Q2(s:av)(l:List ai)(hl:l.length<2^62):∀f k last,l.length-k<f->M.l9 l (l.length:Int) s f last (k:Int)=some (bif jq s.Next last (l.drop k)then .inr s else .inl false):=by
 intro f
 induction f with
 |zero=>intro k last h;omega
 |succ f ih=>
  intro k last hk;rw[M.l9];rcases Nat.lt_or_ge k l.length with h1|h1
  ·rw[cm h1,jq];have e:=ih (k+1) l[k].Id (by omega);simp only[Int.toNat_natCast,getD_lt h1,bF,Int.ofNat_lt,h1,decide_true,cond_true,Bool.true_and,Bool.and_true,bn h1 hl];have c:((((decide (l[k].Id<=last))||(decide (s.Next<=l[k].Id)))||(!((decide ((1:Int)<=l[k].bI))&&(decide (l[k].bI<=(8:Int))))))||(!((decide ((0:Int)<=l[k].Rep))&&(decide (l[k].Rep<=(2147483647:Int))))))= !(decide (last<l[k].Id)&&(decide (l[k].Id<s.Next)&&(aG 1 8 l[k].bI&&aG 0 2147483647 l[k].Rep))):=by
    unfold aG;rw[Bool.eq_iff_iff];simp only[Bool.or_eq_true,Bool.and_eq_true,Bool.not_eq_true',Bool.and_eq_false_iff,decide_eq_true_eq,decide_eq_false_iff_not];omega
   rw[c];cases (decide (last<l[k].Id)&&(decide (l[k].Id<s.Next)&&(aG 1 8 l[k].bI&&aG 0 2147483647 l[k].Rep)))
   ·rfl
   ·rw[Bool.not_true,cond_false,Bool.true_and];exact e
  ·rw[decide_eq_false (by omega),cond_false,List.drop_eq_nil_of_le h1];rfl
def sL(s:av):Bool:=jq s.Next 0 s.aA&&decide ((s.aA.length:Int)<=24)
theorem Q3(s:av)(hl:s.aA.length<2^62):M.oD s=some (sL s):=by
 unfold M.oD sL;rw[show M.l9 s.aA (s.aA.length:Int) s ak 0 0=_ from Q2 s s.aA hl ak 0 0 (by have:=b9;omega),List.drop_zero];cases jq s.Next 0 s.aA<;>rfl
def jr(nx:Int):Int->List ae->Bool
 |_,[]=>true
 |last,x::r=>(decide (last<x.Num)&&(decide (x.Num<nx)&&decide (0<=x.bT)))&&jr nx x.Num r
theorem Q4(t:aa)(l:List ae)(hl:l.length<2^62):∀f k last,l.length-k<f->M.ma l (l.length:Int) t f last (k:Int)=some (bif jr t.Next last (l.drop k)then .inr t else .inl false):=by
 intro f
 induction f with
 |zero=>intro k last h;omega
 |succ f ih=>
  intro k last hk;rw[M.ma];rcases Nat.lt_or_ge k l.length with h1|h1
  ·rw[cm h1,jr];have e:=ih (k+1) l[k].Num (by omega);simp only[Int.toNat_natCast,getD_lt h1,bF,Int.ofNat_lt,h1,decide_true,cond_true,Bool.true_and,Bool.and_true,bn h1 hl];have c:(((decide (l[k].Num<=last))||(decide (t.Next<=l[k].Num)))||(decide (l[k].bT<(0:Int))))= !(decide (last<l[k].Num)&&(decide (l[k].Num<t.Next)&&decide (0<=l[k].bT))):=by
    rw[Bool.eq_iff_iff];simp only[Bool.or_eq_true,Bool.and_eq_true,Bool.not_eq_true',Bool.and_eq_false_iff,decide_eq_true_eq,decide_eq_false_iff_not];omega
   rw[c];cases (decide (last<l[k].Num)&&(decide (l[k].Num<t.Next)&&decide (0<=l[k].bT)))
   ·rfl
   ·rw[Bool.not_true,cond_false,Bool.true_and];exact e
  ·rw[decide_eq_false (by omega),cond_false,List.drop_eq_nil_of_le h1];rfl
def eG(t:aa):Bool:=jr t.Next 0 t.Entries&&(aG 1 1000000 t.Next&&decide ((t.Entries.length:Int)<=12))
theorem Q5(t:aa)(hl:t.Entries.length<2^62):M.oG t=some (eG t):=by
 unfold M.oG eG;rw[show M.ma t.Entries (t.Entries.length:Int) t ak 0 0=_ from Q4 t t.Entries hl ak 0 0 (by have:=b9;omega),List.drop_zero];cases jr t.Next 0 t.Entries<;>rfl
theorem Q6(l:List aa)(hl:l.length<2^62)(ht:∀t∈l,t.Entries.length<2^62):M.oH l=some (l.any fun t=> !eG t):=by
 have:=contains_of (p:=fun t=> !eG t) (F:=fun f k=>M.mb l (l.length:Int) f k) l hl (fun f k h=>by
  have hm:=ht l[k] (List.getElem_mem h);simp only[M.mb,M.sM,Int.toNat_natCast,getD_lt h,Q5 _ hm,Option.isSome_some,Option.getD_some,Bool.true_and,Bool.and_true,cond_true,bF,Int.ofNat_lt,h,decide_true,bn h hl]) (fun f=>by
  simp only[M.mb,Int.lt_irrefl,decide_false,cond_false])
 have e:M.sN l=_:=this;unfold M.oH;rw[e];simp only[Option.isSome_some,Option.getD_some,Bool.and_true,cond_true,index_ge]
def il(l:List ai)(id:Int):Int:=match l.findIdx? (fun x=>x.Id==id)with
 |some k=>(k:Int)
 |none=> -1
theorem Fp(l:List ai)(id:Int):decide (il l id<0)= !(l.any fun x=>x.Id==id):=by
 unfold il;rw[yt];cases l.findIdx? (fun x=>x.Id==id)with
 |none=>rfl
 |some k=>
  simp only[Option.isSome_some,Bool.not_true,decide_eq_false_iff_not];omega
theorem yw(s:av)(hl:s.aA.length<2^62)(id:Int):M.fE s id=some (il s.aA id):=by
 have:=contains_of (p:=fun x:ai=>x.Id==id) (F:=fun f k=>M.mc s.aA id (s.aA.length:Int) f k) s.aA hl (fun f k h=>by
  simp only[M.mc,Int.toNat_natCast,getD_lt h,Bool.and_true,cond_true,bF,Int.ofNat_lt,h,decide_true,bn h hl]) (fun f=>by
  simp only[M.mc,Int.lt_irrefl,decide_false,cond_false])
 have e:M.sO s.aA id=_:=this;unfold M.fE;rw[e];simp only[Option.isSome_some,Option.getD_some,Bool.and_true,cond_true];rfl
def cH(tb:List aa)(who num:Int):Option ae:=bif aG 0 ((tb.length:Int)-1) who then(tb.getD who.toNat aa.zero).Entries.find? (fun e=>e.Num==num)else none
theorem Fq{α:Type}(p:α->Bool)(l:List α)(z:α):l.find? p=(l.findIdx? p).map fun k=>l.getD k z:=by
 induction l with
 |nil=>rfl
 |cons x r ih=>
  rw[List.find?_cons,List.findIdx?_cons];cases p x
  ·simp only[Bool.false_eq_true,if_false,ih,Option.map_map];congr 1
  ·simp
theorem Ft{α E:Type}{p:α->Bool}{F:Nat->Int->Option (α⊕E)}{e:E}(z:α)(a:List α)(ha:a.length<2^62)
 (step:∀f k,∀h:k<a.length,F (f+1) (k:Int)=bif p a[k]then some (.inl a[k])else F f ((k+1:Nat):Int)) (stop:∀f,F (f+1) (a.length:Int)=some (.inr e)):
 F ak 0=some (match a.find? p with
   |some x=>.inl x
   |none=>.inr e):=by
 have:=yq (p:=p) (e:=e) (fun i=>a.getD i.toNat z) a ha (fun f k h=>by rw[step f k h];simp only[Int.toNat_natCast,getD_lt h]) stop;rw[this,Fq p a z];cases a.findIdx? p with
 |none=>rfl
 |some k=>simp
theorem Fv(s:av)(hl:s.Tables.length<2^62)(who:Int):M.kt s who=some (aG 0 ((s.Tables.length:Int)-1) who):=by
 unfold M.kt aG;rw[wrap_i64 (by omega) (by omega)]
theorem uV(s:av)(hl:s.Tables.length<2^62)(ht:∀t∈s.Tables,t.Entries.length<2^62)(who num:Int):M.gX s who num=cH s.Tables who num:=by
 unfold M.gX cH;rw[Fv s hl];simp only[Option.getD_some,Option.isSome_some,Bool.and_true];cases hi:aG 0 ((s.Tables.length:Int)-1) who
 ·rfl
 ·simp only[aG,Bool.and_eq_true,decide_eq_true_eq]at hi;have hw:inB who s.Tables.length=true:=kr ⟨by omega,by omega⟩;have hlt:who.toNat<s.Tables.length:=by omega
  have hm:=ht _ (List.getElem_mem hlt);rw[<-getD_lt hlt aa.zero]at hm;generalize hT:s.Tables.getD who.toNat aa.zero=T at hm⊢;have:=Ft (p:=fun e:ae=>e.Num==num) (e:=()) (F:=fun f k=>M.md s who num (T.Entries.length:Int) f k) ae.zero T.Entries hm (fun f k h=>by
   simp only[M.md,hT,Int.toNat_natCast,getD_lt h,Bool.and_true,cond_true,bF,Int.ofNat_lt,h,decide_true,bn h hm,hw,Bool.true_and]) (fun f=>by
   simp only[M.md,Int.lt_irrefl,decide_false,cond_false])
  simp only[Bool.not_true,cond_false,cond_true];rw[this,hw];cases T.Entries.find? (fun e=>e.Num==num)<;>rfl
theorem uW(s:av)(hl:s.Tables.length<2^62)(ht:∀t∈s.Tables,t.Entries.length<2^62)(who num:Int):M.gY s who num=bif(cH s.Tables who num).isSome then none else some ():=by
 unfold M.gY cH;rw[Fv s hl];simp only[Option.getD_some,Option.isSome_some,Bool.and_true];cases hi:aG 0 ((s.Tables.length:Int)-1) who
 ·rfl
 ·simp only[aG,Bool.and_eq_true,decide_eq_true_eq]at hi;have hw:inB who s.Tables.length=true:=kr ⟨by omega,by omega⟩;have hlt:who.toNat<s.Tables.length:=by omega
  have hm:=ht _ (List.getElem_mem hlt);rw[<-getD_lt hlt aa.zero]at hm;generalize hT:s.Tables.getD who.toNat aa.zero=T at hm⊢;have:=Ft (p:=fun e:ae=>e.Num==num) (e:=()) (F:=fun f k=>M.me s who num (T.Entries.length:Int) f k) ae.zero T.Entries hm (fun f k h=>by
   simp only[M.me,hT,Int.toNat_natCast,getD_lt h,Bool.and_true,cond_true,bF,Int.ofNat_lt,h,decide_true,bn h hm,hw,Bool.true_and]) (fun f=>by
   simp only[M.me,Int.lt_irrefl,decide_false,cond_false])
  simp only[Bool.not_true,cond_false,cond_true];rw[this,hw];cases T.Entries.find? (fun e=>e.Num==num)<;>rfl
theorem Q7(s:av)(hl:s.Tables.length<2^62)(ht:∀t∈s.Tables,t.Entries.length<2^62)(e:ae):M.oI s e=cH s.Tables e.From e.bQ:=by
 unfold M.oI;rw[uV s hl ht,uW s hl ht];cases cH s.Tables e.From e.bQ<;>rfl
theorem Q8(s:av)(hl:s.Tables.length<2^62)(ht:∀t∈s.Tables,t.Entries.length<2^62)(e:ae):M.oJ s e=bif(cH s.Tables e.From e.bQ).isSome then none else some ():=by
 unfold M.oJ;rw[uV s hl ht,uW s hl ht];cases cH s.Tables e.From e.bQ<;>rfl
def mf(tb:List aa):Nat->ae->Bool
 |0,_=>false
 |n+1,e=>match cH tb e.From e.bQ with
  |none=>false
  |some x=>x.Id==e.Id&&(x.Own||mf tb n x)
theorem Q9(s:av)(hl:s.Tables.length<2^62)(ht:∀t∈s.Tables,t.Entries.length<2^62):∀(f k:Nat)(e:ae),k<=85->85-k<f->
 (match M.oK s f (k:Int) e with
   |none=>none
   |some y=>(match y with
    |.inl a=>some a
    |.inr _=>some false))=some (mf s.Tables (85-k) e):=by
 intro f
 induction f with
 |zero=>intro k e _ h;omega
 |succ f ih=>
  intro k e hk hf;rw[M.oK,Q7 s hl ht,Q8 s hl ht];rcases Nat.lt_or_ge k 85 with h1|h1
  ·have e1:85-k=(85-(k+1))+1:=by omega
   rw[decide_eq_true (by omega:(k:Int)<=84),cond_true,e1,mf,bn h1 (by omega)];cases hx:cH s.Tables e.From e.bQ with
   |none=>rfl
   |some x=>
    simp only[Option.isSome_some,cond_true,Option.isSome_none,Bool.and_true,cond_false,c9,Option.getD_some];cases hid:x.Id==e.Id
    ·rw[show(x.Id !=e.Id)=true by rw[eS,hid];rfl];rfl
    ·rw[show(x.Id !=e.Id)=false by rw[eS,hid];rfl,cond_false];cases ho:x.Own
     ·rw[cond_false];simp only[Bool.true_and,Bool.false_or];exact ih (k+1) x (by omega) (by omega)
     ·rfl
  ·have:k=85:=by omega
   subst this;rfl
def oL(tb:List aa)(e:ae):Bool:=aG 1 1000000 e.Scope&&mf tb 85 e
theorem Rb(s:av)(hl:s.Tables.length<2^62)(ht:∀t∈s.Tables,t.Entries.length<2^62)(e:ae):M.oM s e=some (oL s.Tables e):=by
 unfold M.oM oL;rw[show((decide ((1:Int)<=e.Scope))&&(decide (e.Scope<=(1000000:Int))))=aG 1 1000000 e.Scope from rfl];cases aG 1 1000000 e.Scope
 ·rfl
 ·have:=Q9 s hl ht ak 0 e (by omega) (by have:=b9;omega);simp only[Bool.not_true,cond_false,Bool.true_and];exact this
end M
namespace M
open Go.V (inB bV ak b9 bU bJ dr dS fD du ko cb dn c9)
def ku(e:ae):Prop:=dn e.Num=true/\dn e.Id=true/\dn e.From=true/\dn e.bQ=true
theorem Fz{a:Int}(h:dn a=true):cb 1 [a]=true:=by simp[cb,h]
theorem FA{a b:Int}(h:dn a=true)(h':dn b=true):cb 2 [a,b]=true:=by simp[cb,h,h']
theorem FB{a:Int}(h1: -9223372036854775808<=a)(h2:a<=9223372036854775807):dn a=true:=by simp[dn];omega
abbrev Mp :=List (List Int×Int)
def js(p:Mp×Mp)(e:ae):Mp×Mp:=bif e.Own then(p.1,kq p.2 [e.Id])else(kq p.1 [e.From,e.bQ],p.2)
theorem Re(l:Mp)(k:List Int):inB (bJ l k:Int) (dr l k).length=true:=by
 have h:=ko l k;rw[bF];unfold dr du;by_cases hd:bJ l k<l.length
 ·simp[hd]
 ·simp[hd];omega
theorem Rf(T:List aa)(n i:Int)(l:List ae)(hl:l.length<2^62)(he:∀e∈l,ku e)(p:Mp×Mp):
 M.jt T n i l (l.length:Int) ak 0 p.1 p.2=some (T,n,i,(l.foldl js p).1,(l.foldl js p).2):=by
 have:=yu (F:=fun f k (p:Mp×Mp)=>M.jt T n i l (l.length:Int) f k p.1 p.2) (g:=js) (h:=fun p=>(T,n,i,p.1,p.2)) l hl (fun _ _=>True) (fun f k p hk _=>by
  refine⟨?_,trivial⟩;have h:=he l[k] (List.getElem_mem hk);simp only[M.jt,Int.toNat_natCast,getD_lt hk,bF,Int.ofNat_lt,hk,decide_true,cond_true,Bool.and_true,bn hk hl];unfold js;cases l[k].Own
  ·simp only[cond_false];have e1:=Re p.1 [l[k].From,l[k].bQ];rw[bF]at e1;rw[e1,FA h.2.2.1 h.2.2.2];rfl
  ·simp only[cond_true,Fz h.2.1];rfl) (fun f p _=>by
  simp only[M.jt,Int.lt_irrefl,decide_false,cond_false]) p trivial
 exact this
def yx(p:Mp×Mp)(t:aa):Mp×Mp:=t.Entries.foldl js p
def cC(tb:List aa):List ae:=tb.flatMap (·.Entries)
theorem FC:∀(tb:List aa)(p:Mp×Mp),tb.foldl yx p=(cC tb).foldl js p
 |[],p=>rfl
 |t::r,p=>by
  simp only[List.foldl_cons,cC,List.flatMap_cons,List.foldl_append];exact FC r _
theorem Rh(T:List aa)(hT:T.length<2^62)(ht:∀t∈T,t.Entries.length<2^62)(he:∀t∈T,∀e∈t.Entries,ku e):∀(f k:Nat)(p:Mp×Mp),T.length-k<f->
 M.mg f T (T.length:Int) (k:Int) p.1 p.2=some ((T.drop k).foldl yx p):=by
 intro f
 induction f with
 |zero=>intro k p h;omega
 |succ f ih=>
  intro k p hk;rw[M.mg];rcases Nat.lt_or_ge k T.length with h1|h1
  ·have hm:=List.getElem_mem h1;rw[cm h1,List.foldl_cons];simp only[Int.toNat_natCast,getD_lt h1,bF,Int.ofNat_lt,h1,decide_true,cond_true,Bool.and_true];rw[Rf T (T.length:Int) (k:Int) T[k].Entries (ht _ hm) (he _ hm) p];simp only[bn h1 hT];exact ih (k+1) (yx p T[k]) (by omega)
  ·rw[decide_eq_false (by omega),cond_false,List.drop_eq_nil_of_le h1];rfl
def iQ(tb:List aa)(who num:Int):Nat:=(cC tb).countP fun e=> !e.Own&&(e.From==who&&e.bQ==num)
def iR(tb:List aa)(id:Int):Nat:=(cC tb).countP fun e=>e.Own&&e.Id==id
theorem yy:∀(l:List ae)(p:Mp×Mp),l.foldl js p=(((l.filter fun e=> !e.Own).map fun e=>[e.From,e.bQ]).foldl kq p.1,((l.filter fun e=>e.Own).map fun e=>[e.Id]).foldl kq p.2)
 |[],p=>rfl
 |e::r,p=>by
  rw[List.foldl_cons,yy r,List.filter_cons,List.filter_cons];unfold js;cases e.Own<;>rfl
theorem Ri(s:av)(hT:s.Tables.length<2^62)(ht:∀t∈s.Tables,t.Entries.length<2^62)(he:∀t∈s.Tables,∀e∈t.Entries,ku e)(hb:(cC s.Tables).length<=1048576):
 ∃p:Mp×Mp,M.oN s=some p/\(∀who num,bU p.1 [who,num]=(iQ s.Tables who num:Nat))/\∀id,bU p.2 [id]=(iR s.Tables id:Nat):=by
 refine⟨(cC s.Tables).foldl js ([],[]),?_,fun who num=>?_,fun id=>?_⟩
 ·unfold M.oN;rw[show M.mg ak s.Tables (s.Tables.length:Int) 0 [] []=_ from Rh s.Tables hT ht he ak 0 ([],[]) (by have:=b9;omega),List.drop_zero,FC]
 ·rw[yy,yv _ [] (fun k=>by
   rw[sK];have:=List.length_filter_le (fun e:ae=> !e.Own) (cC s.Tables);simp only[List.length_map];omega),sK,List.countP_map,List.countP_filter,Int.zero_add]
  unfold iQ;congr 1;refine List.countP_congr fun e _=>?_
  simp[and_comm,and_left_comm,and_assoc]
 ·rw[yy,yv _ [] (fun k=>by
   rw[sK];have:=List.length_filter_le (fun e:ae=>e.Own) (cC s.Tables);simp only[List.length_map];omega),sK,List.countP_map,List.countP_filter,Int.zero_add]
  unfold iR;congr 1;refine List.countP_congr fun e _=>?_
  simp[and_comm]
def oO(e:ae):Bool:=(e.Scope==0&&e.From==0)&&e.bQ==0
def eB(s:av)(who:Int)(e:ae):Bool:=(s.aA.any fun x=>x.Id==e.Id)&&((bif e.Own then oO e else oL s.Tables e)&&e.bT==(iQ s.Tables who e.Num:Nat))
theorem Rj(s:av)(im:s.aA.length<2^62)(hT:s.Tables.length<2^62)(ht:∀t∈s.Tables,t.Entries.length<2^62)(p:Mp×Mp)(hp:∀who num,bU p.1 [who,num]=(iQ s.Tables who num:Nat))
 (who:Int) (hw:dn who=true) (T:List aa) (n i:Int) (l:List ae) (hl:l.length<2^62) (he:∀e∈l,ku e):
 M.ky s who T n i l (l.length:Int) p.1 p.2 ak 0=some (if l.all (eB s who)then .inr (s,T,n,i,p.1,p.2)else .inl false):=by
 refine l8 (F:=fun f k=>M.ky s who T n i l (l.length:Int) p.1 p.2 f k) l hl (fun f k hk=>?_) (fun f=>by
  simp only[M.ky,Int.lt_irrefl,decide_false,cond_false])
 have h:=he l[k] (List.getElem_mem hk);simp only[M.ky,Int.toNat_natCast,getD_lt hk,bF,Int.ofNat_lt,hk,decide_true,cond_true,Bool.and_true,bn hk hl,yw s im,Rb s hT ht,Option.getD_some,Option.isSome_some,Bool.true_or,Bool.true_and,FA hw h.1,Fp,hp];have c:((((!(s.aA.any fun x=>x.Id==l[k].Id))||(l[k].Own&&(!(((l[k].Scope==0)&&(l[k].From==0))&&(l[k].bQ==0)))))||((!l[k].Own)&&(!oL s.Tables l[k])))||(l[k].bT !=((iQ s.Tables who l[k].Num:Nat):Int)))= !(eB s who l[k]):=by
  unfold eB oO;rw[eS];generalize ((l[k].Scope==0&&l[k].From==0)&&l[k].bQ==0)=b;cases b<;>cases l[k].Own<;>cases (s.aA.any fun x=>x.Id==l[k].Id)<;>cases (l[k].bT==((iQ s.Tables who l[k].Num:Nat):Int))<;>cases oL s.Tables l[k]<;>simp
 rw[c];cases eB s who l[k]<;>rfl
def cP(p:Int->ae->Bool):Nat->List aa->Bool
 |_,[]=>true
 |k,t::r=>t.Entries.all (p (k:Int))&&cP p (k+1) r
theorem Rk(s:av)(im:s.aA.length<2^62)(hT:s.Tables.length<2^62)(ht:∀t∈s.Tables,t.Entries.length<2^62)(he:∀t∈s.Tables,∀e∈t.Entries,ku e)(p:Mp×Mp)(hp:∀who num,bU p.1 [who,num]=(iQ s.Tables who num:Nat)):∀(f k:Nat),s.Tables.length-k<f->
 M.mh f s s.Tables (s.Tables.length:Int) (k:Int) p.1 p.2=some (if cP (eB s) k (s.Tables.drop k)then .inr (s,p.2)else .inl false):=by
 intro f
 induction f with
 |zero=>intro k h;omega
 |succ f ih=>
  intro k hk;rw[M.mh];rcases Nat.lt_or_ge k s.Tables.length with h1|h1
  ·have hm:=List.getElem_mem h1;rw[cm h1,cP];simp only[Int.toNat_natCast,getD_lt h1,bF,Int.ofNat_lt,h1,decide_true,cond_true,Bool.and_true];rw[Rj s im hT ht p hp (k:Int) (FB (by omega) (by omega)) s.Tables (s.Tables.length:Int) (k:Int) s.Tables[k].Entries (ht _ hm) (he _ hm)];cases s.Tables[k].Entries.all (eB s (k:Int))
   ·rfl
   ·simp only[if_true,bn h1 hT,Bool.true_and];exact ih (k+1) (by omega)
  ·rw[decide_eq_false (by omega),cond_false,List.drop_eq_nil_of_le h1];rfl
theorem Rl(l:List ai)(hl:l.length<2^62)(o:Mp)(hi:∀x∈l,dn x.Id=true):M.oP l o=some (l.any (fun x=>bU o [x.Id] !=1),o):=by
 have:=yq (Y:=Int×Mp) (E:=Mp) (p:=fun x:ai=>bU o [x.Id] !=1) (e:=o) (F:=fun f k=>M.mi l (l.length:Int) f k o) (fun k=>(k,o)) l hl (fun f k h=>by
  have hx:=Fz (hi l[k] (List.getElem_mem h));simp only[M.mi,M.sQ,Int.toNat_natCast,getD_lt h,Option.isSome_some,Option.getD_some,Bool.true_and,Bool.and_true,cond_true,bF,Int.ofNat_lt,h,decide_true,bn h hl,hx]) (fun f=>by
  simp only[M.mi,Int.lt_irrefl,decide_false,cond_false])
 have e:M.oQ l o=some ((match l.findIdx? (fun x:ai=>bU o [x.Id] !=1)with
  |some k=>(k:Int)
  |none=> -1),o):=by
  unfold M.oQ;rw[this];cases l.findIdx? (fun x:ai=>bU o [x.Id] !=1)<;>rfl
 unfold M.oP;rw[e];simp only[Option.isSome_some,Option.getD_some,Bool.and_true,cond_true];exact congrArg (fun b=>some (b,o)) (index_ge (fun x:ai=>bU o [x.Id] !=1) l)
def oR(s:av):Bool:=cP (eB s) 0 s.Tables&&s.aA.all fun x=>iR s.Tables x.Id==1
theorem Rm(s:av)(im:s.aA.length<2^62)(hT:s.Tables.length<2^62)(ht:∀t∈s.Tables,t.Entries.length<2^62)(he:∀t∈s.Tables,∀e∈t.Entries,ku e)(hi:∀x∈s.aA,dn x.Id=true)(hb:(cC s.Tables).length<=1048576):
 M.oU s=some (oR s):=by
 obtain⟨p,e,hp1,hp2⟩:=Ri s hT ht he hb;unfold M.oU oR;rw[e];simp only[Option.getD_some,Option.isSome_some,Bool.and_true];rw[show M.mh ak s s.Tables (s.Tables.length:Int) 0 p.1 p.2=_ from Rk s im hT ht he p hp1 ak 0 (by have:=b9;omega),List.drop_zero];cases cP (eB s) 0 s.Tables
 ·rfl
 ·simp only[if_true,Rl s.aA im p.2 hi,Option.isSome_some,Option.getD_some,cond_true,Bool.true_and,Bool.and_true];congr 1;rw[List.not_any_eq_all_not];refine List.all_congr rfl fun x=>?_
  rw[hp2,eS,Bool.not_not,Bool.eq_iff_iff];simp only[beq_iff_eq];omega
def kz(s:av):Bool:=(aG 1 1000000 s.Next&&aG 1 7 (s.Tables.length:Int))&&(sL s&&(s.Tables.all eG&&oR s))
theorem Rn(s:av)(im:s.aA.length<2^62)(hT:s.Tables.length<2^62)(ht:∀t∈s.Tables,t.Entries.length<2^62)(he:∀t∈s.Tables,∀e∈t.Entries,ku e)(hi:∀x∈s.aA,dn x.Id=true)(hb:(cC s.Tables).length<=1048576):
 M.oV s=some (kz s):=by
 unfold M.oV kz;rw[Q3 s im,Q6 s.Tables hT ht,Rm s im hT ht he hi hb];have c:(s.Tables.any fun t=> !eG t)= !(s.Tables.all eG):=by rw[List.not_all_eq_any_not]
 rw[c];simp only[Option.getD_some,Option.isSome_some,Bool.true_or,Bool.true_and,Bool.and_true,cond_true];rw[show((decide ((1:Int)<=s.Next))&&(decide (s.Next<=(1000000:Int))))=aG 1 1000000 s.Next from rfl,show((decide ((1:Int)<=(s.Tables.length:Int)))&&(decide ((s.Tables.length:Int)<=(7:Int))))=aG 1 7 (s.Tables.length:Int)from rfl];cases aG 1 1000000 s.Next<;>cases aG 1 7 (s.Tables.length:Int)<;>cases sL s<;>cases s.Tables.all eG<;>cases oR s<;>rfl
end M
namespace M
open Go.V (inB bV ak b9 c9)
def f0(n:Int):Bool:=aG 1 1000000 n
def instB(y:af)(who:Int):Bool:=aG 1 ((y.Shelf.Tables.length:Int)-1) who
def fi(l:List ah)(who:Int):Bool:=l.any fun c=>c.Callee==who
theorem FD(y:af)(hT:y.Shelf.Tables.length<2^62)(who:Int):M.kA y who=some (instB y who):=by
 unfold M.kA M.sR instB aG;rw[wrap_i64 (by omega) (by omega),Option.getD_some]
theorem Ro(l:List Int)(hl:l.length<2^62):M.oW l=some (l.any fun n=> !f0 n):=by
 have:=contains_of (p:=fun n:Int=> !f0 n) (F:=fun f k=>M.mj l (l.length:Int) f k) l hl (fun f k h=>by
  simp only[M.mj,Int.toNat_natCast,getD_lt h,Bool.and_true,cond_true,bF,Int.ofNat_lt,h,decide_true,bn h hl];rfl) (fun f=>by
  simp only[M.mj,Int.lt_irrefl,decide_false,cond_false])
 have e:M.sS l=_:=this;unfold M.oW;rw[e];simp only[Option.isSome_some,Option.getD_some,Bool.and_true,cond_true];exact congrArg some (index_ge (fun n:Int=> !f0 n) l)
theorem Rq(l:List ah)(hl:l.length<2^62)(who:Int):M.oY l who=some (fi l who):=by
 have:=contains_of (p:=fun c:ah=>c.Callee==who) (F:=fun f k=>M.ml l who (l.length:Int) f k) l hl (fun f k h=>by
  simp only[M.ml,Int.toNat_natCast,getD_lt h,Bool.and_true,cond_true,bF,Int.ofNat_lt,h,decide_true,bn h hl]) (fun f=>by
  simp only[M.ml,Int.lt_irrefl,decide_false,cond_false])
 have e:M.sU l who=_:=this;unfold M.oY;rw[e];simp only[Option.isSome_some,Option.getD_some,Bool.and_true,cond_true];exact congrArg some (index_ge (fun c:ah=>c.Callee==who) l)
theorem FG(y:af)(hl:y.Stack.length<2^62)(who:Int):M.kB y who=some (fi y.Stack who):=by
 unfold M.kB;rw[Rq y.Stack hl];rfl
def zC:ah:=ah.mk 0 0 0 []
def ip(l:List ah)(k:Nat):ah:=match k with
 |0=>zC
 |k+1=>l.getD k ah.zero
def sC(y:af)(k:Nat)(last c:ah):Bool:=((decide (last.Id<c.Id)&&(decide (c.Id<y.Next)&&c.Caller==last.Callee))&&(instB y c.Callee&&decide ((c.bG.length:Int)<=12)))&&(c.bG.all f0&& !fi (y.Stack.take k) c.Callee)
def sP(y:af)(k:Nat):Bool:=sC y k (ip y.Stack k) (y.Stack.getD k ah.zero)
theorem Rr(p:Nat->Bool)(n k:Nat)(h:k<n):(List.range' k (n-k)).all p=(p k&&(List.range' (k+1) (n-(k+1))).all p):=by
 rw[show n-k=(n-(k+1))+1 by omega];rfl
theorem Rt(y:af)(hT:y.Shelf.Tables.length<2^62)(hl:y.Stack.length<2^62)(ha:∀c∈y.Stack,c.bG.length<2^62):∀(f k:Nat),y.Stack.length-k<f->k<=y.Stack.length->
 M.mm y.Stack (y.Stack.length:Int) y f (k:Int) (ip y.Stack k)=some (bif(List.range' k (y.Stack.length-k)).all (sP y)then .inr y else .inl false):=by
 intro f
 induction f with
 |zero=>intro k h;omega
 |succ f ih=>
  intro k hk hkn;rw[M.mm];rcases Nat.lt_or_ge k y.Stack.length with h1|h1
  ·have hm:=List.getElem_mem h1;have e:=ih (k+1) (by omega) (by omega);have e1:ip y.Stack (k+1)=y.Stack[k]:=getD_lt h1 _;rw[e1]at e;have e2:sP y k=sC y k (ip y.Stack k) y.Stack[k]:=by unfold sP;rw[getD_lt h1]
   have hw:bV 0 (k:Int) y.Stack.length=true:=by simp[bV];omega
   have htk:(y.Stack.take k).length<2^62:=by rw[List.length_take];omega
   rw[Rr (sP y) _ k h1,e2];unfold sC;generalize ip y.Stack k=last;simp only[Int.toNat_natCast,getD_lt h1,bF,Int.ofNat_lt,h1,decide_true,cond_true,Bool.and_true,bn h1 hl,FD y hT,Ro _ (ha _ hm),Option.getD_some,Option.isSome_some,Bool.true_or,Bool.true_and,Int.toNat_zero,List.drop_zero,hw];rw[FG (af.mk (av.mk 0 [] []) (y.Stack.take k) 0 []) htk];simp only[Option.getD_some,Option.isSome_some,Bool.true_and,Bool.and_true];have c:(((decide (y.Stack[k].Id<=last.Id))||(decide (y.Next<=y.Stack[k].Id)))||(y.Stack[k].Caller !=last.Callee))= !(decide (last.Id<y.Stack[k].Id)&&(decide (y.Stack[k].Id<y.Next)&&y.Stack[k].Caller==last.Callee)):=by
    rw[eS];cases (y.Stack[k].Caller==last.Callee)<;>(rw[Bool.eq_iff_iff];simp only[Bool.or_eq_true,Bool.and_eq_true,Bool.not_eq_true',Bool.and_eq_false_iff,decide_eq_true_eq,decide_eq_false_iff_not,Bool.not_false,Bool.not_true,or_true,and_false,or_false,and_true,Bool.false_eq_true,reduceCtorEq,false_or];try omega)
   have c2:(decide ((12:Int)<(y.Stack[k].bG.length:Int)))= !(decide ((y.Stack[k].bG.length:Int)<=12)):=by
    rw[Bool.eq_iff_iff];simp only[Bool.not_eq_true',decide_eq_true_eq,decide_eq_false_iff_not];omega
   have c3:(y.Stack[k].bG.any fun n=> !f0 n)= !(y.Stack[k].bG.all f0):=by rw[List.not_all_eq_any_not]
   rw[c,c2,c3];generalize (decide (last.Id<y.Stack[k].Id)&&(decide (y.Stack[k].Id<y.Next)&&y.Stack[k].Caller==last.Callee))=b1;generalize decide ((y.Stack[k].bG.length:Int)<=12)=b2;cases b1
   ·rfl
   ·cases instB y y.Stack[k].Callee
    ·rfl
    ·cases b2
     ·rfl
     ·cases y.Stack[k].bG.all f0
      ·rfl
      ·cases fi (y.Stack.take k) y.Stack[k].Callee
       ·exact e
       ·rfl
  ·rw[decide_eq_false (by omega),cond_false,show y.Stack.length-k=0 by omega];rfl
def sV(y:af):Bool:=(List.range y.Stack.length).all (sP y)&&(aG 1 1000000 y.Next&&decide ((y.Stack.length:Int)<=8))
theorem Ru(y:af)(hT:y.Shelf.Tables.length<2^62)(hl:y.Stack.length<2^62)(ha:∀c∈y.Stack,c.bG.length<2^62):M.oZ y=some (sV y):=by
 unfold M.oZ sV;rw[show M.mm y.Stack (y.Stack.length:Int) y ak 0 (ah.mk 0 0 0 [])=_ from Rt y hT hl ha ak 0 (by have:=b9;omega) (Nat.zero_le _),Nat.sub_zero,<-List.range_eq_range'];cases (List.range y.Stack.length).all (sP y)<;>rfl
def pd(y:af)(who:Int):List ae:=(y.Shelf.Tables.getD who.toNat aa.zero).Entries
def dP(y:af)(k:Nat):Bool:=instB y (y.Dead.getD k 0)&&(!fi y.Stack (y.Dead.getD k 0)&&(decide (((pd y (y.Dead.getD k 0)).length:Int)<=0)&& !(decide (0<k)&&decide (y.Dead.getD k 0<=y.Dead.getD (k-1) 0))))
theorem Rw(y:af)(hT:y.Shelf.Tables.length<2^62)(hl:y.Stack.length<2^62)(hd:y.Dead.length<2^62):M.pe y=some ((List.range y.Dead.length).all (dP y)):=by
 unfold M.pe;have:=l7 (p:=dP y) (e:=()) (b:=false) (F:=fun f k=>M.kC y.Dead (y.Dead.length:Int) y f k) y.Dead.length hd (fun f k hk=>by
  simp only[M.kC,Int.toNat_natCast,bF,Int.ofNat_lt,hk,decide_true,cond_true,Bool.and_true,bn hk hd,FD y hT,FG y hl,Option.getD_some,Option.isSome_some,Bool.true_or,Bool.true_and];have hw:decide ((0:Int)<(k:Int))=decide (0<k):=by rw[Bool.eq_iff_iff];simp only[decide_eq_true_eq];omega
  have hb:0<k->(inB (Go.IntKind.wrap .i64 ((k:Int)-1)) y.Dead.length=true/\(Go.IntKind.wrap .i64 ((k:Int)-1)).toNat=k-1):=fun h0=>by
   rw[wrap_i64 (by omega) (by omega)];exact⟨kr ⟨by omega,by omega⟩,by omega⟩
  have hin:instB y (y.Dead.getD k 0)=true->inB (y.Dead.getD k 0) y.Shelf.Tables.length=true:=fun h=>by
   simp only[instB,aG,Bool.and_eq_true,decide_eq_true_eq]at h;exact kr ⟨by omega,by omega⟩
  rw[hw];unfold dP;by_cases hz:((pd y (y.Dead.getD k 0)).length:Int)<=0
  ·have hz':¬((0:Int)<((aa.Entries (List.getD y.Shelf.Tables (Int.toNat (List.getD y.Dead k 0)) aa.zero)).length:Int)):=by unfold pd at hz;omega
   simp only[hz,hz',decide_true,decide_false,Bool.or_false,Bool.true_and];cases hi:instB y (y.Dead.getD k 0)
   ·simp
   ·rw[hin hi];cases fi y.Stack (y.Dead.getD k 0)
    ·by_cases h0:0<k
     ·rw[(hb h0).1,(hb h0).2,decide_eq_true h0];simp only[Bool.true_and,Bool.not_true,Bool.not_false,Bool.false_or,Bool.true_or,cond_true,Bool.and_true,beq_self_eq_true,Bool.or_true];cases decide (y.Dead.getD k 0<=y.Dead.getD (k-1) 0)<;>rfl
     ·rw[decide_eq_false h0];simp only[Bool.true_and,Bool.not_true,Bool.not_false,Bool.false_or,Bool.true_or,cond_true,Bool.and_true,Bool.false_and,Bool.or_false,Bool.and_false,cond_false,Bool.or_true];simp
    ·simp
  ·have hz':((0:Int)<((aa.Entries (List.getD y.Shelf.Tables (Int.toNat (List.getD y.Dead k 0)) aa.zero)).length:Int)):=by unfold pd at hz;omega
   simp only[hz,hz',decide_true,decide_false,Bool.or_true,Bool.false_and,Bool.and_false,Bool.true_or];cases hi:instB y (y.Dead.getD k 0)
   ·simp
   ·rw[hin hi];cases fi y.Stack (y.Dead.getD k 0)<;>simp) (fun f=>by
  simp only[M.kC,Int.lt_irrefl,decide_false,cond_false])
 rw[show M.kC y.Dead (y.Dead.length:Int) y ak 0=_ from this];cases (List.range y.Dead.length).all (dP y)<;>rfl
def bB(y:af)(who:Int)(e:ae):Bool:=e.Own||y.Stack.any fun c=>(c.Callee==who&&c.Id==e.Scope)&&c.Caller==e.From
theorem Rx(l:List ah)(hl:l.length<2^62)(who:Int)(e:ae):M.pf l who e=some (l.any fun c=>(c.Callee==who&&c.Id==e.Scope)&&c.Caller==e.From):=by
 have:=contains_of (p:=fun c:ah=>(c.Callee==who&&c.Id==e.Scope)&&c.Caller==e.From) (F:=fun f k=>M.mn l who e (l.length:Int) f k) l hl (fun f k h=>by
  simp only[M.mn,Int.toNat_natCast,getD_lt h,Bool.and_true,cond_true,bF,Int.ofNat_lt,h,decide_true,bn h hl]) (fun f=>by
  simp only[M.mn,Int.lt_irrefl,decide_false,cond_false])
 have e1:M.sW l who e=_:=this;unfold M.pf;rw[e1];simp only[Option.isSome_some,Option.getD_some,Bool.and_true,cond_true];exact congrArg some (index_ge (fun c:ah=>(c.Callee==who&&c.Id==e.Scope)&&c.Caller==e.From) l)
theorem Ry(y:af)(hl:y.Stack.length<2^62)(T:List aa)(n i:Int)(who:Int)(l:List ae)(he:l.length<2^62):
 M.kD T n i l (l.length:Int) y who ak 0=some (if l.all (bB y who)then .inr (T,n,i,y)else .inl false):=by
 refine l8 (F:=fun f k=>M.kD T n i l (l.length:Int) y who f k) l he (fun f k hk=>?_) (fun f=>by
  simp only[M.kD,Int.lt_irrefl,decide_false,cond_false])
 simp only[M.kD,Int.toNat_natCast,getD_lt hk,bF,Int.ofNat_lt,hk,decide_true,cond_true,Bool.and_true,bn hk he,Rx _ hl,Option.getD_some,Option.isSome_some,Bool.true_or,Bool.true_and];unfold bB;cases l[k].Own<;>cases (y.Stack.any fun c=>(c.Callee==who&&c.Id==l[k].Scope)&&c.Caller==l[k].From)<;>rfl
theorem Rz(y:af)(hl:y.Stack.length<2^62)(T:List aa)(hT:T.length<2^62)(ht:∀t∈T,t.Entries.length<2^62):∀(f k:Nat),T.length-k<f->
 M.mo f T (T.length:Int) (k:Int) y=some (if cP (bB y) k (T.drop k)then .inr ()else .inl false):=by
 intro f
 induction f with
 |zero=>intro k h;omega
 |succ f ih=>
  intro k hk;rw[M.mo];rcases Nat.lt_or_ge k T.length with h1|h1
  ·have hm:=List.getElem_mem h1;rw[cm h1,cP];simp only[Int.toNat_natCast,getD_lt h1,bF,Int.ofNat_lt,h1,decide_true,cond_true,Bool.and_true];rw[Ry y hl T (T.length:Int) (k:Int) (k:Int) T[k].Entries (ht _ hm)];cases T[k].Entries.all (bB y (k:Int))
   ·rfl
   ·simp only[if_true,bn h1 hT,Bool.true_and];exact ih (k+1) (by omega)
  ·rw[decide_eq_false (by omega),cond_false,List.drop_eq_nil_of_le h1];rfl
theorem RB(y:af)(hl:y.Stack.length<2^62)(hT:y.Shelf.Tables.length<2^62)(ht:∀t∈y.Shelf.Tables,t.Entries.length<2^62):M.pg y=some (cP (bB y) 0 y.Shelf.Tables):=by
 unfold M.pg;rw[show M.mo ak y.Shelf.Tables (y.Shelf.Tables.length:Int) 0 y=_ from Rz y hl y.Shelf.Tables hT ht ak 0 (by have:=b9;omega),List.drop_zero];cases cP (bB y) 0 y.Shelf.Tables<;>rfl
structure Fit (y:af):Prop where
 th:y.Shelf.aA.length<2^62
 tb:y.Shelf.Tables.length<2^62
 en:∀t∈y.Shelf.Tables,t.Entries.length<2^62
 st:y.Stack.length<2^62
 ar:∀c∈y.Stack,c.bG.length<2^62
 de:y.Dead.length<2^62
 al:(cC y.Shelf.Tables).length<=1048576
 ie:∀t∈y.Shelf.Tables,∀e∈t.Entries,ku e
 it:∀x∈y.Shelf.aA,Go.V.dn x.Id=true
def ga(y:af):Bool:=(((kz y.Shelf&&aG 2 7 (y.Shelf.Tables.length:Int))&&sV y)&&(List.range y.Dead.length).all (dP y))&&cP (bB y) 0 y.Shelf.Tables
theorem RD(y:af)(h:Fit y):M.pj y=some (ga y):=by
 unfold M.pj ga;rw[RB y h.st h.tb h.en,Rn y.Shelf h.th h.tb h.en h.ie h.it h.al,Ru y h.tb h.st h.ar,Rw y h.tb h.st h.de];simp only[Option.getD_some,Option.isSome_some,Bool.true_or,Bool.true_and,Bool.and_true,cond_true];rfl
end M
namespace M
open Go.V (inB bV ak b9 c9)
theorem iS{α:Type}(p:α->Bool)(l:List α)(k:Nat)(h:l.findIdx? p=some k):k<l.length:=by
 rw[List.findIdx?_eq_some_iff_getElem]at h;exact h.1
theorem FH(y:af)(hl:y.Shelf.aA.length<2^62)(id:Int):M.mq y id=some (il y.Shelf.aA id):=by
 have:=contains_of (p:=fun x:ai=>x.Id==id) (F:=fun f k=>M.mr y id f k) y.Shelf.aA hl (fun f k h=>by
  simp only[M.mr,Int.toNat_natCast,getD_lt h,Bool.and_true,cond_true,bF,Int.ofNat_lt,h,decide_true,bn h hl]) (fun f=>by
  simp only[M.mr,Int.lt_irrefl,decide_false,cond_false])
 exact this
def ju(y:af)(k:Nat):Bool:=((aG 1 (y.Shelf.Next-1) (y.Shelf.aA.getD k ai.zero).Id&& !(decide (0<k)&&decide ((y.Shelf.aA.getD k ai.zero).Id<=(y.Shelf.aA.getD (k-1) ai.zero).Id)))&&aG 1 8 (y.Shelf.aA.getD k ai.zero).bI)&&aG 0 2147483647 (y.Shelf.aA.getD k ai.zero).Rep
theorem jv{k n:Nat}(h:k<n)(hn:n<2^62)(h0:0<k):inB (Go.IntKind.wrap .i64 ((k:Int)-1)) n=true/\(Go.IntKind.wrap .i64 ((k:Int)-1)).toNat=k-1:=by
 rw[wrap_i64 (by omega) (by omega)];exact⟨kr ⟨by omega,by omega⟩,by omega⟩
theorem uX(k:Nat):decide ((0:Int)<(k:Int))=decide (0<k):=by rw[Bool.eq_iff_iff];simp only[decide_eq_true_eq];omega
theorem RE(y:af)(hl:y.Shelf.aA.length<2^62)(hT:y.Shelf.Tables.length<2^62):M.pn y=some ((aG 1 1000000 y.Shelf.Next&&(aG 1 7 (y.Shelf.Tables.length:Int)&&decide ((y.Shelf.aA.length:Int)<=24)))&&(List.range y.Shelf.aA.length).all (ju y)):=by
 unfold M.pn;have c:((((!((decide ((1:Int)<=y.Shelf.Next))&&(decide (y.Shelf.Next<=(1000000:Int)))))||(decide ((y.Shelf.Tables.length:Int)<(1:Int))))||(decide ((7:Int)<(y.Shelf.Tables.length:Int))))||(decide ((24:Int)<(y.Shelf.aA.length:Int))))= !(aG 1 1000000 y.Shelf.Next&&(aG 1 7 (y.Shelf.Tables.length:Int)&&decide ((y.Shelf.aA.length:Int)<=24))):=by
  unfold aG;rw[Bool.eq_iff_iff];simp only[Bool.or_eq_true,Bool.and_eq_true,Bool.not_eq_true',Bool.and_eq_false_iff,decide_eq_true_eq,decide_eq_false_iff_not];omega
 rw[c];cases hb:(aG 1 1000000 y.Shelf.Next&&(aG 1 7 (y.Shelf.Tables.length:Int)&&decide ((y.Shelf.aA.length:Int)<=24)))
 ·rfl
 ·have hN: -9223372036854775808<=y.Shelf.Next-1/\y.Shelf.Next-1<=9223372036854775807:=by
   simp only[aG,Bool.and_eq_true,decide_eq_true_eq]at hb;omega
  have:=l7 (p:=ju y) (e:=()) (b:=false) (F:=fun f k=>M.kE y f k) y.Shelf.aA.length hl (fun f k hk=>by
   simp only[M.kE,Int.toNat_natCast,bF,Int.ofNat_lt,hk,decide_true,cond_true,Bool.and_true,bn hk hl,uX,wrap_i64 hN.1 hN.2];unfold ju;rw[show((decide ((1:Int)<=(y.Shelf.aA.getD k ai.zero).Id))&&(decide ((y.Shelf.aA.getD k ai.zero).Id<=y.Shelf.Next-1)))=aG 1 (y.Shelf.Next-1) (y.Shelf.aA.getD k ai.zero).Id from rfl];rw[show((decide ((1:Int)<=(y.Shelf.aA.getD k ai.zero).bI))&&(decide ((y.Shelf.aA.getD k ai.zero).bI<=8)))=aG 1 8 (y.Shelf.aA.getD k ai.zero).bI from rfl];rw[show((decide ((0:Int)<=(y.Shelf.aA.getD k ai.zero).Rep))&&(decide ((y.Shelf.aA.getD k ai.zero).Rep<=2147483647)))=aG 0 2147483647 (y.Shelf.aA.getD k ai.zero).Rep from rfl];by_cases h0:0<k
   ·rw[(jv hk hl h0).1,(jv hk hl h0).2,decide_eq_true h0];cases aG 1 (y.Shelf.Next-1) (y.Shelf.aA.getD k ai.zero).Id<;>cases decide ((y.Shelf.aA.getD k ai.zero).Id<=(y.Shelf.aA.getD (k-1) ai.zero).Id)<;>cases aG 1 8 (y.Shelf.aA.getD k ai.zero).bI<;>cases aG 0 2147483647 (y.Shelf.aA.getD k ai.zero).Rep<;>rfl
   ·rw[decide_eq_false h0];cases aG 1 (y.Shelf.Next-1) (y.Shelf.aA.getD k ai.zero).Id<;>cases aG 1 8 (y.Shelf.aA.getD k ai.zero).bI<;>cases aG 0 2147483647 (y.Shelf.aA.getD k ai.zero).Rep<;>simp) (fun f=>by
   simp only[M.kE,Int.lt_irrefl,decide_false,cond_false])
  rw[show M.kE y ak 0=_ from this];cases (List.range y.Shelf.aA.length).all (ju y)<;>rfl
def kF(y:af)(t:aa)(k:Nat):Bool:=let e:=t.Entries.getD k ae.zero
 (((aG 1 (t.Next-1) e.Num&& !(decide (0<k)&&decide (e.Num<=(t.Entries.getD (k-1) ae.zero).Num)))&&(y.Shelf.aA.any fun x=>x.Id==e.Id))&&decide (0<=e.bT))&&(bif e.Own then oO e else aG 1 1000000 e.Scope)
theorem RF(y:af)(im:y.Shelf.aA.length<2^62)(t:aa)(hl:t.Entries.length<2^62):M.pq y t=some ((aG 1 1000000 t.Next&&decide ((t.Entries.length:Int)<=12))&&(List.range t.Entries.length).all (kF y t)):=by
 unfold M.pq;have c:((!((decide ((1:Int)<=t.Next))&&(decide (t.Next<=(1000000:Int)))))||(decide ((12:Int)<(t.Entries.length:Int))))= !(aG 1 1000000 t.Next&&decide ((t.Entries.length:Int)<=12)):=by
  unfold aG;rw[Bool.eq_iff_iff];simp only[Bool.or_eq_true,Bool.and_eq_true,Bool.not_eq_true',Bool.and_eq_false_iff,decide_eq_true_eq,decide_eq_false_iff_not];omega
 rw[c];cases hb:(aG 1 1000000 t.Next&&decide ((t.Entries.length:Int)<=12))
 ·rfl
 ·have hN: -9223372036854775808<=t.Next-1/\t.Next-1<=9223372036854775807:=by
   simp only[aG,Bool.and_eq_true,decide_eq_true_eq]at hb;omega
  have:=l7 (p:=kF y t) (e:=()) (b:=false) (F:=fun f k=>M.kG y t f k) t.Entries.length hl (fun f k hk=>by
   simp only[M.kG,Int.toNat_natCast,bF,Int.ofNat_lt,hk,decide_true,cond_true,Bool.and_true,bn hk hl,uX,wrap_i64 hN.1 hN.2,FH y im,Option.getD_some,Option.isSome_some,Bool.true_or,Bool.true_and,Fp];unfold kF oO;dsimp only;rw[show((decide ((1:Int)<=(t.Entries.getD k ae.zero).Num))&&(decide ((t.Entries.getD k ae.zero).Num<=t.Next-1)))=aG 1 (t.Next-1) (t.Entries.getD k ae.zero).Num from rfl,show((decide ((1:Int)<=(t.Entries.getD k ae.zero).Scope))&&(decide ((t.Entries.getD k ae.zero).Scope<=1000000)))=aG 1 1000000 (t.Entries.getD k ae.zero).Scope from rfl];have c2:((((t.Entries.getD k ae.zero).Scope !=0)||((t.Entries.getD k ae.zero).From !=0))||((t.Entries.getD k ae.zero).bQ !=0))= !(((t.Entries.getD k ae.zero).Scope==0&&(t.Entries.getD k ae.zero).From==0)&&(t.Entries.getD k ae.zero).bQ==0):=by
    rw[eS,eS,eS];cases ((t.Entries.getD k ae.zero).Scope==0)<;>cases ((t.Entries.getD k ae.zero).From==0)<;>cases ((t.Entries.getD k ae.zero).bQ==0)<;>rfl
   rw[c2];have c1:∃b3,decide (0<=(t.Entries.getD k ae.zero).bT)=b3/\∀(d:Decidable ((t.Entries.getD k ae.zero).bT<0)), @decide _ d= !b3:=by
    by_cases hz:0<=(t.Entries.getD k ae.zero).bT
    ·exact⟨true,decide_eq_true hz,fun d=>by rw[Bool.not_true];exact decide_eq_false (by omega)⟩
    ·exact⟨false,decide_eq_false hz,fun d=>by rw[Bool.not_false];exact decide_eq_true (by omega)⟩
   obtain⟨b3,c3,c4⟩:=c1;rw[c3,c4];generalize (((t.Entries.getD k ae.zero).Scope==0&&(t.Entries.getD k ae.zero).From==0)&&(t.Entries.getD k ae.zero).bQ==0)=b0;generalize aG 1 (t.Next-1) (t.Entries.getD k ae.zero).Num=b1;generalize (y.Shelf.aA.any fun x=>x.Id==(t.Entries.getD k ae.zero).Id)=b2;generalize aG 1 1000000 (t.Entries.getD k ae.zero).Scope=b4;by_cases h0:0<k
   ·rw[(jv hk hl h0).1,(jv hk hl h0).2,decide_eq_true h0];generalize decide ((t.Entries.getD k ae.zero).Num<=(t.Entries.getD (k-1) ae.zero).Num)=b5;cases b1
    ·simp
    ·cases b5
     ·cases b2
      ·simp
      ·cases b3
       ·simp
       ·cases (t.Entries.getD k ae.zero).Own<;>cases b0<;>cases b4<;>simp
     ·simp
   ·rw[decide_eq_false h0];cases b1
    ·simp
    ·cases b2
     ·simp
     ·cases b3
      ·simp
      ·cases (t.Entries.getD k ae.zero).Own<;>cases b0<;>cases b4<;>simp) (fun f=>by
   simp only[M.kG,Int.lt_irrefl,decide_false,cond_false])
  rw[show M.kG y t ak 0=_ from this];cases (List.range t.Entries.length).all (kF y t)<;>rfl
theorem s_at(y:af)(hT:y.Shelf.Tables.length<2^62)(ht:∀t∈y.Shelf.Tables,t.Entries.length<2^62)(who num:Int):M.kH y who num=some (match cH y.Shelf.Tables who num with
 |some e=>(e,true)
 |none=>(ae.zero,false)):=by
 unfold M.kH cH;rw[wrap_i64 (by omega) (by omega)];rw[show((decide ((0:Int)<=who))&&(decide (who<=(y.Shelf.Tables.length:Int)-1)))=aG 0 ((y.Shelf.Tables.length:Int)-1) who from rfl];cases hi:aG 0 ((y.Shelf.Tables.length:Int)-1) who
 ·rfl
 ·simp only[aG,Bool.and_eq_true,decide_eq_true_eq]at hi;have hw:inB who y.Shelf.Tables.length=true:=kr ⟨by omega,by omega⟩;have hlt:who.toNat<y.Shelf.Tables.length:=by omega
  have hm:=ht _ (List.getElem_mem hlt);rw[<-getD_lt hlt aa.zero]at hm;generalize RG:y.Shelf.Tables.getD who.toNat aa.zero=T at hm⊢;have e1:=contains_of (p:=fun e:ae=>e.Num==num) (F:=fun f k=>M.mw num T f k) T.Entries hm (fun f k h=>by
   simp only[M.mw,Int.toNat_natCast,getD_lt h,Bool.and_true,cond_true,bF,Int.ofNat_lt,h,decide_true,bn h hm]) (fun f=>by
   simp only[M.mw,Int.lt_irrefl,decide_false,cond_false])
  have e2:M.sX T num=_:=e1;rw[e2,Fq (fun e:ae=>e.Num==num) T.Entries ae.zero];simp only[RG,hw,Bool.not_true,cond_false,cond_true,Option.getD_some,Option.isSome_some,Bool.true_and,Bool.and_true];cases hx:T.Entries.findIdx? (fun e=>e.Num==num)with
  |none=>rfl
  |some k=>
   have hk:=iS _ _ _ hx;have h1:¬((k:Int)<0):=by omega
   simp only[h1,decide_false,cond_false,bF,hk,decide_true,cond_true,Int.toNat_natCast,Option.map_some]
def dD(tb:List aa):Nat->ae->Bool
 |0,_=>false
 |n+1,e=>e.Own||(match cH tb e.From e.bQ with
  |none=>false
  |some x=>x.Id==e.Id&&dD tb n x)
theorem RH(y:af)(hT:y.Shelf.Tables.length<2^62)(ht:∀t∈y.Shelf.Tables,t.Entries.length<2^62):∀(f k:Nat)(e:ae),k<=85->85-k<f->
 (match M.pr y f (k:Int) e with
   |none=>none
   |some y=>(match y with
    |.inl a=>some a
    |.inr _=>some false))=some (dD y.Shelf.Tables (85-k) e):=by
 intro f
 induction f with
 |zero=>intro k e _ h;omega
 |succ f ih=>
  intro k e hk hf;rw[M.pr,s_at y hT ht];rcases Nat.lt_or_ge k 85 with h1|h1
  ·have e1:85-k=(85-(k+1))+1:=by omega
   rw[decide_eq_true (by omega:(k:Int)<=84),cond_true,e1,dD,bn h1 (by omega)];cases e.Own
   ·rw[cond_false,Bool.false_or];cases hx:cH y.Shelf.Tables e.From e.bQ with
    |none=>rfl
    |some x=>
     simp only[Option.getD_some,Option.isSome_some,Bool.not_true,Bool.false_or,Bool.and_true,cond_true,eS];cases hid:x.Id==e.Id
     ·rfl
     ·simp only[Bool.not_true,cond_false,Bool.true_and];exact ih (k+1) x (by omega) (by omega)
   ·rfl
  ·have:k=85:=by omega
   subst this;rfl
theorem RI(y:af)(hT:y.Shelf.Tables.length<2^62)(ht:∀t∈y.Shelf.Tables,t.Entries.length<2^62)(e:ae):M.pt y e=some (dD y.Shelf.Tables 85 e):=by
 unfold M.pt;exact RH y hT ht ak 0 e (by omega) (by have:=b9;omega)
end M
namespace M
open Go.V (inB bV ak b9 c9)
def pv(who num:Int)(e:ae):Bool:= !e.Own&&(e.From==who&&e.bQ==num)
def sY(id:Int)(e:ae):Bool:=e.Own&&e.Id==id
theorem RJ(y:af)(who num:Int)(i:Nat)(hi:i<y.Shelf.Tables.length)(l:List ae)(hl:(y.Shelf.Tables.getD i aa.zero).Entries=l)(hn:l.length<2^62):∀(f k:Nat)(n:Int),l.length-k<f->0<=n->n+((l.length-k:Nat):Int)<=1099511627776->
 M.mx y who num (i:Int) f n (k:Int)=some (y,who,num,n+((l.drop k).countP (pv who num):Nat),(i:Int)):=by
 intro f
 induction f with
 |zero=>intro k n h;omega
 |succ f ih=>
  intro k n hk h0 h1;rw[M.mx];simp only[Int.toNat_natCast,hl];rcases Nat.lt_or_ge k l.length with h2|h2
  ·rw[cm h2,List.countP_cons];simp only[getD_lt h2,bF,Int.ofNat_lt,h2,hi,decide_true,cond_true,Bool.and_true,bn h2 hn,Bool.true_or];have e:(((!l[k].Own)&&(l[k].From==who))&&(l[k].bQ==num))=pv who num l[k]:=by unfold pv;rw[Bool.and_assoc]
   rw[e];cases pv who num l[k]
   ·rw[cond_false,ih (k+1) n (by omega) h0 (by omega)];simp
   ·rw[cond_true,wrap_i64 (by omega) (by omega),ih (k+1) (n+1) (by omega) (by omega) (by omega)];simp;omega
  ·rw[decide_eq_false (by omega),cond_false,List.drop_eq_nil_of_le h2];simp only[bF,hi,decide_true,Bool.and_true,cond_true,List.countP_nil];simp
theorem RL(y:af)(id:Int)(i:Nat)(hi:i<y.Shelf.Tables.length)(l:List ae)(hl:(y.Shelf.Tables.getD i aa.zero).Entries=l)(hn:l.length<2^62):∀(f k:Nat)(n:Int),l.length-k<f->0<=n->n+((l.length-k:Nat):Int)<=1099511627776->
 M.my y id (i:Int) f n (k:Int)=some (y,id,n+((l.drop k).countP (sY id):Nat),(i:Int)):=by
 intro f
 induction f with
 |zero=>intro k n h;omega
 |succ f ih=>
  intro k n hk h0 h1;rw[M.my];simp only[Int.toNat_natCast,hl];rcases Nat.lt_or_ge k l.length with h2|h2
  ·rw[cm h2,List.countP_cons];simp only[getD_lt h2,bF,Int.ofNat_lt,h2,hi,decide_true,cond_true,Bool.and_true,bn h2 hn,Bool.true_or];rw[show(l[k].Own&&(l[k].Id==id))=sY id l[k]from rfl];cases sY id l[k]
   ·rw[cond_false,ih (k+1) n (by omega) h0 (by omega)];simp
   ·rw[cond_true,wrap_i64 (by omega) (by omega),ih (k+1) (n+1) (by omega) (by omega) (by omega)];simp;omega
  ·rw[decide_eq_false (by omega),cond_false,List.drop_eq_nil_of_le h2];simp only[bF,hi,decide_true,Bool.and_true,cond_true,List.countP_nil];simp
theorem gZ(t:aa)(r:List aa):cC (t::r)=t.Entries++cC r:=by simp[cC]
theorem RN(y:af)(who num:Int)(hT:y.Shelf.Tables.length<2^62)(ht:∀t∈y.Shelf.Tables,t.Entries.length<2^62):∀(f k:Nat)(n:Int),y.Shelf.Tables.length-k<f->0<=n->n+(cC (y.Shelf.Tables.drop k)).length<=1099511627776->
 M.mz f y who num n (k:Int)=some (n+((cC (y.Shelf.Tables.drop k)).countP (pv who num):Nat)):=by
 intro f
 induction f with
 |zero=>intro k n h;omega
 |succ f ih=>
  intro k n hk h0 h1;rw[M.mz];rcases Nat.lt_or_ge k y.Shelf.Tables.length with h2|h2
  ·rw[cm h2,gZ,List.length_append]at h1;rw[cm h2,gZ,List.countP_append];have e:=RJ y who num k h2 y.Shelf.Tables[k].Entries (by rw[getD_lt h2]) (ht _ (List.getElem_mem h2)) ak 0 n (by have:=b9;have:=ht _ (List.getElem_mem h2);omega) h0 (by omega);rw[List.drop_zero]at e;have e':M.mx y who num (k:Int) ak n 0=_:=e;have hc:=List.countP_le_length (p:=pv who num) (l:=y.Shelf.Tables[k].Entries);simp only[Int.ofNat_lt,h2,decide_true,cond_true,e',bn h2 hT];rw[ih (k+1) _ (by omega) (by omega) (by omega)];congr 1;omega
  ·rw[decide_eq_false (by omega),cond_false,List.drop_eq_nil_of_le h2];simp[cC]
theorem RO(y:af)(id:Int)(hT:y.Shelf.Tables.length<2^62)(ht:∀t∈y.Shelf.Tables,t.Entries.length<2^62):∀(f k:Nat)(n:Int),y.Shelf.Tables.length-k<f->0<=n->n+(cC (y.Shelf.Tables.drop k)).length<=1099511627776->
 M.mA f y id n (k:Int)=some (n+((cC (y.Shelf.Tables.drop k)).countP (sY id):Nat)):=by
 intro f
 induction f with
 |zero=>intro k n h;omega
 |succ f ih=>
  intro k n hk h0 h1;rw[M.mA];rcases Nat.lt_or_ge k y.Shelf.Tables.length with h2|h2
  ·rw[cm h2,gZ,List.length_append]at h1;rw[cm h2,gZ,List.countP_append];have e:=RL y id k h2 y.Shelf.Tables[k].Entries (by rw[getD_lt h2]) (ht _ (List.getElem_mem h2)) ak 0 n (by have:=b9;have:=ht _ (List.getElem_mem h2);omega) h0 (by omega);rw[List.drop_zero]at e;have e':M.my y id (k:Int) ak n 0=_:=e;have hc:=List.countP_le_length (p:=sY id) (l:=y.Shelf.Tables[k].Entries);simp only[Int.ofNat_lt,h2,decide_true,cond_true,e',bn h2 hT];rw[ih (k+1) _ (by omega) (by omega) (by omega)];congr 1;omega
  ·rw[decide_eq_false (by omega),cond_false,List.drop_eq_nil_of_le h2];simp[cC]
theorem RP(y:af)(h:Fit y)(who num:Int):M.pw y who num=some ((iQ y.Shelf.Tables who num:Nat):Int):=by
 unfold M.pw;have e:=RN y who num h.tb h.en ak 0 0 (by have:=b9;have:=h.tb;omega) (by omega) (by have:=h.al;rw[List.drop_zero];omega);rw[List.drop_zero,Int.zero_add]at e;have e':M.mz ak y who num 0 0=_:=e;rw[e'];rfl
theorem RQ(y:af)(h:Fit y)(id:Int):M.px y id=some ((iR y.Shelf.Tables id:Nat):Int):=by
 unfold M.px;have e:=RO y id h.tb h.en ak 0 0 (by have:=b9;have:=h.tb;omega) (by omega) (by have:=h.al;rw[List.drop_zero];omega);rw[List.drop_zero,Int.zero_add]at e;have e':M.mA ak y id 0 0=_:=e;rw[e'];rfl
def jw(y:af)(who:Int)(e:ae):Bool:=dD y.Shelf.Tables 85 e&&e.bT==(iQ y.Shelf.Tables who e.Num:Nat)
theorem RR(y:af)(h:Fit y)(i:Nat)(hi:i<y.Shelf.Tables.length)(l:List ae)(hl:(y.Shelf.Tables.getD i aa.zero).Entries=l)(hn:l.length<2^62):
 M.kJ y (i:Int) ak 0=some (if l.all (jw y (i:Int))then .inr (y,(i:Int))else .inl false):=by
 refine l8 (F:=fun f k=>M.kJ y (i:Int) f k) l hn (fun f k hk=>?_) (fun f=>by
  simp only[M.kJ,Int.toNat_natCast,hl,Int.lt_irrefl,decide_false,cond_false,bF,hi,decide_true,Bool.and_true,cond_true])
 simp only[M.kJ,Int.toNat_natCast,hl,getD_lt hk,bF,Int.ofNat_lt,hk,hi,decide_true,cond_true,Bool.and_true,bn hk hn,RI y h.tb h.en,RP y h,Option.getD_some,Option.isSome_some,Bool.true_and,eS];unfold jw;cases dD y.Shelf.Tables 85 l[k]
 ·rfl
 ·cases (l[k].bT==((iQ y.Shelf.Tables (i:Int) l[k].Num:Nat):Int))<;>rfl
theorem RS(y:af)(h:Fit y):∀(f k:Nat),y.Shelf.Tables.length-k<f->
 M.mB f y (k:Int)=some (if cP (jw y) k (y.Shelf.Tables.drop k)then .inr y else .inl false):=by
 intro f
 induction f with
 |zero=>intro k h;omega
 |succ f ih=>
  intro k hk;rw[M.mB];rcases Nat.lt_or_ge k y.Shelf.Tables.length with h1|h1
  ·have hm:=List.getElem_mem h1;rw[cm h1,cP];simp only[Int.ofNat_lt,h1,decide_true,cond_true];rw[RR y h k h1 y.Shelf.Tables[k].Entries (by rw[getD_lt h1]) (h.en _ hm)];cases y.Shelf.Tables[k].Entries.all (jw y (k:Int))
   ·rfl
   ·simp only[if_true,bn h1 h.tb,Bool.true_and];exact ih (k+1) (by omega)
  ·rw[decide_eq_false (by omega),cond_false,List.drop_eq_nil_of_le h1];rfl
def mC(y:af)(t:aa):Bool:=(aG 1 1000000 t.Next&&decide ((t.Entries.length:Int)<=12))&&(List.range t.Entries.length).all (kF y t)
def uY(y:af):Bool:=((aG 1 1000000 y.Shelf.Next&&(aG 1 7 (y.Shelf.Tables.length:Int)&&decide ((y.Shelf.aA.length:Int)<=24)))&&(List.range y.Shelf.aA.length).all (ju y))&&(y.Shelf.Tables.all (mC y)&&(cP (jw y) 0 y.Shelf.Tables&&y.Shelf.aA.all fun x=>iR y.Shelf.Tables x.Id==1))
theorem RU(y:af)(h:Fit y):M.py y=some (uY y):=by
 unfold M.py uY;rw[RE y h.th h.tb];have e0:=l8 (p:=mC y) (e:=y) (b:=false) (F:=fun f k=>M.kK y f k) y.Shelf.Tables h.tb (fun f k hk=>by
  have e:=RF y h.th y.Shelf.Tables[k] (h.en _ (List.getElem_mem hk));simp only[M.kK,Int.toNat_natCast,getD_lt hk,bF,Int.ofNat_lt,hk,decide_true,cond_true,Bool.and_true,bn hk h.tb,e,Option.getD_some,Option.isSome_some];unfold mC;cases ((aG 1 1000000 y.Shelf.Tables[k].Next&&decide ((y.Shelf.Tables[k].Entries.length:Int)<=12))&&(List.range y.Shelf.Tables[k].Entries.length).all (kF y y.Shelf.Tables[k]))<;>rfl) (fun f=>by
  simp only[M.kK,Int.lt_irrefl,decide_false,cond_false])
 have e2:=l8 (p:=fun x:ai=>iR y.Shelf.Tables x.Id==1) (e:=()) (b:=false) (F:=fun f k=>M.kL y f k) y.Shelf.aA h.th (fun f k hk=>by
  simp only[M.kL,Int.toNat_natCast,getD_lt hk,bF,Int.ofNat_lt,hk,decide_true,cond_true,Bool.and_true,bn hk h.th,RQ y h,Option.getD_some,Option.isSome_some,eS];have c:(((iR y.Shelf.Tables y.Shelf.aA[k].Id:Nat):Int)==1)=(iR y.Shelf.Tables y.Shelf.aA[k].Id==1):=by
   rw[Bool.eq_iff_iff];simp only[beq_iff_eq];omega
  rw[c];cases (iR y.Shelf.Tables y.Shelf.aA[k].Id==1)<;>rfl) (fun f=>by
  simp only[M.kL,Int.lt_irrefl,decide_false,cond_false])
 have e1:=RS y h ak 0 (by have:=b9;have:=h.tb;omega);rw[List.drop_zero]at e1;have e1':M.mB ak y 0=_:=e1;have e0':M.kK y ak 0=_:=e0;have e2':M.kL y ak 0=_:=e2;simp only[Option.getD_some,Option.isSome_some,Bool.and_true,cond_true];cases ((aG 1 1000000 y.Shelf.Next&&(aG 1 7 (y.Shelf.Tables.length:Int)&&decide ((y.Shelf.aA.length:Int)<=24)))&&(List.range y.Shelf.aA.length).all (ju y))
 ·rfl
 ·simp only[Bool.not_true,cond_false,e0',Bool.true_and];cases y.Shelf.Tables.all (mC y)
  ·rfl
  ·simp only[if_true,e1',Bool.true_and];cases cP (jw y) 0 y.Shelf.Tables
   ·rfl
   ·simp only[if_true,e2',Bool.true_and];cases (y.Shelf.aA.all fun x=>iR y.Shelf.Tables x.Id==1)<;>rfl
end M
namespace M
open Go.V (inB bV ak b9 c9)
def iq:List Int->Bool
 |[]=>true
 |[_]=>true
 |x::y::r=>decide (x<y)&&iq (y::r)
def gb(ks:List Int)(k:Nat):Bool:= !(decide (0<k)&&decide (ks.getD k 0<=ks.getD (k-1) 0))
theorem yz(p:Nat->Bool)(n:Nat):(List.range (n+1)).all p=(p 0&&(List.range n).all fun k=>p (k+1)):=by
 rw[List.range_succ_eq_map,List.all_cons,List.all_map];rfl
theorem uZ:∀(ks:List Int),(List.range ks.length).all (gb ks)=iq ks
 |[]=>rfl
 |[x]=>by simp[gb,iq]
 |x::y::r=>by
  have ih:=uZ (y::r);rw[List.length_cons,yz,iq,<-ih,List.length_cons,yz,yz];have h0:gb (x::y::r) 0=true:=by simp[gb]
  have h1:gb (x::y::r) (0+1)=decide (x<y):=by
   simp[gb];rw[Bool.eq_iff_iff];simp
  have h2:gb (y::r) 0=true:=by simp[gb]
  rw[h0,h1,h2,Bool.true_and,Bool.true_and];congr 1
theorem RV(x:Int)(r:List Int):iq (x::r)=(r.all (fun y=>decide (x<y))&&iq r):=by
 induction r generalizing x with
 |nil=>rfl
 |cons y r ih=>
  rw[iq,List.all_cons,ih y,Bool.eq_iff_iff];simp only[Bool.and_eq_true,decide_eq_true_eq,List.all_eq_true];constructor
  ·rintro ⟨h1,h2,h3⟩;exact⟨⟨h1,fun z hz=>by have:=h2 z hz;omega⟩,h2,h3⟩
  ·rintro ⟨⟨h1,h2⟩,h3,h4⟩;exact⟨h1,h3,h4⟩
theorem yA(last:Int)(ks:List Int):gW last ks=(ks.all (fun y=>decide (last<y))&&iq ks):=by
 induction ks generalizing last with
 |nil=>rfl
 |cons x r ih=>
  rw[gW,ih x,RV,List.all_cons,Bool.eq_iff_iff];simp only[Bool.and_eq_true,decide_eq_true_eq,List.all_eq_true];constructor
  ·rintro ⟨h1,h2,h3⟩;exact⟨⟨h1,fun z hz=>by have:=h2 z hz;omega⟩,h2,h3⟩
  ·rintro ⟨⟨h1,h2⟩,h3,h4⟩;exact⟨h1,h3,h4⟩
theorem FI(p q:Nat->Bool)(n:Nat):(List.range n).all (fun k=>p k&&q k)=((List.range n).all p&&(List.range n).all q):=oC p q _
theorem all_congr_mem{α:Type}{p q:α->Bool}{l:List α}(h:∀x∈l,p x=q x):l.all p=l.all q:=by
 induction l with
 |nil=>rfl
 |cons x r ih=>rw[List.all_cons,List.all_cons,h x (by simp),ih fun y hy=>h y (List.mem_cons_of_mem _ hy)]
theorem getD_map{α:Type}(f:α->Int)(l:List α)(z:α)(k:Nat)(h:k<l.length):(l.map f).getD k 0=f (l.getD k z):=by
 rw[getD_lt (by simpa using h),getD_lt h,List.getElem_map]
theorem RX(nx last:Int)(l:List ai):jq nx last l=(gW last (l.map (·.Id))&&l.all fun x=>decide (x.Id<nx)&&(aG 1 8 x.bI&&aG 0 2147483647 x.Rep)):=by
 induction l generalizing last with
 |nil=>rfl
 |cons x r ih=>
  rw[jq,ih,List.map_cons,gW,List.all_cons];cases decide (last<x.Id)<;>cases (decide (x.Id<nx)&&(aG 1 8 x.bI&&aG 0 2147483647 x.Rep))<;>cases gW x.Id (r.map (·.Id))<;>rfl
theorem RY(y:af):(List.range y.Shelf.aA.length).all (ju y)=jq y.Shelf.Next 0 y.Shelf.aA:=by
 have e1:(List.range y.Shelf.aA.length).all (ju y)=((List.range y.Shelf.aA.length).all (gb (y.Shelf.aA.map (·.Id)))&&(List.range y.Shelf.aA.length).all fun k=>(fun x:ai=>aG 1 (y.Shelf.Next-1) x.Id&&(aG 1 8 x.bI&&aG 0 2147483647 x.Rep)) (y.Shelf.aA.getD k ai.zero)):=by
  rw[<-FI];refine all_congr_mem fun k hk=>?_
  rw[List.mem_range]at hk;unfold ju gb;rw[getD_map (·.Id) _ ai.zero k hk,getD_map (·.Id) _ ai.zero (k-1) (by omega)];dsimp only;cases aG 1 (y.Shelf.Next-1) (y.Shelf.aA.getD k ai.zero).Id<;>cases (decide (0<k)&&decide ((y.Shelf.aA.getD k ai.zero).Id<=(y.Shelf.aA.getD (k-1) ai.zero).Id))<;>cases aG 1 8 (y.Shelf.aA.getD k ai.zero).bI<;>simp
 have e2:=uZ (y.Shelf.aA.map (·.Id));rw[List.length_map]at e2;rw[e1,e2,Fg (fun x:ai=>aG 1 (y.Shelf.Next-1) x.Id&&(aG 1 8 x.bI&&aG 0 2147483647 x.Rep)) y.Shelf.aA ai.zero,RX,yA,List.all_map];have e3:(y.Shelf.aA.all fun x=>aG 1 (y.Shelf.Next-1) x.Id&&(aG 1 8 x.bI&&aG 0 2147483647 x.Rep))=(y.Shelf.aA.all (fun x=>decide (0<x.Id))&&y.Shelf.aA.all fun x=>decide (x.Id<y.Shelf.Next)&&(aG 1 8 x.bI&&aG 0 2147483647 x.Rep)):=by
  rw[<-oC];refine all_congr_mem fun x _=>?_
  have:aG 1 (y.Shelf.Next-1) x.Id=(decide (0<x.Id)&&decide (x.Id<y.Shelf.Next)):=by
   unfold aG;rw[Bool.eq_iff_iff];simp only[Bool.and_eq_true,decide_eq_true_eq];omega
  rw[this,Bool.and_assoc]
 rw[e3];change _=((y.Shelf.aA.all fun x=>decide (0<x.Id))&&_&&_);cases iq (y.Shelf.aA.map (·.Id))<;>cases (y.Shelf.aA.all fun x=>decide (0<x.Id))<;>simp
def kM(th:List ai)(e:ae):Bool:=(th.any fun x=>x.Id==e.Id)&&(bif e.Own then oO e else aG 1 1000000 e.Scope)
theorem RZ(nx last:Int)(l:List ae):jr nx last l=(gW last (l.map (·.Num))&&l.all fun x=>decide (x.Num<nx)&&decide (0<=x.bT)):=by
 induction l generalizing last with
 |nil=>rfl
 |cons x r ih=>
  rw[jr,ih,List.map_cons,gW,List.all_cons];cases decide (last<x.Num)<;>cases (decide (x.Num<nx)&&decide (0<=x.bT))<;>cases gW x.Num (r.map (·.Num))<;>rfl
theorem R7(y:af)(t:aa):mC y t=(eG t&&t.Entries.all (kM y.Shelf.aA)):=by
 unfold mC eG;have e1:(List.range t.Entries.length).all (kF y t)=((List.range t.Entries.length).all (gb (t.Entries.map (·.Num)))&&(List.range t.Entries.length).all fun k=>(fun e:ae=>(aG 1 (t.Next-1) e.Num&&decide (0<=e.bT))&&kM y.Shelf.aA e) (t.Entries.getD k ae.zero)):=by
  rw[<-FI];refine all_congr_mem fun k hk=>?_
  rw[List.mem_range]at hk;unfold kF gb kM;rw[getD_map (·.Num) _ ae.zero k hk,getD_map (·.Num) _ ae.zero (k-1) (by omega)];dsimp only;cases aG 1 (t.Next-1) (t.Entries.getD k ae.zero).Num<;>cases (decide (0<k)&&decide ((t.Entries.getD k ae.zero).Num<=(t.Entries.getD (k-1) ae.zero).Num))<;>cases (y.Shelf.aA.any fun x=>x.Id==(t.Entries.getD k ae.zero).Id)<;>cases decide (0<=(t.Entries.getD k ae.zero).bT)<;>simp
 have e2:=uZ (t.Entries.map (·.Num));rw[List.length_map]at e2;rw[e1,e2,Fg (fun e:ae=>(aG 1 (t.Next-1) e.Num&&decide (0<=e.bT))&&kM y.Shelf.aA e) t.Entries ae.zero,RZ,yA,List.all_map,oC];have e3:(t.Entries.all fun x=>aG 1 (t.Next-1) x.Num&&decide (0<=x.bT))=(t.Entries.all (fun x=>decide (0<x.Num))&&t.Entries.all fun x=>decide (x.Num<t.Next)&&decide (0<=x.bT)):=by
  rw[<-oC];refine all_congr_mem fun x _=>?_
  have:aG 1 (t.Next-1) x.Num=(decide (0<x.Num)&&decide (x.Num<t.Next)):=by
   unfold aG;rw[Bool.eq_iff_iff];simp only[Bool.and_eq_true,decide_eq_true_eq];omega
  rw[this,Bool.and_assoc]
 rw[e3];change _=(((t.Entries.all fun x=>decide (0<x.Num))&&_&&_)&&_&&_);cases iq (t.Entries.map (·.Num))<;>cases (t.Entries.all fun x=>decide (0<x.Num))<;>cases (t.Entries.all fun x=>decide (x.Num<t.Next)&&decide (0<=x.bT))<;>cases (aG 1 1000000 t.Next&&decide ((t.Entries.length:Int)<=12))<;>simp
theorem yB(tb:List aa):∀(n:Nat)(e:ae),dD tb n e=true->dD tb (n+1) e=true
 |0,e,h=>by cases h
 |n+1,e,h=>by
  rw[dD]at h⊢;cases ho:e.Own
  ·rw[ho,Bool.false_or]at h;rw[Bool.false_or];cases hx:cH tb e.From e.bQ with
   |none=>rw[hx]at h;cases h
   |some x=>
    rw[hx]at h;simp only[Bool.and_eq_true]at h⊢;exact⟨h.1,yB tb n x h.2⟩
  ·rfl
def kN:Nat->List aa->List (Int×Int)
 |_,[]=>[]
 |k,t::r=>t.Entries.map (fun e=>((k:Int),e.Num))++kN (k+1) r
theorem FK:∀(tb:List aa)(k:Nat),(kN k tb).length=(cC tb).length
 |[],k=>rfl
 |t::r,k=>by rw[kN,gZ,List.length_append,List.length_append,List.length_map,FK r]
theorem FM:∀(tb:List aa)(k i:Nat)(h:i<tb.length)(e:ae),e∈tb[i].Entries->(((k+i:Nat):Int),e.Num)∈kN k tb
 |t::r,k,0,h,e,he=>by
  rw[kN,List.mem_append];exact .inl (List.mem_map.2 ⟨e,he,rfl⟩)
 |t::r,k,i+1,h,e,he=>by
  rw[kN,List.mem_append];have:=FM r (k+1) i (by simpa using h) e he;rw[show k+1+i=k+(i+1) by omega]at this;exact .inr this
theorem FN{tb:List aa}{who num:Int}{x:ae}(h:cH tb who num=some x):(who,num)∈kN 0 tb:=by
 unfold cH at h;cases hi:aG 0 ((tb.length:Int)-1) who
 ·rw[hi]at h;cases h
 ·rw[hi,cond_true]at h;simp only[aG,Bool.and_eq_true,decide_eq_true_eq]at hi;have hlt:who.toNat<tb.length:=by omega
  rw[getD_lt hlt]at h;have h1:=List.mem_of_find?_eq_some h;have h2:=List.find?_some h;have:=FM tb 0 who.toNat hlt x h1;rw[Nat.zero_add,eq_of_beq h2,show((who.toNat:Nat):Int)=who by omega]at this;exact this
theorem R9(tb:List aa)(hn:(cC tb).length<=84)(e:ae):dD tb 86 e=dD tb 85 e:=by
 have key:=rests (fun n (p:Int×Int)=>match cH tb p.1 p.2 with
  |none=>false
  |some x=>dD tb n x) (kN 0 tb) (fun n p _ h=>by
  cases hx:cH tb p.1 p.2 with
  |none=>rw[hx]at h;cases h
  |some x=>rw[hx]at h;exact yB tb n x h) (fun n hr p _ h=>by
  cases hx:cH tb p.1 p.2 with
  |none=>rw[hx]at h;cases h
  |some x=>
   rw[hx]at h;dsimp only at h⊢;rw[dD]at h⊢;cases ho:x.Own
   ·rw[ho,Bool.false_or]at h;rw[Bool.false_or];cases hz:cH tb x.From x.bQ with
    |none=>rw[hz]at h;cases h
    |some z=>
     rw[hz]at h;simp only[Bool.and_eq_true]at h⊢;have:=hr (x.From,x.bQ) (FN hz);dsimp only at this;rw[hz]at this;exact⟨h.1,this h.2⟩
   ·rfl) 84 (by rw[FK];exact hn)
 rw[Bool.eq_iff_iff];refine⟨fun h=>?_,yB tb 85 e⟩;rw[dD]at h⊢;cases ho:e.Own
 ·rw[ho,Bool.false_or]at h;rw[Bool.false_or];cases hz:cH tb e.From e.bQ with
  |none=>rw[hz]at h;cases h
  |some z=>
   rw[hz]at h;simp only[Bool.and_eq_true]at h⊢;have:=key (e.From,e.bQ) (FN hz);dsimp only at this;rw[hz]at this;exact⟨h.1,this h.2⟩
 ·rfl
theorem FO(tb:List aa):∀(n:Nat)(e:ae),e.Own=false->mf tb n e=dD tb (n+1) e
 |0,e,h=>by
  rw[mf,dD,h,Bool.false_or];cases cH tb e.From e.bQ with
  |none=>rfl
  |some x=>simp[dD]
 |n+1,e,h=>by
  rw[mf,dD,h,Bool.false_or];cases cH tb e.From e.bQ with
  |none=>rfl
  |some x=>
   dsimp only;congr 1;cases ho:x.Own
   ·rw[Bool.false_or];exact FO tb n x ho
   ·rw[dD,ho,Bool.true_or,Bool.true_or]
theorem FP(p:ae->Bool)(q:Int->ae->Bool):∀(k:Nat)(tb:List aa),cP (fun who e=>p e&&q who e) k tb=(tb.all (fun t=>t.Entries.all p)&&cP q k tb)
 |_,[]=>rfl
 |k,t::r=>by
  rw[cP,cP,FP p q (k+1) r,List.all_cons,oC];cases t.Entries.all p<;>cases t.Entries.all (q (k:Int))<;>simp
theorem yC{p q:Int->ae->Bool}(h:∀who e,p who e=q who e):∀(k:Nat)(tb:List aa),cP p k tb=cP q k tb
 |_,[]=>rfl
 |k,t::r=>by rw[cP,cP,yC h (k+1) r,all_congr_mem fun e _=>h (k:Int) e]
theorem FQ:∀(tb:List aa),tb.all eG=true->(cC tb).length<=12*tb.length
 |[],_=>by simp[cC]
 |t::r,h=>by
  rw[List.all_cons,Bool.and_eq_true]at h;have ih:=FQ r h.2;have h1:=h.1;simp only[eG,Bool.and_eq_true,decide_eq_true_eq]at h1;rw[gZ,List.length_append,List.length_cons];omega
theorem Si(y:af):uY y=kz y.Shelf:=by
 unfold uY kz sL oR;rw[RY];have e1:y.Shelf.Tables.all (mC y)=(y.Shelf.Tables.all eG&&y.Shelf.Tables.all fun t=>t.Entries.all (kM y.Shelf.aA)):=by
  rw[<-oC];exact all_congr_mem fun t _=>R7 y t
 rw[e1];cases ha:y.Shelf.Tables.all eG
 ·cases (aG 1 1000000 y.Shelf.Next)<;>cases aG 1 7 (y.Shelf.Tables.length:Int)<;>simp
 ·cases hb:aG 1 7 (y.Shelf.Tables.length:Int)
  ·cases (aG 1 1000000 y.Shelf.Next)<;>simp
  ·have hs:(cC y.Shelf.Tables).length<=84:=by
    have:=FQ _ ha;simp only[aG,Bool.and_eq_true,decide_eq_true_eq]at hb;omega
   have e2:cP (eB y.Shelf) 0 y.Shelf.Tables=(y.Shelf.Tables.all (fun t=>t.Entries.all (kM y.Shelf.aA))&&cP (jw y) 0 y.Shelf.Tables):=by
    rw[<-FP];refine yC (fun who e=>?_) 0 _;unfold eB kM jw oL;cases ho:e.Own
    ·rw[FO _ 85 e ho,R9 _ hs];simp only[cond_false];cases (y.Shelf.aA.any fun x=>x.Id==e.Id)<;>cases aG 1 1000000 e.Scope<;>cases dD y.Shelf.Tables 85 e<;>rfl
    ·have:dD y.Shelf.Tables 85 e=true:=by rw[dD,ho,Bool.true_or]
     rw[this];simp only[cond_true,Bool.true_and];cases (y.Shelf.aA.any fun x=>x.Id==e.Id)<;>cases oO e<;>rfl
   rw[e2];cases (aG 1 1000000 y.Shelf.Next)<;>cases decide ((y.Shelf.aA.length:Int)<=24)<;>cases jq y.Shelf.Next 0 y.Shelf.aA<;>cases (y.Shelf.Tables.all fun t=>t.Entries.all (kM y.Shelf.aA))<;>cases cP (jw y) 0 y.Shelf.Tables<;>simp
end M
namespace M
open Go.V (inB bV ak b9 c9)
def mD(l:List ah)(who:Int):Int:=match l.findIdx? (fun c=>c.Callee==who)with
 |some k=>(k:Int)
 |none=> -1
theorem s_on(y:af)(hl:y.Stack.length<2^62)(who:Int):M.jx y who=some (mD y.Stack who):=by
 have:=contains_of (p:=fun c:ah=>c.Callee==who) (F:=fun f k=>M.mE y who f k) y.Stack hl (fun f k h=>by
  simp only[M.mE,Int.toNat_natCast,getD_lt h,Bool.and_true,cond_true,bF,Int.ofNat_lt,h,decide_true,bn h hl]) (fun f=>by
  simp only[M.mE,Int.lt_irrefl,decide_false,cond_false])
 exact this
theorem Sj(l:List ah)(who:Int):decide (0<=mD l who)=fi l who:=index_ge (fun c:ah=>c.Callee==who) l
theorem FR(y:af)(hT:y.Shelf.Tables.length<2^62)(who:Int):M.kO y who=some (instB y who):=by
 unfold M.kO instB aG;rw[wrap_i64 (by omega) (by omega)]
def pz(y:af)(k:Nat):Int:=bif decide (0<k)then Go.IntKind.wrap .i64 ((y.Stack.getD (k-1) ah.zero).Id+1)else 1
def pA(y:af)(k:Nat):Int:=bif decide (0<k)then(y.Stack.getD (k-1) ah.zero).Callee else 0
def rP(y:af)(k:Nat):Bool:=let c:=y.Stack.getD k ah.zero
 (((decide (pz y k<=c.Id)&&decide (c.Id<=y.Next-1))&&c.Caller==pA y k)&&(instB y c.Callee&&(mD y.Stack c.Callee==(k:Int)&&decide ((c.bG.length:Int)<=12))))&&c.bG.all f0
theorem Sl(y:af)(i:Int)(c:ah)(hc:c.bG.length<2^62):M.kP y i c ak 0=some (if c.bG.all f0 then .inr (y,i)else .inl false):=by
 refine l8 (F:=fun f k=>M.kP y i c f k) c.bG hc (fun f k hk=>?_) (fun f=>by
  simp only[M.kP,Int.lt_irrefl,decide_false,cond_false])
 simp only[M.kP,Int.toNat_natCast,getD_lt hk,bF,Int.ofNat_lt,hk,decide_true,cond_true,Bool.and_true,bn hk hc];rw[show((decide ((1:Int)<=c.bG[k]))&&(decide (c.bG[k]<=(1000000:Int))))=f0 c.bG[k]from rfl];cases f0 c.bG[k]<;>rfl
theorem Sr(y:af)(h:Fit y)(hN:aG 1 1000000 y.Next=true):M.pB y=some (decide ((y.Stack.length:Int)<=8)&&(List.range y.Stack.length).all (rP y)):=by
 unfold M.pB;by_cases h8:(y.Stack.length:Int)<=8
 ·have h8':¬((8:Int)<(y.Stack.length:Int)):=by omega
  simp only[h8',decide_false,cond_false,decide_eq_true h8,Bool.true_and];have hw:Go.IntKind.wrap .i64 (y.Next-1)=y.Next-1:=by
   simp only[aG,Bool.and_eq_true,decide_eq_true_eq]at hN;exact wrap_i64 (by omega) (by omega)
  have:=l7 (p:=rP y) (e:=()) (b:=false) (F:=fun f k=>M.kQ f y k) y.Stack.length h.st (fun f k hk=>by
   have hc:=h.ar _ (List.getElem_mem hk);rw[<-getD_lt hk ah.zero]at hc;simp only[M.kQ,Int.toNat_natCast,bF,Int.ofNat_lt,hk,decide_true,cond_true,Bool.and_true,bn hk h.st,uX,hw,FR y h.tb,s_on y h.st,Sl y _ _ hc,Option.getD_some,Option.isSome_some,Bool.true_or,Bool.true_and,eS];have hl:(bif decide (0<k)then Go.IntKind.wrap .i64 ((y.Stack.getD (Int.toNat (Go.IntKind.wrap .i64 ((k:Int)-1))) ah.zero).Id+1)else 1)=pz y k:=by
    unfold pz;by_cases h0:0<k
    ·rw[(jv hk h.st h0).2]
    ·rw[decide_eq_false h0];rfl
   have Ss:(bif decide (0<k)then(y.Stack.getD (Int.toNat (Go.IntKind.wrap .i64 ((k:Int)-1))) ah.zero).Callee else 0)=pA y k:=by
    unfold pA;by_cases h0:0<k
    ·rw[(jv hk h.st h0).2]
    ·rw[decide_eq_false h0];rfl
   have hck:((inB (Go.IntKind.wrap .i64 ((k:Int)-1)) y.Stack.length&&inB (Go.IntKind.wrap .i64 ((k:Int)-1)) y.Stack.length)|| !decide (0<k))=true:=by
    by_cases h0:0<k
    ·rw[(jv hk h.st h0).1];rfl
    ·rw[decide_eq_false h0];simp
   simp only[hl,Ss,hck,cond_true];unfold rP;dsimp only;have c12:∃b,decide (((y.Stack.getD k ah.zero).bG.length:Int)<=12)=b/\∀(d:Decidable ((12:Int)<((y.Stack.getD k ah.zero).bG.length:Int))), @decide _ d= !b:=by
    by_cases hz:((y.Stack.getD k ah.zero).bG.length:Int)<=12
    ·exact⟨true,decide_eq_true hz,fun d=>by rw[Bool.not_true];exact decide_eq_false (by omega)⟩
    ·exact⟨false,decide_eq_false hz,fun d=>by rw[Bool.not_false];exact decide_eq_true (by omega)⟩
   obtain⟨b12,c3,c4⟩:=c12;rw[c3,c4];cases (decide (pz y k<=(y.Stack.getD k ah.zero).Id)&&decide ((y.Stack.getD k ah.zero).Id<=y.Next-1))
   ·rfl
   ·cases ((y.Stack.getD k ah.zero).Caller==pA y k)
    ·rfl
    ·cases instB y (y.Stack.getD k ah.zero).Callee
     ·rfl
     ·cases (mD y.Stack (y.Stack.getD k ah.zero).Callee==(k:Int))
      ·rfl
      ·cases b12
       ·rfl
       ·cases (y.Stack.getD k ah.zero).bG.all f0
        ·rfl
        ·simp only[if_true,Bool.not_true,Bool.or_false,cond_false,Bool.and_self,cond_true,bn hk h.st]) (fun f=>by
   simp only[M.kQ,Int.lt_irrefl,decide_false,cond_false])
  rw[show M.kQ ak y 0=_ from this];cases (List.range y.Stack.length).all (rP y)<;>rfl
 ·have h8':(8:Int)<(y.Stack.length:Int):=by omega
  simp only[h8',decide_true,cond_true,decide_eq_false h8,Bool.false_and]
theorem Su(l:List ah)(k:Nat)(h:k<l.length):(mD l l[k].Callee==(k:Int))= !fi (l.take k) l[k].Callee:=by
 unfold mD fi;generalize hw:l[k].Callee=who;have hp:(l[k].Callee==who)=true:=by rw[hw];simp
 rw[Bool.eq_iff_iff,beq_iff_eq];simp only[Bool.not_eq_true',List.any_eq_false];cases hf:l.findIdx? (fun c=>c.Callee==who)with
 |none=>
  rw[List.findIdx?_eq_none_iff]at hf;have:=hf l[k] (List.getElem_mem h);rw[hp]at this;cases this
 |some j=>
  rw[List.findIdx?_eq_some_iff_getElem]at hf;obtain⟨hj,h1,h2⟩:=hf;constructor
  ·intro e;have e:(j:Int)=(k:Int):=e;have:j=k:=by omega
   subst this;intro c hc;obtain⟨i,hi,rfl⟩:=List.getElem_of_mem hc;rw[List.length_take]at hi;rw[List.getElem_take];have:=h2 i (by omega);simpa using this
  ·intro hall;have hjk:j<=k:=by
    rcases Nat.lt_or_ge k j with h3|h3
    ·have:=h2 k h3;rw[hp]at this;simp at this
    ·exact h3
   rcases Nat.lt_or_ge j k with h3|h3
   ·have:=hall l[j] (by
     rw[List.mem_take_iff_getElem];exact⟨j,by omega,rfl⟩)
    rw[h1]at this;simp at this
   ·have:j=k:=by omega
    rw[this]
theorem FT(y:af)(hN:aG 1 1000000 y.Next=true):∀n,n<=y.Stack.length->(List.range n).all (rP y)=(List.range n).all (sP y)
 |0,_=>rfl
 |n+1,hn=>by
  have ih:=FT y hN n (by omega);rw[List.range_succ,List.all_append,List.all_append,ih];cases hb:(List.range n).all (sP y)
  ·rfl
  ·rw[Bool.true_and,Bool.true_and];have hk:n<y.Stack.length:=by omega
   simp only[List.all_cons,List.all_nil,Bool.and_true];unfold rP sP sC;dsimp only;rw[getD_lt hk,Su y.Stack n hk];simp only[aG,Bool.and_eq_true,decide_eq_true_eq]at hN;have hlow:pz y n=(ip y.Stack n).Id+1/\pA y n=(ip y.Stack n).Callee:=by
    cases n with
    |zero=>exact⟨rfl,rfl⟩
    |succ m=>
     have hp:sP y m=true:=by
      rw[List.all_eq_true]at hb;exact hb m (by rw[List.mem_range];omega)
     have hm:m<y.Stack.length:=by omega
     unfold sP sC at hp;simp only[Bool.and_eq_true,decide_eq_true_eq]at hp;have h1:=hp.1.1.2.1;have h0:=hp.1.1.1;have hge: -1<=(ip y.Stack m).Id:=by
      cases m with
      |zero=>simp[ip,zC]
      |succ q=>
       have hq:sP y q=true:=by
        rw[List.all_eq_true]at hb;exact hb q (by rw[List.mem_range];omega)
       have:∀j,j<=q->0<(y.Stack.getD j ah.zero).Id:=fun j=>by
        induction j with
        |zero=>
         intro _;have hz:sP y 0=true:=by
          rw[List.all_eq_true]at hb;exact hb 0 (by rw[List.mem_range];omega)
         unfold sP sC at hz;simp only[Bool.and_eq_true,decide_eq_true_eq]at hz;exact hz.1.1.1
        |succ j ih=>
         intro hj;have hz:sP y (j+1)=true:=by
          rw[List.all_eq_true]at hb;exact hb (j+1) (by rw[List.mem_range];omega)
         unfold sP sC at hz;simp only[Bool.and_eq_true,decide_eq_true_eq]at hz;have h1:(y.Stack.getD j ah.zero).Id<(y.Stack.getD (j+1) ah.zero).Id:=hz.1.1.1;have:=ih (by omega);omega
       have:=this q (Nat.le_refl _)
       show -1<=(y.Stack.getD q ah.zero).Id
       omega
     refine⟨?_,?_⟩
     ·unfold pz;rw[decide_eq_true (Nat.succ_pos m),cond_true,Nat.add_sub_cancel]
      show Go.IntKind.wrap .i64 ((y.Stack.getD m ah.zero).Id+1)=(y.Stack.getD m ah.zero).Id+1
      exact wrap_i64 (by omega) (by omega)
     ·unfold pA;rw[decide_eq_true (Nat.succ_pos m),cond_true,Nat.add_sub_cancel];rfl
   rw[hlow.1,hlow.2];generalize ip y.Stack n=last;have c1:(decide (last.Id+1<=y.Stack[n].Id)&&decide (y.Stack[n].Id<=y.Next-1))=(decide (last.Id<y.Stack[n].Id)&&decide (y.Stack[n].Id<y.Next)):=by
    rw[Bool.eq_iff_iff];simp only[Bool.and_eq_true,decide_eq_true_eq];omega
   rw[c1];cases decide (last.Id<y.Stack[n].Id)<;>cases decide (y.Stack[n].Id<y.Next)<;>cases (y.Stack[n].Caller==last.Callee)<;>cases instB y y.Stack[n].Callee<;>cases decide ((y.Stack[n].bG.length:Int)<=12)<;>cases y.Stack[n].bG.all f0<;>cases fi (y.Stack.take n) y.Stack[n].Callee<;>rfl
theorem FU(y:af)(h:Fit y):M.kR y ak 0=some (if(List.range y.Dead.length).all (dP y)then .inr y else .inl false):=by
 refine l7 (p:=dP y) (F:=fun f k=>M.kR y f k) y.Dead.length h.de (fun f k hk=>?_) (fun f=>by
  simp only[M.kR,Int.lt_irrefl,decide_false,cond_false])
 simp only[M.kR,Int.toNat_natCast,bF,Int.ofNat_lt,hk,decide_true,cond_true,Bool.and_true,bn hk h.de,uX,FR y h.tb,s_on y h.st,Option.getD_some,Option.isSome_some,Bool.true_or,Bool.true_and,Sj];have hin:instB y (y.Dead.getD k 0)=true->inB (y.Dead.getD k 0) y.Shelf.Tables.length=true:=fun h=>by
  simp only[instB,aG,Bool.and_eq_true,decide_eq_true_eq]at h;exact kr ⟨by omega,by omega⟩
 unfold dP;have cz:∃b,decide (((pd y (y.Dead.getD k 0)).length:Int)<=0)=b/\∀(d:Decidable (0<(aa.Entries (List.getD y.Shelf.Tables (Int.toNat (List.getD y.Dead k 0)) aa.zero)).length)), @decide _ d= !b:=by
  unfold pd;by_cases hz:((aa.Entries (List.getD y.Shelf.Tables (Int.toNat (List.getD y.Dead k 0)) aa.zero)).length:Int)<=0
  ·exact⟨true,decide_eq_true hz,fun d=>by rw[Bool.not_true];exact decide_eq_false (by omega)⟩
  ·exact⟨false,decide_eq_false hz,fun d=>by rw[Bool.not_false];exact decide_eq_true (by omega)⟩
 obtain⟨b12,c3,c4⟩:=cz;rw[c3,c4];cases hi:instB y (y.Dead.getD k 0)
 ·simp
 ·rw[hin hi];by_cases h0:0<k
  ·rw[(jv hk h.de h0).1,(jv hk h.de h0).2,decide_eq_true h0];cases decide (y.Dead.getD k 0<=y.Dead.getD (k-1) 0)<;>cases fi y.Stack (y.Dead.getD k 0)<;>cases b12<;>rfl
  ·rw[decide_eq_false h0];cases fi y.Stack (y.Dead.getD k 0)<;>cases b12<;>simp
theorem Sv(y:af)(hT:aG 1 7 (y.Shelf.Tables.length:Int)=true)(hd:(List.range y.Dead.length).all (dP y)=true):(y.Dead.length:Int)<=6:=by
 simp only[aG,Bool.and_eq_true,decide_eq_true_eq]at hT;have hq:∀k,k<y.Dead.length->0<y.Dead.getD k 0/\y.Dead.getD k 0<=6/\gb y.Dead k=true:=fun k hk=>by
  rw[List.all_eq_true]at hd;have:=hd k (by rw[List.mem_range];exact hk);unfold dP at this;simp only[Bool.and_eq_true,instB,aG,decide_eq_true_eq]at this;exact⟨by omega,by omega,this.2.2.2⟩
 have h1:iq y.Dead=true:=by
  rw[<-uZ,List.all_eq_true];intro k hk;rw[List.mem_range]at hk;exact(hq k hk).2.2
 have h2:∀x∈y.Dead,0<x/\x<=6:=fun x hx=>by
  obtain⟨i,hi,rfl⟩:=List.getElem_of_mem hx;have:=hq i hi;rw[getD_lt hi]at this;exact⟨this.1,this.2.1⟩
 have h3:gW 0 y.Dead=true:=by
  rw[yA,h1,Bool.and_true,List.all_eq_true];intro x hx;exact decide_eq_true (h2 x hx).1
 have:=Fo y.Dead 0 6 h3 fun x hx=>(h2 x hx).2
 split at this<;>omega
def rB(y:af)(who:Int)(e:ae):Bool:=e.Own||(match y.Stack.findIdx? (fun c=>c.Callee==who)with
 |none=>false
 |some k=>(y.Stack.getD k ah.zero).Id==e.Scope&&(y.Stack.getD k ah.zero).Caller==e.From)
theorem Sz(y:af)(h:Fit y)(i:Int)(l:List ae)(hn:l.length<2^62):M.jy y i l ak 0=some (if l.all (rB y i)then .inr (y,i)else .inl false):=by
 refine l8 (F:=fun f k=>M.jy y i l f k) l hn (fun f k hk=>?_) (fun f=>by
  simp only[M.jy,Int.lt_irrefl,decide_false,cond_false])
 simp only[M.jy,Int.toNat_natCast,getD_lt hk,bF,Int.ofNat_lt,hk,decide_true,cond_true,Bool.and_true,bn hk hn,s_on y h.st,Option.getD_some,Option.isSome_some,Bool.true_or,Bool.true_and,eS];unfold rB mD;cases l[k].Own
 ·rw[cond_false,Bool.false_or];cases hx:y.Stack.findIdx? (fun c=>c.Callee==i)with
  |none=>simp
  |some j=>
   have hj:=iS _ _ _ hx;have h1:¬((j:Int)<0):=by omega
   simp only[h1,decide_false,Bool.false_or,bF,hj,decide_true,Int.toNat_natCast,Bool.true_or,Bool.true_and,cond_true];cases ((y.Stack.getD j ah.zero).Id==l[k].Scope)<;>cases ((y.Stack.getD j ah.zero).Caller==l[k].From)<;>rfl
 ·rfl
theorem SA(y:af)(h:Fit y):∀(f k:Nat),y.Shelf.Tables.length-k<f->
 M.mF f y (k:Int)=some (if cP (rB y) k (y.Shelf.Tables.drop k)then .inr ()else .inl false):=by
 intro f
 induction f with
 |zero=>intro k h;omega
 |succ f ih=>
  intro k hk;rw[M.mF];rcases Nat.lt_or_ge k y.Shelf.Tables.length with h1|h1
  ·have hm:=List.getElem_mem h1;rw[cm h1,cP];simp only[Int.toNat_natCast,getD_lt h1,bF,Int.ofNat_lt,h1,decide_true,cond_true,Bool.and_true];rw[Sz y h (k:Int) y.Shelf.Tables[k].Entries (h.en _ hm)];cases y.Shelf.Tables[k].Entries.all (rB y (k:Int))
   ·rfl
   ·simp only[if_true,bn h1 h.tb,Bool.true_and];exact ih (k+1) (by omega)
  ·rw[decide_eq_false (by omega),cond_false,List.drop_eq_nil_of_le h1];rfl
theorem SB(y:af)(h:Fit y):M.pC y=some (cP (rB y) 0 y.Shelf.Tables):=by
 unfold M.pC;rw[show M.mF ak y 0=_ from SA y h ak 0 (by have:=b9;have:=h.tb;omega),List.drop_zero];cases cP (rB y) 0 y.Shelf.Tables<;>rfl
theorem SC(y:af)(hs:(List.range y.Stack.length).all (sP y)=true)(who:Int)(e:ae):rB y who e=bB y who e:=by
 unfold rB bB;congr 1;have hd:∀j,∀h:j<y.Stack.length,fi (y.Stack.take j) y.Stack[j].Callee=false:=fun j hj=>by
  rw[List.all_eq_true]at hs;have:=hs j (by rw[List.mem_range];exact hj);unfold sP sC at this;rw[getD_lt hj]at this;simp only[Bool.and_eq_true,Bool.not_eq_true']at this;exact this.2.2
 rw[Bool.eq_iff_iff];cases hf:y.Stack.findIdx? (fun c=>c.Callee==who)with
 |none=>
  rw[List.findIdx?_eq_none_iff]at hf;constructor
  ·intro h;cases h
  ·intro h;rw[List.any_eq_true]at h;obtain⟨c,hc,h1⟩:=h;simp only[Bool.and_eq_true]at h1;have:=hf c hc;rw[h1.1.1]at this;cases this
 |some k=>
  rw[List.findIdx?_eq_some_iff_getElem]at hf;obtain⟨hk,h1,h2⟩:=hf;dsimp only;rw[getD_lt hk];constructor
  ·intro h;rw[List.any_eq_true];refine⟨y.Stack[k],List.getElem_mem hk,?_⟩;simp only[Bool.and_eq_true]at h⊢;exact⟨⟨h1,h.1⟩,h.2⟩
  ·intro h;rw[List.any_eq_true]at h;obtain⟨c,hc,h3⟩:=h;obtain⟨j,hj,rfl⟩:=List.getElem_of_mem hc;simp only[Bool.and_eq_true]at h3⊢;have hkj:k=j:=by
    rcases Nat.lt_trichotomy k j with hlt|e|hlt
    ·have:=hd j hj;unfold fi at this;rw[List.any_eq_false]at this;have:=this y.Stack[k] (by rw[List.mem_take_iff_getElem];exact⟨k,by omega,rfl⟩);rw[eq_of_beq h3.1.1,h1]at this;simp at this
    ·exact e
    ·have:=h2 j hlt;rw[h3.1.1]at this;simp at this
   subst hkj;exact⟨h3.1.2,h3.2⟩
theorem SD(y:af)(h:Fit y):M.pD y=some (ga y):=by
 unfold M.pD ga sV;rw[RU y h,Si y];simp only[Option.getD_some,Option.isSome_some,Bool.and_true];rw[show((decide ((1:Int)<=y.Next))&&(decide (y.Next<=(1000000:Int))))=aG 1 1000000 y.Next from rfl];cases hS:kz y.Shelf
 ·simp
 ·have h7:aG 1 7 (y.Shelf.Tables.length:Int)=true:=by
   unfold kz at hS;simp only[Bool.and_eq_true]at hS;exact hS.1.2
  have h2:aG 2 7 (y.Shelf.Tables.length:Int)= !decide ((y.Shelf.Tables.length:Int)<2):=by
   simp only[aG,Bool.and_eq_true,decide_eq_true_eq]at h7;unfold aG;rw[Bool.eq_iff_iff];simp only[Bool.and_eq_true,decide_eq_true_eq,Bool.not_eq_true',decide_eq_false_iff_not];omega
  rw[h2];cases decide ((y.Shelf.Tables.length:Int)<2)
  ·cases hN:aG 1 1000000 y.Next
   ·simp
   ·rw[Sr y h hN,FT y hN _ (Nat.le_refl _)];simp only[Bool.not_true,Bool.or_false,Bool.false_or,cond_false,Option.getD_some,Option.isSome_some,Bool.true_and,Bool.and_true,beq_self_eq_true,cond_true,Bool.not_false,Bool.true_or];cases h8:decide ((y.Stack.length:Int)<=8)
    ·simp
    ·cases hst:(List.range y.Stack.length).all (sP y)
     ·simp
     ·simp only[Bool.and_self,Bool.not_true,Bool.false_or,Bool.true_and];cases hd:(List.range y.Dead.length).all (dP y)
      ·by_cases h6:(6:Int)<(y.Dead.length:Int)
       ·simp only[h6,decide_true,cond_true];rfl
       ·simp only[h6,decide_false,cond_false,FU y h,hd];rfl
      ·have h6:=Sv y h7 hd;have h6':¬((6:Int)<(y.Dead.length:Int)):=by omega
       simp only[h6',decide_false,cond_false,FU y h,hd,if_true,SB y h];rw[yC (SC y hst) 0 y.Shelf.Tables];simp
  ·simp
end M
