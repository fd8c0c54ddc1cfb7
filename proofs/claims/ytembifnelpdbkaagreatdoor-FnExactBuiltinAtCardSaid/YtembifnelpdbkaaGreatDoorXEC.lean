/-
  NAMES BOUND ONCE: names that are all among some distinct words are distinct and as many as these just where each word is met once.
-/
import Derived.Test.YtembifnelpdbkaaGreatDoorXEpl3
import Derived.Test.YtembifnelpdbkaaGreatDoorXEpl4
import Derived.Test.YtembifnelpdbkaaGreatDoorXEFF
import Derived.Test.YtembifnelpdbkaaGreatDoorXEMM
import Derived.Test.YtembifnelpdbkaaGreatDoorXETP
set_option linter.unusedVariables false
namespace M
def smN (f:List UInt8->Nat):List (List UInt8)->Nat
 | []=>0
 |i::r=>f i+smN f r
theorem axL (f g:List UInt8->Nat):∀l,smN (fun i=>f i+g i) l=smN f l+smN g l
 | []=>rfl
 |i::r=>by simp only[smN,axL f g r];omega
theorem anc (f:List UInt8->Nat):∀l,(∀i∈l,f i=0)->smN f l=0
 | [],_=>rfl
 |i::r,h=>by simp only[smN,h i (by simp),anc f r fun j hj=>h j (by simp[hj])]
theorem axM (f:List UInt8->Nat):∀l,(∀i∈l,f i=1)->smN f l=l.length
 | [],_=>rfl
 |i::r,h=>by simp only[smN,h i (by simp),axM f r fun j hj=>h j (by simp[hj]),List.length_cons];omega
theorem azG (f:List UInt8->Nat):∀l,(∀i∈l,f i<=1)->smN f l<=l.length /\ (smN f l=l.length->∀i∈l,f i=1)
 | [],_=>⟨Nat.le_refl _,fun _ i hi=>absurd hi (by simp)⟩
 |i::r,h=>by
  obtain ⟨h1,h2⟩:=azG f r fun j hj=>h j (by simp[hj])
  have h3:=h i (by simp)
  simp only[smN,List.length_cons];refine ⟨by omega,fun e j hj=> ?_⟩
  rcases List.mem_cons.1 hj with rfl |hj
  ·omega
  ·exact h2 (by omega) j hj
def hit (x i:List UInt8):Nat:=if x==i then 1 else 0
theorem axN (x:List UInt8):∀l:List (List UInt8),l.Nodup->x∈l->smN (hit x) l=1
 | [],_,h=>absurd h (by simp)
 |i::r,hn,hm=>by
  rw[List.nodup_cons] at hn
  by_cases e:x=i
  ·subst e
   have:smN (hit x) r=0:=anc _ r fun j hj=>by
    unfold hit;rw[if_neg];simp only[beq_iff_eq];rintro rfl;exact hn.1 hj
   simp only[smN,this,hit,beq_self_eq_true,if_true]
  ·have h1:x∈r:=by simpa [e] using hm
   have:=axN x r hn.2 h1;have h2:hit x i=0:=by unfold hit;rw[if_neg];simpa using e
   simp only[smN,this,h2]
theorem Vm (x i:List UInt8) (r:List (List UInt8)):(x::r).count i=hit x i+r.count i:=by
 rw[List.count_cons];unfold hit;omega
theorem arE : ∀(names Ig:List (List UInt8)),Ig.Nodup->(∀x∈names,x∈Ig)->smN (fun i=>names.count i) Ig=names.length
 | [],Ig,_,_=>by rw[anc _ Ig fun i _=>by simp];rfl
 |x::r,Ig,hn,h=>by
  have e:(fun i=>(x::r).count i)=fun i=>hit x i+r.count i:=funext fun i=>Vm x i r
  rw[e,axL,axN x Ig hn (h x (by simp)),arE r Ig hn fun y hy=>h y (by simp[hy]),List.length_cons]
  omega
theorem ajI : ∀l:List (List UInt8),(∀x∈l,l.count x<=1)->l.Nodup
 | [],_=>List.nodup_nil
 |x::r,h=>by
  rw[List.nodup_cons];constructor
  ·intro hm
   have h1:=h x (by simp)
   have h2:0<r.count x:=List.count_pos_iff.2 hm;rw[List.count_cons_self] at h1;omega
  ·exact ajI r fun y hy=>by
    have:=h y (by simp[hy])
    rw[Vm] at this;omega
theorem ajJ : ∀l:List (List UInt8),l.Nodup->∀x,l.count x<=1
 | [],_,x=>by simp
 |y::r,h,x=>by
  rw[List.nodup_cons] at h;rw[Vm]
  by_cases e:y=x
  ·subst e
   have:r.count y=0:=List.count_eq_zero.2 h.1;unfold hit;rw[if_pos (by simp)];omega
  ·have:=ajJ r h.2 x
   unfold hit;rw[if_neg (by simpa using e)];omega
theorem azH (names Ig:List (List UInt8)) (hn:Ig.Nodup) (h:∀x∈names,x∈Ig):
 (nodupB names&&(names.length==Ig.length))=Ig.all fun i=>names.count i==1:=by
 have hs:=arE names Ig hn h;rw[Bool.eq_iff_iff];simp only[Bool.and_eq_true,ER,beq_iff_eq,List.all_eq_true];constructor
 ·rintro ⟨h1,h2⟩
  have:=azG (fun i=>names.count i) Ig fun i _=>ajJ names h1 i
  exact this.2 (by omega)
 ·intro h1
  have h2:=axM (fun i=>names.count i) Ig h1
  refine ⟨ajI names fun x hx=> ?_,by omega⟩
  rw[h1 x (h x hx)];exact Nat.le_refl _
end M
namespace M
open Go.V (inB xG aA bU)
def pre {α β:Type} (ok:α->β->Bool):List α->List β->Bool
 | [],_=>true
 |_::_,[]=>false
 |w::ws,x::xs=>ok w x&&pre ok ws xs
theorem ane {α β:Type} (ok:α->β->Bool):∀(a b:List α) (l:List β),pre ok (a++b) l=(pre ok a l&&pre ok b (l.drop a.length))
 | [],b,l=>by simp[pre]
 |w::ws,b,[]=>by simp[pre]
 |w::ws,b,x::xs=>by simp only[List.cons_append,pre,ane ok ws b xs,List.length_cons,List.drop_succ_cons,Bool.and_assoc]
theorem ahc {α β:Type} (ok:α->β->Bool) (dw:α) (dl:β):∀(ws:List α) (ls:List β),ws.length=ls.length->((List.range ls.length).all fun k=>ok (ws.getD k dw) (ls.getD k dl))=pre ok ws ls
 | [],[],_=>rfl
 | [],_::_,h=>by simp at h
 |_::_,[],h=>by simp at h
 |w::ws,x::xs,h=>by
  have:=ahc ok dw dl ws xs (by simpa using h)
  rw[List.length_cons,List.range_succ_eq_map,List.all_cons,pre,<-this,List.all_map]
  rfl
theorem drop_cons {α:Type} {l:List α} {n:Nat} (h:n<l.length):l.drop n=l[n]::l.drop (n+1):=iQ h
theorem anf {α β Y E:Type} (ok:α->β->Bool) (ws:List α) (ls:List β) (hw:ws.length<=1048576) (hl:ls.length<=1048576) {F:Nat->Int->Int->Option (Y⊕E)} {b:Y} {fin:Int->E}
 (step:∀f k n,∀hk:k<ws.length,F (f+1) (k:Int) ((n:Nat):Int)=if h:n<ls.length then (if ok ws[k] ls[n] then F f ((k+1:Nat):Int) ((n+1:Nat):Int) else some (.inl b)) else some (.inl b))
 (stop:∀f n,F (f+1) (ws.length:Int) n=some (.inr (fin n))) (n0:Nat):
 F aA 0 (n0:Int)=some (if pre ok ws (ls.drop n0) then .inr (fin ((n0+ws.length:Nat):Int)) else .inl b):=by
 have key:∀f k n,k<=ws.length->ws.length-k<f->F f (k:Int) ((n:Nat):Int)=some (if pre ok (ws.drop k) (ls.drop n) then .inr (fin ((n+(ws.length-k):Nat):Int)) else .inl b):=by
  intro f
  induction f with
  |zero=>intro k n h1 h2;omega
  |succ f ih=>
   intro k n h1 h2
   rcases Nat.lt_or_ge k ws.length with hk |hk
   ·rw[step f k n hk,iQ hk]
    by_cases hn:n<ls.length
    ·rw[dif_pos hn,drop_cons hn,ih (k+1) (n+1) (by omega) (by omega)]
     rw[show n+1+(ws.length-(k+1))=n+(ws.length-k) by omega]
     simp only[pre]
     by_cases ho:ok ws[k] ls[n]=true
     ·rw[if_pos ho];simp only[ho,Bool.true_and]
     ·rw[if_neg ho];simp only[ho,Bool.false_and];rfl
    ·rw[dif_neg hn,show ls.drop n=[] from List.drop_eq_nil_of_le (by omega)]
     rfl
   ·have:k=ws.length:=by omega
    subst this;rw[stop,List.drop_length,Nat.sub_self];simp[pre]
 have:=key aA 0 n0 (Nat.zero_le _) (by have:=bU;omega)
 simpa using this
theorem ang {α β Y E:Type} (ok:α->β->Bool) (wss:List (List α)) (ls:List β) (hw:wss.length<=1048576) {G:Nat->Int->Int->Option (Y⊕E)} {b:Y} {fin:Int->E}
 (step:∀f i n,∀hi:i<wss.length,G (f+1) (i:Int) ((n:Nat):Int)=if pre ok wss[i] (ls.drop n) then G f ((i+1:Nat):Int) ((n+wss[i].length:Nat):Int) else some (.inl b))
 (stop:∀f n,G (f+1) (wss.length:Int) n=some (.inr (fin n))):
 G aA 0 0=some (if pre ok wss.flatten ls then .inr (fin ((wss.flatten.length:Nat):Int)) else .inl b):=by
 have key:∀f i n,i<=wss.length->wss.length-i<f->G f (i:Int) ((n:Nat):Int)=some (if pre ok (wss.drop i).flatten (ls.drop n) then .inr (fin ((n+(wss.drop i).flatten.length:Nat):Int)) else .inl b):=by
  intro f
  induction f with
  |zero=>intro i n h1 h2;omega
  |succ f ih=>
   intro i n h1 h2
   rcases Nat.lt_or_ge i wss.length with hi |hi
   ·rw[step f i n hi,iQ hi,List.flatten_cons,ane,List.drop_drop,ih (i+1) _ (by omega) (by omega),List.length_append,<-Nat.add_assoc]
    by_cases ho:pre ok wss[i] (ls.drop n)=true
    ·rw[if_pos ho];simp only[ho,Bool.true_and]
    ·rw[if_neg ho];simp only[ho,Bool.false_and];rfl
   ·have:i=wss.length:=by omega
    subst this;rw[stop,List.drop_length];simp[pre]
 have:=key aA 0 0 (Nat.zero_le _) (by have:=bU;omega)
 simpa using this
end M
set_option linter.unusedSimpArgs false
namespace M
open Go.V (inB xG aA bU)
def Ih (f:aN):List dX:=f.Funcs.map fun x=>dX.mk (jF f) x.Name x.bF
def vP (l:List aN):List dX:=(l.map Ih).flatten
def acO (m:aI) (n:List UInt8):Option Nat:=m.bg.findIdx? fun c=>c.Name==n
def ML (m:aI) (n:List UInt8):Option Nat:=m.ak.findIdx? fun c=>c.Name==n
def Dh (m:aI) (w:dX) (x:dG):Bool:=(x.bV==w.ala&&x.Func==w.name)&&(match acO m x.Core with
 |some j=>(m.bg.getD j aJ.zero).Params==(MK w.shape).1&&(m.bg.getD j aJ.zero).Result==(MK w.shape).2.1
 |none=>false)
def Ii (m:aI) (w:dX) (x:bK):Bool:=(x.bV==w.ala&&x.Func==w.name)&&(match ML m x.Import with
 |some j=>(m.ak.getD j aF.zero).Params==(MK w.shape).1&&(m.ak.getD j aF.zero).Result==(MK w.shape).2.1
 |none=>false)
def acP (c:ay):Bool:=pre (Dh c.Module) (vP c.bM) c.gu&&(vP c.bM).length==c.gu.length
def aaS (c:ay):Bool:=pre (Ii c.Module) (vP c.ak) c.dE&&(vP c.ak).length==c.dE.length
def Bj (l:List aN) (ala res:List UInt8):Bool:=match l.findIdx? (fun f=>jF f==ala) with
 |some j=>(l.getD j aN.zero).aU.any fun y=>y==res
 |none=>false
def Gp (c:ay) (b:aK):Bool:=((decide (1<=b.Kind)&&decide (b.Kind<=3))&&(Bj c.bM b.bV b.gm||(b.Kind==3&&Bj c.ak b.bV b.gm)))&&(match ML c.Module b.Import with
 |some j=>(c.Module.ak.getD j aF.zero).Params==1&& !((c.Module.ak.getD j aF.zero).Result==(b.Kind==3))
 |none=>false)
def FI (c:ay):Bool:=decide (c.Builtins.length<=12)&&c.Builtins.all (Gp c)
def wordsOf (c:ay):List (List UInt8):=c.dE.map bK.Import++c.Builtins.map aK.Import
def ahd (c:ay):Bool:=nodupB (wordsOf c)&&(wordsOf c).length==c.Module.ak.length
def aeh (c:ay):Bool:=(c.Module.ak.map aF.Name).all fun i=>(wordsOf c).count i==1
theorem axP {α β:Type} {ok:α->β->Bool}:∀{ws:List α} {ls:List β},pre ok ws ls=true->ws.length=ls.length->∀x∈ls,∃w∈ws,ok w x=true
 | [],[],_,_,x,hx=>absurd hx (by simp)
 | [],_::_,_,h,_,_=>by simp at h
 |_::_,[],_,_,x,hx=>absurd hx (by simp)
 |w::ws,y::ys,h,hl,x,hx=>by
  simp only[pre,Bool.and_eq_true] at h
  rcases List.mem_cons.1 hx with rfl |hx
  ·exact ⟨w,by simp,h.1⟩
  ·obtain ⟨v,hv,e⟩:=axP h.2 (by simpa using hl) x hx
   exact ⟨v,by simp[hv],e⟩
theorem arF {m:aI} {n:List UInt8} {j:Nat} (h:ML m n=some j):n∈m.ak.map aF.Name:=by
 unfold ML at h;rw[List.findIdx?_eq_some_iff_getElem] at h;obtain ⟨hj,h1, -⟩:=h;have e:(m.ak[j]).Name=n:=by simpa using h1
 exact List.mem_map.2 ⟨m.ak[j],List.getElem_mem hj,e⟩
theorem azI {c:ay} (h1:aaS c=true) (h2:FI c=true):∀x∈wordsOf c,x∈c.Module.ak.map aF.Name:=by
 intro x hx;unfold wordsOf at hx
 rcases List.mem_append.1 hx with hx |hx
 ·obtain ⟨y,hy,rfl⟩:=List.mem_map.1 hx
  unfold aaS at h1;simp only[Bool.and_eq_true,beq_iff_eq] at h1;obtain ⟨w, -,e⟩:=axP h1.1 h1.2 y hy;unfold Ii at e;rw[Bool.and_eq_true] at e
  cases ha:ML c.Module y.Import with
  |none=>rw[ha] at e;exact absurd e.2 (by simp)
  |some j=>exact arF ha
 ·obtain ⟨y,hy,rfl⟩:=List.mem_map.1 hx
  unfold FI at h2;simp only[Bool.and_eq_true,List.all_eq_true] at h2;have e:=h2.2 y hy;unfold Gp at e;rw[Bool.and_eq_true] at e
  cases ha:ML c.Module y.Import with
  |none=>rw[ha] at e;exact absurd e.2 (by simp)
  |some j=>exact arF ha
theorem aws {c:ay} (hm:U4 c.Module=true) (h1:aaS c=true) (h2:FI c=true):ahd c=aeh c:=by
 have hn:(c.Module.ak.map aF.Name).Nodup:=by
  unfold U4 ahe at hm;simp only[Bool.and_eq_true] at hm;exact (ER _).1 hm.2.2.1.1
 have:=azH (wordsOf c) _ hn (azI h1 h2);unfold ahd aeh;rw[<-this,List.length_map]
end M
namespace M
open Go.V (inB xG aA bU)
def ixO (o:Option Nat):Int:=match o with
 |some j=>(j:Int)
 |none=> -1
theorem azJ (m:aI) (n:List UInt8) (h:m.bg.length<=1048576):M.O5 m n=some (ixO (acO m n)):=by
 have e:=ik (p:=fun c:aJ=>c.Name==n) (F:=M.wJ n m) (e:=()) (fun k=>k) m.bg (by omega) (fun f k hk=>by
  rw[M.wJ];simp only[getD_lt hk,Int.toNat_natCast,bf,Int.ofNat_lt,hk,decide_true,cond_true,Bool.true_and,Bool.and_true,df hk (dI h)]) (fun f=>by rw[M.wJ];simp)
 unfold M.O5 acO ixO;rw[e]
 cases m.bg.findIdx? fun c=>c.Name==n<;>rfl
theorem axQ (m:aI) (n:List UInt8) (h:m.ak.length<=1048576):M.yE m n=some (ixO (ML m n)):=by
 have e:=ik (p:=fun c:aF=>c.Name==n) (F:=M.qp n m) (e:=()) (fun k=>k) m.ak (by omega) (fun f k hk=>by
  rw[M.qp];simp only[getD_lt hk,Int.toNat_natCast,bf,Int.ofNat_lt,hk,decide_true,cond_true,Bool.true_and,Bool.and_true,df hk (dI h)]) (fun f=>by rw[M.qp];simp)
 unfold M.yE ML ixO;rw[e]
 cases m.ak.findIdx? fun c=>c.Name==n<;>rfl
theorem ajK {α:Type} {p:α->Bool} {l:List α} {j:Nat} (h:l.findIdx? p=some j):j<l.length:=by
 rw[List.findIdx?_eq_some_iff_getElem] at h;exact h.1
theorem azK {f:aN} (h:OG f=true):∀x∈f.Funcs,fOk x.bF=true:=by
 unfold OG at h;simp only[Bool.and_eq_true,List.all_eq_true] at h;intro x hx;have:=h.2.2.1 x hx;unfold ap9 at this;simp only[Bool.and_eq_true] at this;exact this.1.2
theorem Zy {l:List aN} (h:qP l=true):∀f∈l,∀x∈f.Funcs,fOk x.bF=true:=by
 unfold qP at h;simp only[Bool.and_eq_true,List.all_eq_true] at h;intro f hf;have:=h.2.1 f hf;unfold aqa at this;rw[Bool.and_eq_true] at this;exact azK this.1
theorem Di (f:aN):(Ih f).length=f.Funcs.length:=by unfold Ih;rw[List.length_map]
theorem auj (f:aN) {k:Nat} (hk:k<(Ih f).length):(Ih f)[k]=dX.mk (jF f) (f.Funcs[k]'(by rw[Di] at hk;exact hk)).Name (f.Funcs[k]'(by rw[Di] at hk;exact hk)).bF:=by
 simp only[Ih,List.getElem_map]
structure CSz (c:ay):Prop where
 name:c.Name.length<=1048576
 ver:c.Version.length<=1048576
 Ig:fA aN.sz c.ak<=1048576
 auk:fA aN.sz c.bM<=1048576
 mod:c.Module.sz<=1048576
 lifts:fA dG.sz c.gu<=1048576
 aBH:fA bK.sz c.dE<=1048576
 asy:fA aK.sz c.Builtins<=1048576
 both:fA bK.sz c.dE+fA aK.sz c.Builtins<=1048576
theorem CSz.of {c:ay} (h:c.sz<=1048576):CSz c:=by
 rw[ay.dJ] at h;exact ⟨by omega,by omega,by omega,by omega,by omega,by omega,by omega,by omega,by omega⟩
theorem O6 {m:aI} (h:m.sz<=1048576):m.ak.length<=1048576 /\ m.bg.length<=1048576:=by
 rw[aI.dJ] at h;have:=dh aF.sz m.ak;have:=dh aJ.sz m.bg;omega
theorem I8 {l:List aN} (h:fA aN.sz l<=1048576) {f:aN} (hf:f∈l):f.sz<=1048576 /\ f.Funcs.length<=1048576 /\ ∀x∈f.Funcs,x.bF.sz<=1048576:=by
 have h1:=dY aN.sz l f hf;have h2:=aN.dJ f;have h3:=dh aT.sz f.Funcs;refine ⟨by omega,by omega,fun x hx=> ?_⟩
 have h4:=dY aT.sz f.Funcs x hx;have h5:=aT.dJ x;omega
theorem axR (n m:Nat):decide (((m:Nat):Int)<=((n:Nat):Int))= !decide (n<m):=by
 rw[Bool.eq_iff_iff];simp only[Bool.not_eq_true',decide_eq_true_eq,decide_eq_false_iff_not];omega
theorem aul {c:ay} (hc:CSz c) (hE:qP c.bM=true) {i:Nat} (hi:i<c.bM.length) (n0:Nat):
 M.jA c (i:Int) aA (n0:Int) 0=some (if pre (Dh c.Module) (Ih c.bM[i]) (c.gu.drop n0) then .inr (c,((n0+(Ih c.bM[i]).length:Nat):Int),(i:Int)) else .inl false):=by
 have hfs:=I8 hc.auk (List.getElem_mem hi);have hL:=Nat.le_trans (dh dG.sz c.gu) hc.lifts;have hm:=O6 hc.mod;refine anf (Dh c.Module) (Ih c.bM[i]) c.gu (by rw[Di];exact hfs.2.1) hL (F:=fun f k n=>M.jA c (i:Int) f n k) (b:=false) (fin:=fun n=>(c,n,(i:Int))) (fun f k n hk=> ?_) (fun f n=> ?_) n0
 ·show M.jA c (i:Int) (f+1) ((n:Nat):Int) (k:Int)=_
  rw[M.jA,auj c.bM[i] hk];rw[Di] at hk;have hx:=hfs.2.2 _ (List.getElem_mem hk);have hok:=Zy hE _ (List.getElem_mem hi) _ (List.getElem_mem hk);have hn:M.jV c.bM[i]=some (jF c.bM[i]):=aei _ hfs.1;have hs:=ajL hx hok
  by_cases hnl:n<c.gu.length
  ·have hw:=df hnl (dI hL)
   rw[dif_pos hnl];unfold Dh;simp only[af.aB,getD_lt hi,getD_lt hk,getD_lt hnl,hn,hs,azJ c.Module _ hm.2,axR,Int.toNat_natCast,bf,Int.ofNat_lt,hk,hi,hnl,decide_true,cond_true,Bool.not_true,Bool.false_or,Bool.true_and,Bool.and_true,Bool.true_or,hw,df hk (dI hfs.2.1),Option.getD_some,Option.isSome_some]
   cases (c.gu[n].bV==jF c.bM[i])
   ·simp
   ·cases (c.gu[n].Func==c.bM[i].Funcs[k].Name)
    ·simp
    ·cases ha:acO c.Module c.gu[n].Core with
     |none=>simp[ixO]
     |some j=>
      have hj:j<c.Module.bg.length:=ajK ha;have e1:¬((j:Int)<0):=by omega
      have e0:decide ((j:Int)<0)=false:=by rw[decide_eq_false_iff_not];omega
      simp only[ixO,e0,getD_lt hj,hj,Int.toNat_natCast,bf,decide_true,Bool.not_true,Bool.false_or,Bool.or_false,Bool.true_and,Bool.true_or,Bool.and_true,cond_false,rW]
      cases (c.Module.bg[j].Params==(MK c.bM[i].Funcs[k].bF).1)<;>cases (c.Module.bg[j].Result==(MK c.bM[i].Funcs[k].bF).2.1)<;>simp[e1]
  ·rw[dif_neg hnl]
   simp only[af.aB,getD_lt hi,getD_lt hk,hn,axR,Int.toNat_natCast,bf,Int.ofNat_lt,hk,hi,hnl,decide_true,decide_false,cond_true,Bool.not_true,Bool.not_false,Bool.false_or,Bool.true_and,Bool.and_true,Bool.true_or,Bool.or_true,Option.getD_some,Option.isSome_some];simp
 ·show M.jA c (i:Int) (f+1) n (((Ih c.bM[i]).length:Nat):Int)=_
  rw[M.jA,Di];simp only[getD_lt hi,Int.toNat_natCast,bf,hi,decide_true];simp
theorem aBI {c:ay} (hc:CSz c) (hE:qP c.bM=true):M.J8 c=some (acP c):=by
 have hx:=Nat.le_trans (dh aN.sz c.bM) hc.auk;have e:=ang (Dh c.Module) (c.bM.map Ih) c.gu (by rw[List.length_map];exact hx) (G:=fun f i n=>M.kG f c n i) (b:=false) (fin:=fun n=>(c,n)) (fun f i n hi=>by
  rw[List.length_map] at hi
  show M.kG (f+1) c ((n:Nat):Int) (i:Int)=_
  rw[M.kG,aul hc hE hi,List.getElem_map];simp only[Int.ofNat_lt,hi,decide_true,cond_true]
  cases pre (Dh c.Module) (Ih c.bM[i]) (c.gu.drop n)
  ·rfl
  ·simp only[if_true,df hi (dI hx)]) (fun f n=>by
  show M.kG (f+1) c n (((c.bM.map Ih).length:Nat):Int)=_
  rw[M.kG,List.length_map];simp)
 have e':M.kG aA c 0 0=_:=e;unfold M.J8;rw[e'];unfold acP vP
 cases pre (Dh c.Module) (c.bM.map Ih).flatten c.gu
 ·rfl
 ·simp only[if_true,Bool.true_and]
  congr 1
  rw[Bool.eq_iff_iff,beq_iff_eq,beq_iff_eq];omega
theorem awu {c:ay} (hc:CSz c) (hE:qP c.ak=true) {i:Nat} (hi:i<c.ak.length) (n0:Nat):
 M.iW c (i:Int) aA (n0:Int) 0=some (if pre (Ii c.Module) (Ih c.ak[i]) (c.dE.drop n0) then .inr (c,((n0+(Ih c.ak[i]).length:Nat):Int),(i:Int)) else .inl false):=by
 have hfs:=I8 hc.Ig (List.getElem_mem hi);have hL:=Nat.le_trans (dh bK.sz c.dE) hc.aBH;have hm:=O6 hc.mod;refine anf (Ii c.Module) (Ih c.ak[i]) c.dE (by rw[Di];exact hfs.2.1) hL (F:=fun f k n=>M.iW c (i:Int) f n k) (b:=false) (fin:=fun n=>(c,n,(i:Int))) (fun f k n hk=> ?_) (fun f n=> ?_) n0
 ·show M.iW c (i:Int) (f+1) ((n:Nat):Int) (k:Int)=_
  rw[M.iW,auj c.ak[i] hk];rw[Di] at hk;have hx:=hfs.2.2 _ (List.getElem_mem hk);have hok:=Zy hE _ (List.getElem_mem hi) _ (List.getElem_mem hk);have hn:M.jV c.ak[i]=some (jF c.ak[i]):=aei _ hfs.1;have hs:=ajL hx hok
  by_cases hnl:n<c.dE.length
  ·have hw:=df hnl (dI hL)
   rw[dif_pos hnl];unfold Ii;simp only[af.aB,getD_lt hi,getD_lt hk,getD_lt hnl,hn,hs,axQ c.Module _ hm.1,axR,Int.toNat_natCast,bf,Int.ofNat_lt,hk,hi,hnl,decide_true,cond_true,Bool.not_true,Bool.false_or,Bool.true_and,Bool.and_true,Bool.true_or,hw,df hk (dI hfs.2.1),Option.getD_some,Option.isSome_some]
   cases (c.dE[n].bV==jF c.ak[i])
   ·simp
   ·cases (c.dE[n].Func==c.ak[i].Funcs[k].Name)
    ·simp
    ·cases ha:ML c.Module c.dE[n].Import with
     |none=>simp[ixO]
     |some j=>
      have hj:j<c.Module.ak.length:=ajK ha;have e1:¬((j:Int)<0):=by omega
      have e0:decide ((j:Int)<0)=false:=by rw[decide_eq_false_iff_not];omega
      simp only[ixO,e0,getD_lt hj,hj,Int.toNat_natCast,bf,decide_true,Bool.not_true,Bool.false_or,Bool.or_false,Bool.true_and,Bool.true_or,Bool.and_true,cond_false,rW]
      cases (c.Module.ak[j].Params==(MK c.ak[i].Funcs[k].bF).1)<;>cases (c.Module.ak[j].Result==(MK c.ak[i].Funcs[k].bF).2.1)<;>simp[e1]
  ·rw[dif_neg hnl]
   simp only[af.aB,getD_lt hi,getD_lt hk,hn,axR,Int.toNat_natCast,bf,Int.ofNat_lt,hk,hi,hnl,decide_true,decide_false,cond_true,Bool.not_true,Bool.not_false,Bool.false_or,Bool.true_and,Bool.and_true,Bool.true_or,Bool.or_true,Option.getD_some,Option.isSome_some];simp
 ·show M.iW c (i:Int) (f+1) n (((Ih c.ak[i]).length:Nat):Int)=_
  rw[M.iW,Di];simp only[getD_lt hi,Int.toNat_natCast,bf,hi,decide_true];simp
theorem aC4 {c:ay} (hc:CSz c) (hE:qP c.ak=true):M.Gq c=some (aaS c):=by
 have hx:=Nat.le_trans (dh aN.sz c.ak) hc.Ig;have e:=ang (Ii c.Module) (c.ak.map Ih) c.dE (by rw[List.length_map];exact hx) (G:=fun f i n=>M.jL f c n i) (b:=false) (fin:=fun n=>(c,n)) (fun f i n hi=>by
  rw[List.length_map] at hi
  show M.jL (f+1) c ((n:Nat):Int) (i:Int)=_
  rw[M.jL,awu hc hE hi,List.getElem_map];simp only[Int.ofNat_lt,hi,decide_true,cond_true]
  cases pre (Ii c.Module) (Ih c.ak[i]) (c.dE.drop n)
  ·rfl
  ·simp only[if_true,df hi (dI hx)]) (fun f n=>by
  show M.jL (f+1) c n (((c.ak.map Ih).length:Nat):Int)=_
  rw[M.jL,List.length_map];simp)
 have e':M.jL aA c 0 0=_:=e;unfold M.Gq;rw[e'];unfold aaS vP
 cases pre (Ii c.Module) (c.ak.map Ih).flatten c.dE
 ·rfl
 ·simp only[if_true,Bool.true_and]
  congr 1
  rw[Bool.eq_iff_iff,beq_iff_eq,beq_iff_eq];omega
end M
namespace M
open Go.V (inB xG aA bU)
theorem awv {a b:Nat} (h:a+b<=1073741824):decide (a+b<=1073741824)=true:=by rw[decide_eq_true_eq];exact h
theorem azL {m:aI} (n:List UInt8) (h:m.sz<=1048576) (hm:U4 m=true):M.Vo m n=some (match acO m n with
 |some j=>((j:Int),true)
 |none=>(0,false)):=by
 have hl:=O6 h;have e:=ik (p:=fun c:aJ=>c.Name==n) (F:=M.fM m.bg n (m.bg.length:Int)) (e:=()) (fun k=>k) m.bg (by omega) (fun f k hk=>by
  rw[M.fM];simp only[getD_lt hk,Int.toNat_natCast,bf,Int.ofNat_lt,hk,decide_true,cond_true,Bool.true_and,Bool.and_true,df hk (dI hl.2)]) (fun f=>by rw[M.fM];simp)
 unfold M.Vo M.kU acO;rw[e,ahf m h,hm]
 cases m.bg.findIdx? fun c=>c.Name==n with
 |none=>rfl
 |some j=>
  have e0:decide ((j:Int)<0)=false:=by rw[decide_eq_false_iff_not];omega
  simp only[Option.getD_some,Option.isSome_some,e0,Bool.not_true,Bool.false_or,Bool.true_or,cond_false,cond_true,Bool.and_self,Bool.true_and,Bool.and_true]
theorem axS {m:aI} (n:List UInt8) (h:m.sz<=1048576) (hm:U4 m=true):M.Bl m n=some (match ML m n with
 |some j=>((j:Int),true)
 |none=>(0,false)):=by
 have hl:=O6 h;have e:=ik (p:=fun c:aF=>c.Name==n) (F:=M.dZ m.ak n (m.ak.length:Int)) (e:=()) (fun k=>k) m.ak (by omega) (fun f k hk=>by
  rw[M.dZ];simp only[getD_lt hk,Int.toNat_natCast,bf,Int.ofNat_lt,hk,decide_true,cond_true,Bool.true_and,Bool.and_true,df hk (dI hl.1)]) (fun f=>by rw[M.dZ];simp)
 unfold M.Bl M.jB ML;rw[e,ahf m h,hm]
 cases m.ak.findIdx? fun c=>c.Name==n with
 |none=>rfl
 |some j=>
  have e0:decide ((j:Int)<0)=false:=by rw[decide_eq_false_iff_not];omega
  simp only[Option.getD_some,Option.isSome_some,e0,Bool.not_true,Bool.false_or,Bool.true_or,cond_false,cond_true,Bool.and_self,Bool.true_and,Bool.and_true]
theorem amY {α β Y:Type} {F:Nat->Int->List β->Option Y} {h:List β->Option Y} (g:α->List β) (l:List α) (hn:l.length<=1048576) (alb:List β)
 (step:∀f k out,∀hk:k<l.length,out=alb++((l.take k).map g).flatten->F (f+1) (k:Int) out=F f ((k+1:Nat):Int) (out++g l[k]))
 (stop:∀f out,F (f+1) (l.length:Int) out=h out):F aA 0 alb=h (alb++(l.map g).flatten):=by
 have key:∀f k out,k<=l.length->l.length-k<f->out=alb++((l.take k).map g).flatten->F f (k:Int) out=h (alb++(l.map g).flatten):=by
  intro f
  induction f with
  |zero=>intro k out h1 h2;omega
  |succ f ih=>
   intro k out h1 h2 ho
   rcases Nat.lt_or_ge k l.length with hk |hk
   ·rw[step f k out hk ho,ih (k+1) _ (by omega) (by omega)]
    rw[ho,List.take_add_one,List.getElem?_eq_getElem hk,Option.toList_some,List.map_append,List.flatten_append,List.append_assoc];simp
   ·have:k=l.length:=by omega
    subst this;rw[stop,ho,List.take_length]
 exact key aA 0 alb (Nat.zero_le _) (by have:=bU;omega) (by simp)
theorem J9 {α β:Type} (g:α->β):∀l:List α,(l.map fun x=>[g x]).flatten=l.map g
 | []=>rfl
 |x::r=>by simp only[List.map_cons,List.flatten_cons,J9 g r,List.singleton_append]
theorem aum : ∀l:List aN,(vP l).length<=fA aN.sz l
 | []=>Nat.le_refl _
 |f::r=>by
  have h1:=aum r;have h2:=aN.dJ f;have h3:=dh aT.sz f.Funcs;unfold vP at*;simp only[List.map_cons,List.flatten_cons,List.length_append,Di,fA];omega
theorem take_len (l:List aN) (k:Nat):(((l.take k).map Ih).flatten).length<=fA aN.sz l:=by
 have h1:(vP (l.take k)).length<=fA aN.sz (l.take k):=aum _;have h2:∀(l:List aN) (k:Nat),fA aN.sz (l.take k)<=fA aN.sz l:=fun l=>by
  induction l with
  |nil=>intro k;simp[fA]
  |cons x r ih=>intro k;cases k with
   |zero=>simp[fA]
   |succ k=>have:=ih k;simp only[List.take_succ_cons,fA];omega
 exact Nat.le_trans h1 (h2 l k)
theorem ayH (f:aN) (k:Nat):((f.Funcs.take k).map fun x=>[dX.mk (jF f) x.Name x.bF]).flatten.length<=f.Funcs.length:=by
 rw[J9];simp;omega
theorem aun (l:List aN) (h:fA aN.sz l<=1048576):M.Bo l=some (vP l):=by
 have hl:=Nat.le_trans (dh aN.sz l) h;have inner:∀(a:List aN) (b c:Int) (f:aN) (alb:List dX),f∈l->alb.length<=1048576->M.lL a b c f.Funcs (f.Funcs.length:Int) f aA 0 alb=some (a,b,c,alb++Ih f):=fun a b c f alb hf ho=>by
  have hfs:=I8 h hf;have hn:M.oC f=some (jF f):=asz f hfs.1;have e:=amY (F:=M.lL a b c f.Funcs (f.Funcs.length:Int) f) (h:=fun out=>some (a,b,c,out)) (fun x=>[dX.mk (jF f) x.Name x.bF]) f.Funcs hfs.2.1 alb (fun g k out hk ho'=>by
   rw[M.lL];have ht:=ayH f k;have hc:=awv (a:=out.length) (b:=1) (by rw[ho',List.length_append];omega)
   simp only[af.aB,getD_lt hk,hn,Int.toNat_natCast,bf,Int.ofNat_lt,hk,decide_true,cond_true,List.length_cons,List.length_nil,Nat.zero_add,hc,Bool.true_and,Bool.and_true,df hk (dI hfs.2.1),Option.getD_some,Option.isSome_some]) (fun g out=>by rw[M.lL];simp)
  rw[e,J9];rfl
 have e:=amY (F:=fun g k out=>M.kH g l (l.length:Int) k out) (h:=fun out=>some out) Ih l hl [] (fun g k out hk ho=>by
  show M.kH (g+1) l (l.length:Int) (k:Int) out=_
  rw[M.kH];have ht:=take_len l k;have hin:=inner l (l.length:Int) (k:Int) l[k] out (List.getElem_mem hk) (by rw[ho];simp only[List.nil_append];omega)
  simp only[getD_lt hk,hin,Int.toNat_natCast,bf,Int.ofNat_lt,hk,decide_true,cond_true,Bool.true_and,Bool.and_true,df hk (dI hl)]) (fun g out=>by
  show M.kH (g+1) l (l.length:Int) (l.length:Int) out=_
  rw[M.kH];simp)
 have e':M.kH aA l (l.length:Int) 0 []=_:=e;unfold M.Bo;rw[e'];rfl
theorem auo {l:List aN} {w:dX} (h:w∈vP l):∃f∈l,∃x∈f.Funcs,w=dX.mk (jF f) x.Name x.bF:=by
 unfold vP at h;obtain ⟨q,hq,hw⟩:=List.mem_flatten.1 h;obtain ⟨f,hf,rfl⟩:=List.mem_map.1 hq;obtain ⟨x,hx,rfl⟩:=List.mem_map.1 hw;exact ⟨f,hf,x,hx,rfl⟩
theorem aBJ {c:ay} (hc:CSz c) (hE:qP c.bM=true) (hm:U4 c.Module=true):M.O7 c=some (acP c):=by
 have hL:=Nat.le_trans (dh dG.sz c.gu) hc.lifts;have hb:=aun c.bM hc.auk;unfold M.O7;rw[hb];simp only[Option.getD_some,Option.isSome_some,Bool.and_true,cond_true];unfold acP
 by_cases hlen:(vP c.bM).length=c.gu.length
 ·have e:=uQ (p:=fun k=>Dh c.Module ((vP c.bM).getD k dX.zero) (c.gu.getD k dG.zero)) (F:=M.wK (vP c.bM) c.gu (c.gu.length:Int) c) (e:=()) (b:=false) c.gu.length (by omega) (fun f k hk=>by
   have hk':k<(vP c.bM).length:=by omega
   rw[M.wK];obtain ⟨fc,hfc,x,hx,hw⟩:=auo (List.getElem_mem hk');have hsh:M.oW (vP c.bM)[k].shape=some ((MK (vP c.bM)[k].shape).1,(MK (vP c.bM)[k].shape).2.1):=by
    have hok:=Zy hE fc hfc x hx;have hs:=(I8 hc.auk hfc).2.2 x hx;rw[hw];exact ajM hs hok
   unfold Dh;simp only[af.aB,getD_lt hk,getD_lt hk',azL _ hc.mod hm,hsh,Int.toNat_natCast,bf,Int.ofNat_lt,hk,hk',decide_true,cond_true,Bool.true_and,Bool.and_true,Bool.true_or,df hk (dI hL),Option.getD_some,Option.isSome_some]
   cases (c.gu[k].bV==(vP c.bM)[k].ala)
   ·simp
   ·cases (c.gu[k].Func==(vP c.bM)[k].name)
    ·simp
    ·cases ha:acO c.Module c.gu[k].Core with
     |none=>simp
     |some j=>
      have hj:j<c.Module.bg.length:=ajK ha;simp only[getD_lt hj,hj,Int.toNat_natCast,bf,decide_true,Bool.not_true,Bool.false_or,Bool.or_false,Bool.true_and,Bool.true_or,Bool.and_true,cond_false,cond_true,rW]
      cases (c.Module.bg[j].Params==(MK (vP c.bM)[k].shape).1)<;>cases (c.Module.bg[j].Result==(MK (vP c.bM)[k].shape).2.1)<;>simp) (fun f=>by rw[M.wK];simp)
  rw[ahc (Dh c.Module) dX.zero dG.zero _ _ hlen] at e;rw[e,hlen];simp only[bne_self_eq_false,cond_false,beq_self_eq_true,Bool.and_true]
  cases pre (Dh c.Module) (vP c.bM) c.gu<;>rfl
 ·have h1:(((c.gu.length:Nat):Int) !=(((vP c.bM).length:Nat):Int))=true:=by rw[bne_iff_ne];omega
  have h2:((vP c.bM).length==c.gu.length)=false:=by rw[beq_eq_false_iff_ne];exact hlen
  rw[h1,h2];simp
theorem aC5 {c:ay} (hc:CSz c) (hE:qP c.ak=true) (hm:U4 c.Module=true):M.Ko c=some (aaS c):=by
 have hL:=Nat.le_trans (dh bK.sz c.dE) hc.aBH;have hb:=aun c.ak hc.Ig;unfold M.Ko;rw[hb];simp only[Option.getD_some,Option.isSome_some,Bool.and_true,cond_true];unfold aaS
 by_cases hlen:(vP c.ak).length=c.dE.length
 ·have e:=uQ (p:=fun k=>Ii c.Module ((vP c.ak).getD k dX.zero) (c.dE.getD k bK.zero)) (F:=M.tN (vP c.ak) c.dE (c.dE.length:Int) c) (e:=()) (b:=false) c.dE.length (by omega) (fun f k hk=>by
   have hk':k<(vP c.ak).length:=by omega
   rw[M.tN];obtain ⟨fc,hfc,x,hx,hw⟩:=auo (List.getElem_mem hk');have hsh:M.oW (vP c.ak)[k].shape=some ((MK (vP c.ak)[k].shape).1,(MK (vP c.ak)[k].shape).2.1):=by
    have hok:=Zy hE fc hfc x hx;have hs:=(I8 hc.Ig hfc).2.2 x hx;rw[hw];exact ajM hs hok
   unfold Ii;simp only[af.aB,getD_lt hk,getD_lt hk',axS _ hc.mod hm,hsh,Int.toNat_natCast,bf,Int.ofNat_lt,hk,hk',decide_true,cond_true,Bool.true_and,Bool.and_true,Bool.true_or,df hk (dI hL),Option.getD_some,Option.isSome_some]
   cases (c.dE[k].bV==(vP c.ak)[k].ala)
   ·simp
   ·cases (c.dE[k].Func==(vP c.ak)[k].name)
    ·simp
    ·cases ha:ML c.Module c.dE[k].Import with
     |none=>simp
     |some j=>
      have hj:j<c.Module.ak.length:=ajK ha;simp only[getD_lt hj,hj,Int.toNat_natCast,bf,decide_true,Bool.not_true,Bool.false_or,Bool.or_false,Bool.true_and,Bool.true_or,Bool.and_true,cond_false,cond_true,rW]
      cases (c.Module.ak[j].Params==(MK (vP c.ak)[k].shape).1)<;>cases (c.Module.ak[j].Result==(MK (vP c.ak)[k].shape).2.1)<;>simp) (fun f=>by rw[M.tN];simp)
  rw[ahc (Ii c.Module) dX.zero bK.zero _ _ hlen] at e;rw[e,hlen];simp only[bne_self_eq_false,cond_false,beq_self_eq_true,Bool.and_true]
  cases pre (Ii c.Module) (vP c.ak) c.dE<;>rfl
 ·have h1:(((c.dE.length:Nat):Int) !=(((vP c.ak).length:Nat):Int))=true:=by rw[bne_iff_ne];omega
  have h2:((vP c.ak).length==c.dE.length)=false:=by rw[beq_eq_false_iff_ne];exact hlen
  rw[h1,h2];simp
end M
namespace M
open Go.V (inB xG aA bU)
theorem aBK (l:List (List UInt8)) (v:List UInt8):(l.any fun y=>v==y)=l.any fun y=>y==v:=by
 congr 1;funext y;rw[Bool.eq_iff_iff];simp only[beq_iff_eq];exact eq_comm
theorem aBL {l:List aN} (h:fA aN.sz l<=1048576) (n:List UInt8):M.Gs l n=some (match l.findIdx? (fun f=>jF f==n) with
 |some j=>(l.getD j aN.zero,true)
 |none=>(aN.mk [] [] [] [] [],false)):=by
 have hl:=Nat.le_trans (dh aN.sz l) h;have e:=ik (p:=fun f:aN=>jF f==n) (F:=M.qw n l (l.length:Int) [] [] [] [] []) (e:=([],[],[],[],[])) (fun k=>(true,l.getD k.toNat aN.zero)) l (by omega) (fun f k hk=>by
  rw[M.qw];have hn:M.oC l[k]=some (jF l[k]):=asz _ (I8 h (List.getElem_mem hk)).1;simp only[getD_lt hk,hn,Int.toNat_natCast,bf,Int.ofNat_lt,hk,decide_true,cond_true,Bool.true_and,Bool.and_true,df hk (dI hl),Option.getD_some,Option.isSome_some]) (fun f=>by rw[M.qw];simp)
 unfold M.Gs;rw[e]
 cases l.findIdx? fun f=>jF f==n with
 |none=>rfl
 |some j=>simp only[Int.toNat_natCast]
theorem aup {l:List aN} (h:fA aN.sz l<=1048576) (n r:List UInt8):M.xN l n r=some (Bj l n r):=by
 have hl:=Nat.le_trans (dh aN.sz l) h;unfold M.xN Bj;rw[aBL h n]
 cases hj:l.findIdx? fun f=>jF f==n with
 |none=>
  have e:M.eG [] r=some false:=RD [] r (by simp)
  simp[e]
 |some j=>
  have hlt:j<l.length:=ajK hj;have hs:(l[j]).aU.length<=1048576:=by
   have h1:=(I8 h (List.getElem_mem hlt)).1;rw[aN.dJ] at h1;have:=dh List.length (l[j]).aU;omega
  simp only[getD_lt hlt,RD _ r hs,aBK,Option.getD_some,Option.isSome_some,Bool.true_or,Bool.true_and,Bool.and_true,cond_true]
theorem aBM {l:List aN} (h:fA aN.sz l<=1048576) (n:List UInt8):M.O8 l n=some (ixO (l.findIdx? fun f=>jF f==n)):=by
 have hl:=Nat.le_trans (dh aN.sz l) h;have e:=ik (p:=fun f:aN=>jF f==n) (F:=M.wL l n) (e:=()) (fun k=>k) l (by omega) (fun f k hk=>by
  rw[M.wL];have hn:M.jV l[k]=some (jF l[k]):=aei _ (I8 h (List.getElem_mem hk)).1;simp only[getD_lt hk,hn,Int.toNat_natCast,bf,Int.ofNat_lt,hk,decide_true,cond_true,Bool.true_and,Bool.and_true,df hk (dI hl),Option.getD_some,Option.isSome_some]) (fun f=>by rw[M.wL];simp)
 unfold M.O8 ixO;rw[e]
 cases l.findIdx? fun f=>jF f==n<;>rfl
theorem ayI {α E:Type} {p:α->Bool} {F:Nat->Int->Option (Bool⊕E)} {e:E} (a:List α) (ha:a.length<2^62)
 (step:∀f k,∀h:k<a.length,F (f+1) (k:Int)=bif p a[k] then some (.inl true) else F f ((k+1:Nat):Int)) (stop:∀f,F (f+1) (a.length:Int)=some (.inr e)):
 F aA 0=some (if a.any p then .inl true else .inr e):=by
 have:=Vp (F:=F) (n:=a.length) (res:=fun k=>some (if (a.drop k).any p then .inl true else .inr e)) ha (fun f k hk ih=>by
  rw[step f k hk,ih,auq p hk]
  cases p a[k]<;>simp) (fun f=>by rw[stop,List.drop_length];rfl)
 simpa using this
theorem azM {l:List aN} (h:fA aN.sz l<=1048576) (n r:List UInt8):M.JS l n r=some (Bj l n r):=by
 have hl:=Nat.le_trans (dh aN.sz l) h;unfold M.JS Bj;rw[aBM h n]
 cases hj:l.findIdx? fun f=>jF f==n with
 |none=>rfl
 |some j=>
  have hlt:j<l.length:=ajK hj;have hs:(l[j]).aU.length<=1048576:=by
   have h1:=(I8 h (List.getElem_mem hlt)).1;rw[aN.dJ] at h1;have:=dh List.length (l[j]).aU;omega
  have e0:decide ((j:Int)<0)=false:=by rw[decide_eq_false_iff_not];omega
  have e:=ayI (p:=fun y=>y==r) (F:=M.wM l r (j:Int)) (e:=()) (l[j]).aU (by omega) (fun f k hk=>by
   rw[M.wM];simp only[getD_lt hlt,getD_lt hk,Int.toNat_natCast,bf,Int.ofNat_lt,hk,hlt,decide_true,cond_true,Bool.true_and,Bool.and_true,df hk (dI hs)]) (fun f=>by
   rw[M.wM];simp only[getD_lt hlt,Int.toNat_natCast,bf,hlt,decide_true];simp)
  simp only[ixO,Option.getD_some,e0,cond_false,e,getD_lt hlt,Option.isSome_some,Bool.and_true,cond_true]
  cases (l[j]).aU.any fun y=>y==r<;>rfl
theorem aEM (n:Nat):decide ((12:Int)<((n:Nat):Int))= !decide (n<=12):=gtN n 12
theorem aEN (n:Nat):decide (((n:Nat):Int)<=12)=decide (n<=12):=by simp only[decide_eq_decide];omega
theorem azN {c:ay} (hc:CSz c) (hm:U4 c.Module=true):M.Dj c=some (FI c):=by
 have hb:=Nat.le_trans (dh aK.sz c.Builtins) hc.asy;have e:=yF (p:=Gp c) (F:=M.oD c.Builtins (c.Builtins.length:Int) c) (e:=c) (b:=false) c.Builtins (by omega) (fun f k hk=>by
  rw[M.oD];unfold Gp;simp only[getD_lt hk,aup hc.auk,aup hc.Ig,axS _ hc.mod hm,Int.toNat_natCast,bf,Int.ofNat_lt,hk,decide_true,cond_true,Bool.true_and,Bool.and_true,Bool.true_or,df hk (dI hb),Option.getD_some,Option.isSome_some]
  cases (decide ((1:Int)<=(c.Builtins[k]).Kind)&&decide ((c.Builtins[k]).Kind<=3))
  ·simp
  ·cases (Bj c.bM (c.Builtins[k]).bV (c.Builtins[k]).gm||((c.Builtins[k]).Kind==3&&Bj c.ak (c.Builtins[k]).bV (c.Builtins[k]).gm))
   ·simp
   ·cases ha:ML c.Module (c.Builtins[k]).Import with
    |none=>simp
    |some j=>
     have hj:j<c.Module.ak.length:=ajK ha;simp only[getD_lt hj,hj,Int.toNat_natCast,bf,decide_true,Bool.not_true,Bool.false_or,Bool.or_false,Bool.true_and,Bool.true_or,Bool.and_true,cond_false,cond_true,rW]
     cases ((c.Module.ak[j]).Params==1)<;>cases ((c.Module.ak[j]).Result==((c.Builtins[k]).Kind==3))<;>simp) (fun f=>by rw[M.oD];simp)
 unfold M.Dj FI;rw[e]
 cases c.Builtins.all (Gp c)
 ·simp
 ·simp only[if_true,aEN,Bool.and_true]
theorem azO {c:ay} (hc:CSz c):M.Ai c=some (FI c):=by
 have hb:=Nat.le_trans (dh aK.sz c.Builtins) hc.asy;have hml:=O6 hc.mod;have e:=yF (p:=Gp c) (F:=M.lW c) (e:=()) (b:=false) c.Builtins (by omega) (fun f k hk=>by
  rw[M.lW];unfold Gp;simp only[getD_lt hk,azM hc.auk,azM hc.Ig,axQ _ _ hml.1,Int.toNat_natCast,bf,Int.ofNat_lt,hk,decide_true,cond_true,Bool.true_and,Bool.and_true,Bool.true_or,df hk (dI hb),Option.getD_some,Option.isSome_some];have eq0:(bif (c.Builtins[k]).Kind==3 then Bj c.bM (c.Builtins[k]).bV (c.Builtins[k]).gm||Bj c.ak (c.Builtins[k]).bV (c.Builtins[k]).gm else Bj c.bM (c.Builtins[k]).bV (c.Builtins[k]).gm)=(Bj c.bM (c.Builtins[k]).bV (c.Builtins[k]).gm||((c.Builtins[k]).Kind==3&&Bj c.ak (c.Builtins[k]).bV (c.Builtins[k]).gm)):=by
   cases ((c.Builtins[k]).Kind==3)<;>simp
  rw[eq0]
  cases (decide ((1:Int)<=(c.Builtins[k]).Kind)&&decide ((c.Builtins[k]).Kind<=3))
  ·cases ((c.Builtins[k]).Kind==3)<;>simp
  ·cases (Bj c.bM (c.Builtins[k]).bV (c.Builtins[k]).gm||((c.Builtins[k]).Kind==3&&Bj c.ak (c.Builtins[k]).bV (c.Builtins[k]).gm))
   ·cases ((c.Builtins[k]).Kind==3)<;>simp
   ·cases ha:ML c.Module (c.Builtins[k]).Import with
    |none=>cases ((c.Builtins[k]).Kind==3)<;>simp[ixO]
    |some j=>
     have hj:j<c.Module.ak.length:=ajK ha;have e1:¬((j:Int)<0):=by omega
     have e0:decide ((j:Int)<0)=false:=by rw[decide_eq_false_iff_not];omega
     simp only[ixO,e0,getD_lt hj,hj,Int.toNat_natCast,bf,decide_true,Bool.not_true,Bool.false_or,Bool.or_false,Bool.true_and,Bool.true_or,Bool.and_true,cond_false,cond_true,rW]
     cases ((c.Module.ak[j]).Params==1)<;>cases (c.Module.ak[j]).Result<;>cases ((c.Builtins[k]).Kind==3)<;>simp[e1]) (fun f=>by rw[M.lW];simp)
 unfold M.Ai FI;rw[e,aEM]
 cases decide (c.Builtins.length<=12)
 ·rfl
 ·cases c.Builtins.all (Gp c)<;>rfl
theorem aBN {c:ay} (hc:CSz c):M.yG c=some (ahd c):=by
 have hlo:=Nat.le_trans (dh bK.sz c.dE) hc.aBH;have hbu:=Nat.le_trans (dh aK.sz c.Builtins) hc.asy;have e1:=amY (F:=M.kV c.dE (c.dE.length:Int) c) (h:=fun out=>some (c,out)) (fun x:bK=>[x.Import]) c.dE hlo [] (fun f k out hk ho=>by
  rw[M.kV];have hc:=awv (a:=out.length) (b:=1) (by rw[ho,J9];simp;omega)
  simp only[getD_lt hk,Int.toNat_natCast,bf,Int.ofNat_lt,hk,decide_true,cond_true,List.length_cons,List.length_nil,Nat.zero_add,hc,Bool.true_and,Bool.and_true,df hk (dI hlo)]) (fun f out=>by rw[M.kV];simp)
 have e2:=amY (F:=M.kW c.Builtins (c.Builtins.length:Int) c) (h:=fun out=>some (c,out)) (fun x:aK=>[x.Import]) c.Builtins hbu (c.dE.map bK.Import) (fun f k out hk ho=>by
  rw[M.kW];have hc:=awv (a:=out.length) (b:=1) (by rw[ho,J9];simp;omega)
  simp only[getD_lt hk,Int.toNat_natCast,bf,Int.ofNat_lt,hk,decide_true,cond_true,List.length_cons,List.length_nil,Nat.zero_add,hc,Bool.true_and,Bool.and_true,df hk (dI hbu)]) (fun f out=>by rw[M.kW];simp)
 rw[J9,List.nil_append] at e1;rw[J9] at e2;unfold M.yG;rw[e1];simp only[e2];have hd:=FK (c.dE.map bK.Import++c.Builtins.map aK.Import) (by
  simp only[List.length_append,List.length_map];have:=dh bK.sz c.dE;have:=dh aK.sz c.Builtins;have:=hc.both;omega)
 rw[hd];simp only[Option.getD_some,Option.isSome_some,Bool.and_true,cond_true];unfold ahd wordsOf
 congr 2
 rw[Bool.eq_iff_iff];simp only[beq_iff_eq];omega
theorem Vq {α:Type} (g:α->List UInt8) (i:List UInt8):∀(l:List α) (n:Int),l.foldl (fun n x=>bif g x==i then n+1 else n) n=n+(((l.map g).count i:Nat):Int)
 | [],n=>by simp
 |x::r,n=>by
  rw[List.foldl_cons,Vq g i r,List.map_cons,List.count_cons]
  cases (g x==i)<;>simp<;>omega
theorem aBO {c:ay} (hc:CSz c):M.Kq c=some (aeh c):=by
 have hlo:=Nat.le_trans (dh bK.sz c.dE) hc.aBH;have hbu:=Nat.le_trans (dh aK.sz c.Builtins) hc.asy;have him:=(O6 hc.mod).1;have in0:∀(i:Nat) (hi:i<c.Module.ak.length),M.iR c (i:Int) aA 0 0=some (c,(i:Int),(((c.dE.map bK.Import).count (c.Module.ak[i]).Name:Nat):Int)):=fun i hi=>by
  have e:=arG (F:=fun f k n=>M.iR c (i:Int) f n k) (g:=fun n (x:bK)=>bif x.Import==(c.Module.ak[i]).Name then n+1 else n) (h:=fun n=>(c,(i:Int),n)) c.dE (by omega) (fun k n=>0<=n /\ n<=(k:Int)) (fun f k n hk hI=>by
   have hw:Go.IntKind.wrap .i64 (n+1)=n+1:=wrap_i64 (by omega) (by omega)
   refine ⟨?_,by cases ((c.dE[k]).Import==(c.Module.ak[i]).Name)<;>simp<;>omega⟩
   show M.iR c (i:Int) (f+1) n (k:Int)=_
   rw[M.iR];simp only[getD_lt hk,getD_lt hi,Int.toNat_natCast,bf,Int.ofNat_lt,hk,hi,decide_true,cond_true,Bool.true_and,Bool.and_true,Bool.true_or,Bool.and_self,df hk (dI hlo),hw]) (fun f n hI=>by
   show M.iR c (i:Int) (f+1) n (c.dE.length:Int)=_
   rw[M.iR];simp) 0 (by simp)
  have e':M.iR c (i:Int) aA 0 0=_:=e;rw[e',Vq bK.Import,Int.zero_add]
 have in1:∀(i:Nat) (hi:i<c.Module.ak.length) (m:Nat),m<=1048576->M.iT c (i:Int) aA (m:Int) 0=some (c,(i:Int),(m:Int)+(((c.Builtins.map aK.Import).count (c.Module.ak[i]).Name:Nat):Int)):=fun i hi m hm=>by
  have e:=arG (F:=fun f k n=>M.iT c (i:Int) f n k) (g:=fun n (x:aK)=>bif x.Import==(c.Module.ak[i]).Name then n+1 else n) (h:=fun n=>(c,(i:Int),n)) c.Builtins (by omega) (fun k n=>0<=n /\ n<=(m:Int)+(k:Int)) (fun f k n hk hI=>by
   have hw:Go.IntKind.wrap .i64 (n+1)=n+1:=wrap_i64 (by omega) (by omega)
   refine ⟨?_,by cases ((c.Builtins[k]).Import==(c.Module.ak[i]).Name)<;>simp<;>omega⟩
   show M.iT c (i:Int) (f+1) n (k:Int)=_
   rw[M.iT];simp only[getD_lt hk,getD_lt hi,Int.toNat_natCast,bf,Int.ofNat_lt,hk,hi,decide_true,cond_true,Bool.true_and,Bool.and_true,Bool.true_or,Bool.and_self,df hk (dI hbu),hw]) (fun f n hI=>by
   show M.iT c (i:Int) (f+1) n (c.Builtins.length:Int)=_
   rw[M.iT];simp) (m:Int) ⟨by omega,by simp⟩
  have e':M.iT c (i:Int) aA (m:Int) 0=_:=e;rw[e',Vq aK.Import]
 have e:=yF (p:=fun x:aF=>(wordsOf c).count x.Name==1) (F:=fun f k=>M.kJ f c k) (e:=()) (b:=false) c.Module.ak (by omega) (fun f k hk=>by
  show M.kJ (f+1) c (k:Int)=_
  rw[M.kJ];have hcnt:(c.dE.map bK.Import).count (c.Module.ak[k]).Name<=1048576:=Nat.le_trans List.count_le_length (by rw[List.length_map];exact hlo)
  simp only[Int.ofNat_lt,hk,decide_true,cond_true,in0 k hk,in1 k hk _ hcnt,df hk (dI him)];have eb:(((((c.dE.map bK.Import).count (c.Module.ak[k]).Name:Nat):Int)+(((c.Builtins.map aK.Import).count (c.Module.ak[k]).Name:Nat):Int)) !=1)= !((wordsOf c).count (c.Module.ak[k]).Name==1):=by
   unfold wordsOf;rw[List.count_append,rW,Bool.eq_iff_iff];simp only[Bool.not_eq_true',beq_eq_false_iff_ne,ne_eq];omega
  rw[eb]
  cases ((wordsOf c).count (c.Module.ak[k]).Name==1)<;>rfl) (fun f=>by
  show M.kJ (f+1) c (c.Module.ak.length:Int)=_
  rw[M.kJ];simp)
 have e':M.kJ aA c 0=_:=e;unfold M.Kq aeh;rw[e',List.all_map];have:(c.Module.ak.all ((fun i=>(wordsOf c).count i==1)∘aF.Name))=c.Module.ak.all fun x=>(wordsOf c).count x.Name==1:=rfl
 rw[this]
 cases c.Module.ak.all fun x=>(wordsOf c).count x.Name==1<;>rfl
end M
namespace M
open Go.V (inB xG aA bU)
def azP (c:ay):Bool:=decide ((1:Int)<=c.Encoding)&&decide (c.Encoding<=(3:Int))
def aww (c:ay):Bool:=(decide ((0:Int)<=c.kz)&&decide (c.kz<=(1024:Int)))&& !decide (Go.IntKind.wrap Go.IntKind.i64 (c.Module.ja*256)<c.kz)
noncomputable def awx (m:aI):Bool:=(aur m).2.2==0
theorem anh {m:aI} (h:awx m=true):U4 m=true:=by
 unfold awx aur at h
 cases hm:U4 m
 ·rw[hm] at h;simp at h
 ·rfl
noncomputable def ani (c:ay):List UInt8:=
 bif !fO c.Name then [110,97,109,101]
 else bif !Vr c.Version then [118,101,114,115,105,111,110]
 else bif !qP c.ak then [105,109,112,111,114,116,115]
 else bif !qP c.bM then [101,120,112,111,114,116,115]
 else bif !azP c then [101,110,99,111,100,105,110,103]
 else bif !awx c.Module then [109,111,100,117,108,101]
 else bif !aww c then [114,101,115,101,114,118,101]
 else bif !acP c then [108,105,102,116,115]
 else bif !aaS c then [108,111,119,101,114,115]
 else bif !FI c then [98,117,105,108,116,105,110,115]
 else bif !ahd c then [119,111,114,100,115] else []
theorem aD4 (c:ay):((!(decide ((0:Int)<=c.kz)&&decide (c.kz<=(1024:Int))))||decide (Go.IntKind.wrap Go.IntKind.i64 (c.Module.ja*256)<c.kz))= !aww c:=by
 unfold aww
 cases (decide ((0:Int)<=c.kz)&&decide (c.kz<=(1024:Int)))<;>cases decide (Go.IntKind.wrap Go.IntKind.i64 (c.Module.ja*256)<c.kz)<;>rfl
theorem aD5 (c:ay):(!(decide ((0:Int)<=c.kz)&&decide (c.kz<=(bif decide (Go.IntKind.wrap Go.IntKind.i64 (c.Module.ja*256)<(1024:Int)) then Go.IntKind.wrap Go.IntKind.i64 (c.Module.ja*256) else (1024:Int)))))= !aww c:=by
 unfold aww
 generalize Go.IntKind.wrap Go.IntKind.i64 (c.Module.ja*256)=w
 congr 1
 rw[Bool.eq_iff_iff]
 by_cases h:w<1024
 ·rw[decide_eq_true h]
  simp only[cond_true,Bool.and_eq_true,decide_eq_true_eq,Bool.not_eq_true',decide_eq_false_iff_not];omega
 ·rw[decide_eq_false h]
  simp only[cond_false,Bool.and_eq_true,decide_eq_true_eq,Bool.not_eq_true',decide_eq_false_iff_not];omega
theorem aBP {c:ay} (hc:CSz c):M.ES c=some (ani c):=by
 unfold M.ES ani;simp only[Gt _ hc.name,arH,axT _ hc.Ig,axT _ hc.auk,aD6 _ hc.mod,Option.getD_some,Option.isSome_some,Bool.and_true,Bool.true_and,Bool.and_self,cond_true,aD4]
 cases fO c.Name
 ·rfl
 cases Vr c.Version
 ·rfl
 cases hI:qP c.ak
 ·rfl
 cases hE:qP c.bM
 ·rfl
 change (bif !azP c then _ else bif !awx c.Module then _ else _)=_
 cases azP c
 ·rfl
 cases hM:awx c.Module
 ·rfl
 cases aww c
 ·rfl
 simp only[aBI hc hE,aC4 hc hI,azO hc,aBO hc,Option.getD_some,Option.isSome_some,Bool.and_true,Bool.true_and,Bool.and_self,cond_true,Bool.not_true,cond_false]
 cases acP c
 ·rfl
 cases hlo:aaS c
 ·rfl
 cases hb:FI c
 ·rfl
 rw[aws (anh hM) hlo hb]
 cases aeh c<;>rfl
theorem aBQ {c:ay} (hc:CSz c):M.qj c=some (ani c):=by
 unfold M.qj ani;simp only[Gu _ hc.name,arI _ hc.ver,axU _ hc.Ig,axU _ hc.auk,aD7 _ hc.mod,Option.getD_some,Option.isSome_some,Bool.and_true,Bool.true_and,Bool.and_self,cond_true,aD5]
 cases fO c.Name
 ·rfl
 cases Vr c.Version
 ·rfl
 cases hI:qP c.ak
 ·rfl
 cases hE:qP c.bM
 ·rfl
 change (bif !azP c then _ else bif !awx c.Module then _ else _)=_
 cases azP c
 ·rfl
 cases hM:awx c.Module
 ·rfl
 cases aww c
 ·rfl
 have hm:=anh hM;simp only[aBJ hc hE hm,aC5 hc hI hm,azN hc hm,aBN hc,Option.getD_some,Option.isSome_some,Bool.and_true,Bool.true_and,Bool.and_self,cond_true,Bool.not_true,cond_false]
 cases acP c
 ·rfl
 cases aaS c
 ·rfl
 cases FI c
 ·rfl
 cases ahd c<;>rfl
theorem aEY {c:ay} (hc:CSz c):M.acA c=some (ani c==[]):=by
 unfold M.acA;rw[aBP hc];rfl
theorem aEZ {c:ay} (hc:CSz c):M.acB c=some (ani c==[]):=by
 unfold M.acB;rw[aBQ hc];rfl
theorem aI.eta (m:aI):aI.mk m.ja m.ak m.bg=m:=rfl
theorem ay.eta (c:ay):ay.mk c.Name c.Version c.ak c.bM c.Encoding c.kz c.Module c.gu c.dE c.Builtins=c:=rfl
def aEO (c:ay) (w:List UInt8):aK×Bool:=match c.Builtins.findIdx? (fun b=>b.Import==w) with
 |some j=>(c.Builtins.getD j aK.zero,true)
 |none=>(aK.mk 0 [] [] [],false)
theorem aFK {c:ay} (hc:CSz c) (w:List UInt8):M.avf c w=some (aEO c w):=by
 have hb:=Nat.le_trans (dh aK.sz c.Builtins) hc.asy;have e:=ik (p:=fun b:aK=>b.Import==w) (F:=M.Y1 w c.Builtins (c.Builtins.length:Int) (aK.mk 0 [] [] [])) (e:=aK.mk 0 [] [] []) (fun k=>(true,c.Builtins.getD k.toNat aK.zero)) c.Builtins (by omega) (fun f k hk=>by
  rw[M.Y1];simp only[getD_lt hk,Int.toNat_natCast,bf,Int.ofNat_lt,hk,decide_true,cond_true,Bool.true_and,Bool.and_true,df hk (dI hb)]) (fun f=>by rw[M.Y1];simp)
 unfold M.avf aEO;rw[e]
 cases c.Builtins.findIdx? fun b=>b.Import==w with
 |none=>rfl
 |some j=>simp only[Int.toNat_natCast]
theorem aFL {c:ay} (hc:CSz c) (w:List UInt8):M.atz c w=some (aEO c w):=by
 have hb:=Nat.le_trans (dh aK.sz c.Builtins) hc.asy;have e:=ik (p:=fun b:aK=>b.Import==w) (F:=M.UX c w (aK.mk 0 [] [] [])) (e:=aK.mk 0 [] [] []) (fun k=>(true,c.Builtins.getD k.toNat aK.zero)) c.Builtins (by omega) (fun f k hk=>by
  rw[M.UX];simp only[getD_lt hk,Int.toNat_natCast,bf,Int.ofNat_lt,hk,decide_true,cond_true,Bool.true_and,Bool.and_true,Bool.and_self,df hk (dI hb)]) (fun f=>by rw[M.UX];simp)
 unfold M.atz aEO;rw[e]
 cases c.Builtins.findIdx? fun b=>b.Import==w with
 |none=>rfl
 |some j=>simp only[Int.toNat_natCast]
theorem aE4 {c:ay} (hc:CSz c) (w:List UInt8):(aEO c w).1.sz<=1048576:=by
 unfold aEO
 cases hj:c.Builtins.findIdx? fun b=>b.Import==w with
 |none=>exact (by decide:(aK.mk 0 [] [] []).sz<=1048576)
 |some j=>
  have hlt:j<c.Builtins.length:=ajK hj;have:=dY aK.sz c.Builtins _ (List.getElem_mem hlt);have:=hc.asy;simp only[getD_lt hlt];omega
def aFX (c:ay) (w:List UInt8) (b:Bool):aK×Bool:=bif !b then (aK.mk 0 [] [] [],false) else aEO c w
theorem aFM {c:ay} (hc:CSz c) (w:List UInt8):M.avg c w=some (aFX c w (ani c==[])):=by
 unfold M.avg aFX;simp only[aEZ hc,aFK hc,Option.getD_some,Option.isSome_some,Bool.and_true,Bool.and_self,cond_true]
 cases (ani c==[])<;>rfl
theorem aFN {c:ay} (hc:CSz c) (w:List UInt8):M.avd c w=some (aFX c w (ani c==[])):=by
 unfold M.avd aFX;simp only[aEY hc,aFL hc,Option.getD_some,Option.isSome_some,Bool.and_true,Bool.and_self,cond_true]
 cases (ani c==[])<;>rfl
theorem aE5 {c:ay} (hc:CSz c) (w:List UInt8) (b:Bool):(aFX c w b).1.sz<=1048576:=by
 unfold aFX
 cases b
 ·simp only[Bool.not_false,cond_true];decide
 ·exact aE4 hc w
theorem aDF (x:ay) (w:List UInt8) (hx:x.Ok):M.awT x w=some true:=by
 unfold M.awT
 by_cases hw:(1048576:Int)<((w.length:Nat):Int)
 ·rw[decide_eq_true hw];rfl
 rw[decide_eq_false hw,cond_false,asA x 1048576 hx (by omega) (by omega)]
 by_cases h1:(x.sz:Int)<=1048576
 ·have h:x.sz<=1048576:=by omega
  have n1:¬(1048576-(x.sz:Int)<0):=by omega
  have hc:=CSz.of h;rw[if_pos h1];simp only[asB x h,aI.eta,ay.eta,aFM hc,aFN hc,awM _ (aE5 hc w _),asC x h,Option.getD_some,Option.isSome_some,n1,decide_false,cond_false,Bool.and_true,Bool.and_self,Bool.true_and,cond_true,beq_self_eq_true,Bool.not_true,Bool.or_self,Bool.or_false]
 ·rw[if_neg h1];simp
end M
