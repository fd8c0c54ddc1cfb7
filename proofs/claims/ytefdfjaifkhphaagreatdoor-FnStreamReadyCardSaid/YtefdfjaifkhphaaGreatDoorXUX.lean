/-
  STREAMS that are drawn: they are small.
-/
import Derived.Test.YtefdfjaifkhphaaGreatDoorXUW
set_option linter.unusedVariables false
set_option linter.unusedSimpArgs false
namespace M
open Go.V (inB qg aP bG)
structure Hg (s:ah):Prop where
 r0:0<=s.Room
 r6:s.Room<=6
 len:(s.Buffer.length:Int)<=s.Room
 ty:s.aO.sz<=100
 vals:∀v∈s.Buffer,v.sz<=5
theorem aea : ∀(l:List af),(∀v∈l,v.sz<=5)->lI af.sz l<=6*l.length
 | [],_=>by simp[lI]
 |v::r,h=>by
  have h1:=h v (by simp)
  have h2:=aea r fun x hx=>h x (by simp[hx])
  simp only[lI,List.length_cons];omega
theorem Hg.buf {s:ah} (h:Hg s):lI af.sz s.Buffer<=36:=by
 have:=aea s.Buffer h.vals;have:=h.len;have:=h.r6;omega
theorem Hg.sz {s:ah} (h:Hg s):s.sz<=136:=by
 rw[ah.jO];have:=h.buf;have:=h.ty;omega
theorem ahA {s:ah} (h:Hg s):Hg (shP s).2:=by
 unfold shP
 cases s.Shut<;>cases ((s.bu&& !s.Gone)&&(s.Put==0))<;>exact ⟨h.r0,h.r6,h.len,h.ty,h.vals⟩
theorem ahB {s:ah} (h:Hg s):Hg (lvP s).2:=by
 unfold lvP
 cases s.Gone
 ·exact ⟨h.r0,h.r6,by simpa using h.r0,h.ty,by simp⟩
 ·exact h
theorem ahC {s:ah} (h:Hg s) (m:Int):Hg (V3 s m).2.1:=by
 unfold V3;have hl:=h.len
 cases s.Gone
 ·cases (((s.Buffer.length:Int)==0)&&s.Shut)
  ·exact ⟨h.r0,h.r6,by simp only[List.length_drop,cond_false];omega,h.ty,fun v hv=>h.vals v (List.mem_of_mem_drop hv)⟩
  ·exact h
 ·exact h
theorem ahD {s:ah} (h:Hg s) (l:List af) (hl:∀v∈l,v.sz<=5):Hg (Qr s l).2.2:=by
 unfold Qr;have h1:=h.len;have h6:=h.r6
 cases (decide ((8:Int)<(l.length:Int))||decide (Hq s<Go.IntKind.wrap .i64 (s.Put+(l.length:Int))))<;>cases s.Shut<;>cases s.Gone<;>first
  |exact h
  |exact ⟨h.r0,h.r6,by simp only[cond_false,List.length_append,List.length_take];unfold wV;omega,h.ty,fun v hv=>by
    simp only[cond_false,List.mem_append] at hv
    rcases hv with hv |hv
    ·exact h.vals v hv
    ·exact hl v (List.mem_of_mem_take hv)⟩
theorem PV {s:ak} {m:Int} (h:CX s m) (hm:m<=1000000000000) (l:List Int) (h1:2<=l.length) (h2:l.length<=200):∃v s',M.bU l s=some (v,s') /\ CX s' (m+1) /\ v∈l:=by
 obtain ⟨v,s',e,h',h3,h4⟩:=nJ h hm (l.length:Int) (by omega) (by omega)
 obtain ⟨k,rfl⟩:=Int.eq_ofNat_of_zero_le h3;have hk:k<l.length:=by omega
 have hin:inB (k:Int) l.length=true:=by rw[dM];simpa using hk
 unfold M.bU;simp only[e,Option.getD_some,Option.isSome_some,hin,Int.toNat_natCast,getD_lt hk,Bool.and_self,cond_true];exact ⟨l[k],s',rfl,h',List.getElem_mem hk⟩
theorem aeb {k:Int} (h:k∈[(9:Int),9,3,11,2]):MM (ae.mk k [] [] [])=true:=by
 simp only[List.mem_cons,List.not_mem_nil,or_false] at h
 rcases h with rfl |rfl |rfl |rfl |rfl<;>decide
end M
namespace M
open Go.V (inB qg aP bG)
theorem aec (a b:Int):(af.mk a b [] []).sz<=5:=by
 have:(af.mk a b [] []).sz=0:=by rw[af.jO];rfl
 omega
theorem ahE (a b:Int) (x:List UInt8) (h:x.length<=5):(af.mk a b x []).sz<=5:=by
 have:(af.mk a b x []).sz=x.length:=by rw[af.jO];rfl
 omega
theorem acY (t:ae) {s:ak} {m:Int} (h:CX s m) (hm:m<=1000000000000):∃v s',M.En t s=some (v,s') /\ CX s' (m+1) /\ v.sz<=5:=by
 unfold M.En
 cases h1:(t.Kind==11)
 ·cases h2:(t.Kind==2)
  ·obtain ⟨v,s',e,g1, -, -⟩:=nJ h hm 200 (by omega) (by omega)
   simp only[cond_false,e,Option.isSome_some,Option.getD_some,Bool.and_self,cond_true];exact ⟨_,_,rfl,g1,aec _ _⟩
  ·obtain ⟨v,s',e,g1, -, -⟩:=nJ h hm 2 (by omega) (by omega)
   simp only[cond_false,e,Option.isSome_some,Option.getD_some,Bool.and_self,cond_true];exact ⟨_,_,rfl,g1,aec _ _⟩
 ·obtain ⟨v,s',e,g1,g2⟩:=Yw h hm [[],[(97:UInt8)],[(104:UInt8),(101:UInt8),(108:UInt8),(108:UInt8),(111:UInt8)]] 5 (by decide) (by decide) (by decide)
  simp only[cond_true,e,Option.isSome_some,Option.getD_some,Bool.and_self];exact ⟨_,_,rfl,g1,ahE _ _ _ g2⟩
theorem Xr (t:ae):∀(k f:Nat) (s:ak) (m:Int) (out:List af),CX s m->m+(k:Int)<=100000000010->k<f->k<=3->out.length+k<=3->(∀v∈out,v.sz<=5)->
 ∃s' l,M.pq f (k:Int) s t out=some (s'.code,s'.at_,s'.seed,l) /\ CX s' (m+(k:Int)) /\ l.length<=3 /\ ∀v∈l,v.sz<=5
 |k,0,s,m,out,_,_,h,_,_,_=>by omega
 |0,f+1,s,m,out,h,hm,_,_,hl,hv=>by
  rw[M.pq];exact ⟨s,out,by simp,by simpa using h,by omega,hv⟩
 |k+1,f+1,s,m,out,h,hm,hf,hk,hl,hv=>by
  obtain ⟨v,s1,e,h1,hsz⟩:=acY t h (by omega)
  rw[M.pq];have hd:decide ((0:Int)<((k+1:Nat):Int))=true:=by rw[decide_eq_true_eq];omega
  have hc:decide (out.length+([v]:List af).length<=1073741824)=true:=by rw[decide_eq_true_eq];simp only[List.length_cons,List.length_nil];omega
  have hw:Go.IntKind.wrap .i64 (((k+1:Nat):Int)-1)=(k:Int):=(wrap_i64 (n:=((k+1:Nat):Int)-1) (by omega) (by omega)).trans (by omega)
  obtain ⟨s',l,e2,h2,h3,h4⟩:=Xr t k f s1 (m+1) (out++[v]) h1 (by omega) (by omega) (by omega) (by rw[List.length_append];simp only[List.length_cons,List.length_nil];omega) (fun x hx=>by
   rcases List.mem_append.1 hx with hx |hx
   ·exact hv x hx
   ·have:x=v:=by simpa using hx
    rw[this];exact hsz)
  refine ⟨s',l, ?_,h2.up (by omega),h3,h4⟩
  simp only[hd,cond_true,ae.bM,af.bM,e,Option.getD_some,Option.isSome_some,hc,hw,Bool.and_self,e2]
theorem aa2 (t:ae) {s:ak} {m:Int} (h:CX s m) (hm:m<=10000000000):∃l s',M.rq t s=some (l,s') /\ CX s' (m+5) /\ l.length<=3 /\ ∀v∈l,v.sz<=5:=by
 obtain ⟨n,s1,e,h1,hn0,hn4⟩:=nJ h (by omega) 4 (by omega) (by omega)
 obtain ⟨k,rfl⟩:=Int.eq_ofNat_of_zero_le hn0;obtain ⟨s',l,e2,h2,h3,h4⟩:=Xr t k aP s1 (m+1) [] h1 (by omega) (by have:=bG;omega) (by omega) (by simp;omega) (by simp)
 unfold M.rq;simp only[e,Option.getD_some,ae.bM,e2,Option.isSome_some,Bool.and_self,cond_true];exact ⟨l,s',rfl,h2.up (by omega),h3,h4⟩
theorem shut1 (x:ah):M.uo x.aO.Kind x.aO.Name x.aO.aQ x.aO.Kids x.Room x.bu x.Put x.qM x.Shut x.Gone x.Buffer=(if (shP x).1=0 then none else some ((0:Int),[],(0:Int),false,(0:Int),(0:Int),false,false,(shP x).1,x.Buffer,[],[],[])):=by
 unfold M.uo shP
 cases x.Shut
 ·cases ((x.bu&& !x.Gone)&&(x.Put==0))
  ·rfl
  ·rfl
 ·rfl
theorem shut2 (x:ah):M.uu x.aO.Kind x.aO.Name x.aO.aQ x.aO.Kids x.Room x.bu x.Put x.qM x.Shut x.Gone x.Buffer=(if (shP x).1=0 then some (x.aO.Kind,x.aO.Name,x.aO.aQ,x.aO.Kids,x.Room,x.bu,x.Put,x.qM,true,x.Gone,(0:Int),x.Buffer) else none):=by
 unfold M.uu shP
 cases x.Shut
 ·cases ((x.bu&& !x.Gone)&&(x.Put==0))
  ·rfl
  ·rfl
 ·rfl
theorem leave1 (x:ah):M.qZ x.aO.Kind x.aO.Name x.aO.aQ x.aO.Kids x.Room x.bu x.Put x.qM x.Shut x.Gone x.Buffer=(if (lvP x).1=0 then none else some ((0:Int),[],(0:Int),false,(0:Int),(0:Int),false,false,(lvP x).1,x.Buffer,[],[],[])):=by
 unfold M.qZ lvP
 cases x.Gone<;>rfl
theorem agy (x:ah):M.rf x.aO.Kind x.aO.Name x.aO.aQ x.aO.Kids x.Room x.bu x.Put x.qM x.Shut x.Gone x.Buffer=(if (lvP x).1=0 then some (x.aO.Kind,x.aO.Name,x.aO.aQ,x.aO.Kids,x.Room,x.bu,x.Put,x.qM,x.Shut,true,(0:Int),x.Buffer,[]) else none):=by
 unfold M.rf lvP
 cases x.Gone<;>rfl
end M
namespace M
open Go.V (inB qg aP bG)
theorem ahF (x:ah) (m:Int):M.pY x.aO.Kind x.aO.Name x.aO.aQ x.aO.Kids x.Room x.bu x.Put x.qM x.Shut x.Gone m x.Buffer=(if (V3 x m).1=0 then none else some ((0:Int),[],(0:Int),false,(0:Int),(0:Int),false,false,(V3 x m).1,x.Buffer,[],[],[],[])):=by
 unfold M.pY V3
 cases x.Gone
 ·cases (((x.Buffer.length:Int)==0)&&x.Shut)<;>rfl
 ·rfl
theorem ahG (x:ah) (m:Int) (hm:1<=m) (hb:lI af.sz x.Buffer<=1048576):M.uw x m=(if (V3 x m).1=0 then some (x.aO.Kind,x.aO.Name,x.aO.aQ,x.aO.Kids,x.Room,x.bu,(V3 x m).2.1.Put,(V3 x m).2.1.qM,(V3 x m).2.1.Shut,(V3 x m).2.1.Gone,(0:Int),(V3 x m).2.1.Buffer,(V3 x m).2.2) else none):=by
 unfold M.uw V3;have hp:=Dv af.sz (jW x m) x.Buffer;have e1:=abR x m hm;have e2:=XU (Ae x m) (Nat.le_refl _);have e3:=abS (Ae x m);have e4:=KQ (x.Buffer.take (jW x m)) (by omega)
 have e5:=KQ (x.Buffer.drop (jW x m)) (by omega)
 have e6:List.drop (Int.toNat 0) (List.take (jW x m) x.Buffer)=List.take (jW x m) x.Buffer:=rfl;simp only[e1,e2,e3,e4,e5,e6,Option.isSome_some,Option.getD_some,Int.toNat_natCast,List.take_length,cond_true,Bool.true_and,Bool.and_true]
 cases x.Gone<;>cases (((x.Buffer.length:Int)==0)&&x.Shut)<;>rfl
theorem agz (x:ah) (l:List af):M.nZ x.aO.Kind x.aO.Name x.aO.aQ x.aO.Kids x.Room x.bu x.Put x.qM x.Shut x.Gone l x.Buffer=(if (Qr x l).2.1=0 then none else some ((0:Int),[],(0:Int),false,(0:Int),(0:Int),false,false,(0:Int),(Qr x l).2.1,x.Buffer,[],[],[])):=by
 unfold M.nZ Qr;have e0:M.iT (M.ah.mk (M.ae.mk x.aO.Kind x.aO.Name x.aO.aQ x.aO.Kids) x.Room x.bu x.Buffer x.Put x.qM x.Shut x.Gone)=some (Hq x):=adE _;simp only[e0,Option.getD_some,Option.isSome_some,Bool.true_or,Bool.and_self,cond_true]
 cases (decide ((8:Int)<(l.length:Int))||decide (Hq x<Go.IntKind.wrap .i64 (x.Put+(l.length:Int))))
 ·cases x.Shut
  ·cases x.Gone
   ·simp only[cond_false,if_true]
    rw[Bool.cond_self]
   ·rfl
  ·rfl
 ·rfl
theorem agA (x:ah) (l:List af) (hs:x.sz<=1048576) (hl:lI af.sz l<=1048576) (h1:0<=x.Room) (h2:x.Room<=6) (hb:(x.Buffer.length:Int)<=x.Room):
 M.ru x l=(if (Qr x l).2.1=0 then some (x.aO.Kind,x.aO.Name,x.aO.aQ,x.aO.Kids,x.Room,x.bu,(Qr x l).2.2.Put,(Qr x l).2.2.qM,(Qr x l).2.2.Shut,(Qr x l).2.2.Gone,(Qr x l).1,(0:Int),(Qr x l).2.2.Buffer) else none):=by
 unfold M.ru Qr;have hp:=Dv af.sz (wV x l) l;have hlen:=lC af.sz l;have e0:=KQ x.Buffer (ah.EW hs);have e1:=KQ (l.take (wV x l)) (by omega)
 have e2:=abS (acH x l);have e6:List.drop (Int.toNat 0) (List.take (wV x l) l)=List.take (wV x l) l:=rfl;have e3:=yX (a:=x.Buffer.length) (b:=(l.take (wV x l)).length) (by rw[List.length_take];have:=ah.Yr hs;omega)
 simp only[ah.bM,adE,adF h1 h2 hb,e0,e1,e2,e3,e6,Option.getD_some,Option.isSome_some,Int.toNat_natCast,Bool.true_or,Bool.and_self,cond_true]
 cases (decide ((8:Int)<(l.length:Int))||decide (Hq x<Go.IntKind.wrap .i64 (x.Put+(l.length:Int))))<;>cases x.Shut<;>cases x.Gone<;>rfl
theorem aed (x:ah) (m:Int):(V3 x m).2.1.aO=x.aO /\ (V3 x m).2.1.Room=x.Room /\ (V3 x m).2.1.bu=x.bu:=by
 unfold V3;cases x.Gone<;>cases (((x.Buffer.length:Int)==0)&&x.Shut)<;>exact ⟨rfl,rfl,rfl⟩
theorem aee (x:ah) (l:List af):(Qr x l).2.2.aO=x.aO /\ (Qr x l).2.2.Room=x.Room /\ (Qr x l).2.2.bu=x.bu:=by
 unfold Qr
 cases (decide ((8:Int)<(l.length:Int))||decide (Hq x<Go.IntKind.wrap .i64 (x.Put+(l.length:Int))))<;>cases x.Shut<;>cases x.Gone<;>exact ⟨rfl,rfl,rfl⟩
theorem ED {R:Type} {a b:Option R} {r:R} (h:a=some r):Go.V.orE a b=some r:=by rw[h];rfl
theorem Oe {R:Type} {a b:Option R} {r:R} (h:a=none) (h2:b=some r):Go.V.orE a b=some r:=by rw[h,h2];rfl
abbrev ahH := (List UInt8)×Int×Int×Int×(List UInt8)×Int×Bool×Int×Int×Bool×Bool×Int×(List UInt8)×(List (List UInt8))×(List M.ae)×Int×Bool×Int×Int×Bool×Bool×(List (List UInt8))×(List M.ae)×(List M.af)×(List M.af)
def afu (s:ak) (x:ah):ahH:=(s.code,s.at_,s.seed,0,[],0,false,0,0,false,false,x.aO.Kind,x.aO.Name,x.aO.aQ,x.aO.Kids,x.Room,x.bu,x.Put,x.qM,x.Shut,x.Gone,[],[],[],x.Buffer)
noncomputable def dL (tk:Int) (f:Nat) (k:Int) (s:ak) (x:ah):Option ahH:=M.dm 0 [] 0 false 0 0 false false tk [] [] [] [] [] [] f k s x.aO.Kind x.aO.Name x.aO.aQ x.aO.Kids x.Room x.bu x.Put x.qM x.Shut x.Gone x.Buffer
theorem PW (tk:Int):∀(k f:Nat) (s:ak) (m:Int) (x:ah),CX s m->m+10*(k:Int)<=10000000000->k<f->k<=8->Hg x->
 ∃s' x',dL tk f (k:Int) s x=some (afu s' x') /\ Hg x' /\ CX s' (m+10*(k:Int))
 |k,0,s,m,x,_,_,h,_,_=>by omega
 |0,f+1,s,m,x,h,hm,_,_,hd=>by
  refine ⟨s,x, ?_,hd,by simpa using h⟩
  unfold dL;rw[M.dm]
  rfl
 |k+1,f+1,s,m,x,h,hm,hf,hk,hd=>by
  have hc:decide ((0:Int)<((k+1:Nat):Int))=true:=by rw[decide_eq_true_eq];omega
  have hw:Go.IntKind.wrap .i64 (((k+1:Nat):Int)-1)=(k:Int):=(wrap_i64 (n:=((k+1:Nat):Int)-1) (by omega) (by omega)).trans (by omega)
  obtain ⟨v,s1,e1,h1,hv0,hv8⟩:=nJ h (by omega) 8 (by omega) (by omega)
  have go:∀(s2:ak) (x2:ah),CX s2 (m+10)->Hg x2->∃s' x',dL tk f (k:Int) s2 x2=some (afu s' x') /\ Hg x' /\ CX s' (m+10*((k+1:Nat):Int)):=fun s2 x2 g1 g2=>by
   obtain ⟨s',x',q1,q2,q3⟩:=PW tk k f s2 (m+10) x2 g1 (by omega) (by omega) (by omega) g2
   exact ⟨s',x',q1,q2,q3.up (by omega)⟩
  unfold dL;rw[M.dm];simp only[hc,cond_true,e1,Option.getD_some,Option.isSome_some,Bool.and_self,Bool.true_and,Bool.true_or,hw]
  cases hv:(v==(0:Int))
  ·cases hv1:(v==(1:Int))
   ·cases hv2:(bif (v==(2:Int)) then (v==(2:Int)) else (v==(3:Int)))
    ·
     simp only[cond_false];obtain ⟨l,s2,e2,h2,hl3,hlv⟩:=aa2 (ae.mk tk [] [] []) h1 (by omega)
     have hls:lI af.sz l<=1048576:=by have:=aea l hlv;omega
     have w1:=agz x l;have w2:=agA x l (by have:=hd.sz;omega) hls hd.r0 hd.r6 hd.len
     have hx:ah.mk (ae.mk x.aO.Kind x.aO.Name x.aO.aQ x.aO.Kids) x.Room x.bu x.Buffer x.Put x.qM x.Shut x.Gone=x:=by rw[ae.eta]
     obtain ⟨r1,r2,r3⟩:=aee x l
     by_cases hcode:(Qr x l).2.1=0
     ·rw[if_pos hcode] at w2
      obtain ⟨s',x',q1,q2,q3⟩:=go s2 (Qr x l).2.2 (h2.up (by omega)) (ahD hd l hlv)
      refine ⟨s',x',ED ?_,q2,q3⟩;simp only[e2,Option.getD_some,Option.isSome_some,hx,w2,beq_self_eq_true,Bool.and_self,Bool.true_and,Bool.true_or,cond_true];unfold dL at q1;rw[r1,r2,r3] at q1;exact q1
     ·rw[if_neg hcode] at w1 w2
      have hb:((Qr x l).2.1==0)=false:=by rw[beq_eq_false_iff_ne];exact hcode
      obtain ⟨s',x',q1,q2,q3⟩:=go s2 x (h2.up (by omega)) hd
      refine ⟨s',x',Oe ?_ ?_,q2,q3⟩
      ·simp only[e2,Option.getD_some,Option.isSome_some,hx,w2,Option.isSome_none,Bool.false_and,cond_false,Bool.cond_self]
      ·simp only[e2,Option.getD_some,Option.isSome_some,w1,hb,Bool.and_self,Bool.true_and,Bool.true_or,cond_true,cond_false]
       exact q1
    ·
     simp only[cond_false,cond_true];obtain ⟨n,s2,e2,h2,hn0,hn4⟩:=nJ h1 (by omega) 4 (by omega) (by omega)
     have wn:Go.IntKind.wrap .i64 ((1:Int)+n)=1+n:=wrap_i64 (by omega) (by omega)
     have w1:=ahF x (1+n);have w2:=ahG x (1+n) (by omega) (by have:=hd.buf;omega)
     have hx:ah.mk (ae.mk x.aO.Kind x.aO.Name x.aO.aQ x.aO.Kids) x.Room x.bu x.Buffer x.Put x.qM x.Shut x.Gone=x:=by rw[ae.eta]
     obtain ⟨r1,r2,r3⟩:=aed x (1+n)
     by_cases hcode:(V3 x (1+n)).1=0
     ·rw[if_pos hcode] at w2
      obtain ⟨s',x',q1,q2,q3⟩:=go s2 (V3 x (1+n)).2.1 (h2.up (by omega)) (ahC hd (1+n))
      refine ⟨s',x',ED ?_,q2,q3⟩;simp only[e2,Option.getD_some,Option.isSome_some,wn,hx,w2,beq_self_eq_true,Bool.and_self,Bool.true_and,Bool.true_or,cond_true];unfold dL at q1;rw[r1,r2,r3] at q1;exact q1
     ·rw[if_neg hcode] at w1 w2
      have hb:((V3 x (1+n)).1==0)=false:=by rw[beq_eq_false_iff_ne];exact hcode
      obtain ⟨s',x',q1,q2,q3⟩:=go s2 x (h2.up (by omega)) hd
      refine ⟨s',x',Oe ?_ ?_,q2,q3⟩
      ·simp only[e2,Option.getD_some,Option.isSome_some,wn,hx,w2,Option.isSome_none,Bool.false_and,cond_false,Bool.cond_self]
      ·simp only[e2,Option.getD_some,Option.isSome_some,wn,w1,hb,Bool.and_self,Bool.true_and,Bool.true_or,cond_true,cond_false]
       exact q1
   ·
    simp only[cond_false,cond_true];obtain ⟨b,s2,e2,h2⟩:=Yv h1 (by omega) 2 (by omega) (by omega)
    simp only[e2,Option.getD_some,Option.isSome_some]
    cases b
    ·obtain ⟨s',x',q1,q2,q3⟩:=go s2 x (h2.up (by omega)) hd
     refine ⟨s',x', ?_,q2,q3⟩;simp only[cond_false,Bool.and_self,cond_true];exact q1
    ·simp only[cond_true]
     have w1:=leave1 x;have w2:=agy x
     by_cases hcode:(lvP x).1=0
     ·rw[if_pos hcode] at w2
      obtain ⟨s',x',q1,q2,q3⟩:=go s2 (lvP x).2 (h2.up (by omega)) (ahB hd)
      refine ⟨s',x',ED ?_,q2,q3⟩;simp only[w2,Option.getD_some,Option.isSome_some,beq_self_eq_true,Bool.and_self,Bool.true_and,cond_true];have hg:x.Gone=false:=by
       unfold lvP at hcode
       cases hg:x.Gone
       ·rfl
       ·rw[hg] at hcode;exact absurd hcode (show (5:Int)≠0 by decide)
      have hl:(lvP x).2=ah.mk x.aO x.Room x.bu [] x.Put x.qM x.Shut true:=by unfold lvP;rw[hg];rfl
      rw[hl] at q1;exact q1
     ·rw[if_neg hcode] at w1 w2
      have hb:((lvP x).1==0)=false:=by rw[beq_eq_false_iff_ne];exact hcode
      obtain ⟨s',x',q1,q2,q3⟩:=go s2 x (h2.up (by omega)) hd
      refine ⟨s',x',Oe ?_ ?_,q2,q3⟩
      ·simp only[w2,Option.isSome_none,Bool.false_and,cond_false,Bool.cond_self]
      ·simp only[w1,Option.getD_some,Option.isSome_some,hb,Bool.and_self,Bool.true_and,cond_true,cond_false]
       exact q1
  ·
   simp only[cond_true];have w1:=shut1 x;have w2:=shut2 x
   by_cases hcode:(shP x).1=0
   ·rw[if_pos hcode] at w2
    obtain ⟨s',x',q1,q2,q3⟩:=go s1 (shP x).2 (h1.up (by omega)) (ahA hd)
    refine ⟨s',x',ED ?_,q2,q3⟩;simp only[w2,Option.getD_some,Option.isSome_some,beq_self_eq_true,Bool.and_self,Bool.true_and,cond_true];have hl:(shP x).2=ah.mk x.aO x.Room x.bu x.Buffer x.Put x.qM true x.Gone:=by
     unfold shP at hcode ⊢
     cases hs:x.Shut
     ·cases hc2:((x.bu&& !x.Gone)&&(x.Put==0))
      ·rfl
      ·rw[hs,hc2] at hcode;exact absurd hcode (show (3:Int)≠0 by decide)
     ·rw[hs] at hcode;exact absurd hcode (show (5:Int)≠0 by decide)
    rw[hl] at q1;exact q1
   ·rw[if_neg hcode] at w1 w2
    have hb:((shP x).1==0)=false:=by rw[beq_eq_false_iff_ne];exact hcode
    obtain ⟨s',x',q1,q2,q3⟩:=go s1 x (h1.up (by omega)) hd
    refine ⟨s',x',Oe ?_ ?_,q2,q3⟩
    ·simp only[w2,Option.isSome_none,Bool.false_and,cond_false,Bool.cond_self]
    ·simp only[w1,Option.getD_some,Option.isSome_some,hb,Bool.and_self,Bool.true_and,cond_true,cond_false]
     exact q1
end M
namespace M
open Go.V (inB qg aP bG)
theorem ahI (t:ae) (h:t.sz<=1048576):M.nN t=some t:=adD aP t (by have:=bG;omega) h
theorem ahJ (t:ae) (h:MM t=true) (hz:t.sz<=1048576):M.nC t=some (t.Kind,t.Name,t.aQ,t.Kids,(1:Int),true,(0:Int),(0:Int),false,false,(0:Int),[]):=by
 unfold M.nC;simp only[ae.bM,aa1 t hz,h,ahI t hz,Option.getD_some,Option.isSome_some,Bool.not_true,cond_false,Bool.and_self,cond_true]
theorem ahK (t:ae) (room:Int) (h:MM t=true) (hz:t.sz<=1048576) (h1:1<=room) (h6:room<=6):M.nz t room=some (t.Kind,t.Name,t.aQ,t.Kids,room,false,(0:Int),(0:Int),false,false,(0:Int),[]):=by
 unfold M.nz;simp only[ae.bM,aa1 t hz,h,ahI t hz,decide_eq_true h1,decide_eq_true h6,Option.getD_some,Option.isSome_some,Bool.not_true,cond_false,Bool.and_self,cond_true]
theorem ahL (k:Int):(ae.mk k [] [] []).sz=0:=by rw[ae.jO];rfl
def ahM (x:ah) (s:ak):Int×(List UInt8)×(List (List UInt8))×(List M.ae)×Int×Bool×Int×Int×Bool×Bool×M.ak×(List M.af):=(x.aO.Kind,x.aO.Name,x.aO.aQ,x.aO.Kids,x.Room,x.bu,x.Put,x.qM,x.Shut,x.Gone,s,x.Buffer)
theorem aef {s:ak} {m:Int} (h:CX s m) (hm:m<=100000000):∃x s',M.zV s=some (ahM x s') /\ Hg x /\ CX s' (m+100):=by
 obtain ⟨tk,s1,e1,h1,hmem⟩:=PV h (by omega) [(9:Int),9,3,11,2] (by decide) (by decide)
 obtain ⟨rm,s2,e2,h2,hr0,hr6⟩:=nJ h1 (by omega) 6 (by omega) (by omega)
 obtain ⟨b,s3,e3,h3⟩:=Yv h2 (by omega) 4 (by omega) (by omega)
 obtain ⟨kk,s4,e4,h4,hk0,hk8⟩:=nJ h3 (by omega) 8 (by omega) (by omega)
 obtain ⟨k,rfl⟩:=Int.eq_ofNat_of_zero_le hk0;have ht:=aeb hmem;have hz:=ahL tk;have wr:Go.IntKind.wrap .i64 ((1:Int)+rm)=1+rm:=wrap_i64 (by omega) (by omega)
 have f2:=ahJ _ ht (by omega)
 have n2:=ahK _ (1+rm) ht (by omega) (by omega) (by omega)
 have tz:(ae.mk tk [] [] []).sz<=100:=by omega
 unfold M.zV
 cases b
 ·obtain ⟨s',x',q1,q2,q3⟩:=PW tk k aP s4 (m+1+1+1+1) (ah.mk (ae.mk tk [] [] []) (1+rm) false [] 0 0 false false) h4 (by omega) (by have:=bG;omega) (by omega) ⟨by show (0:Int)<=1+rm;omega,by show 1+rm<=6;omega,by show ((([]:List af).length:Nat):Int)<=1+rm;simp;omega,tz,fun v hv=>by cases hv⟩
  have q1':M.dm 0 [] 0 false 0 0 false false tk [] [] [] [] [] [] aP (k:Int) s4 (ae.mk tk [] [] []).Kind (ae.mk tk [] [] []).Name (ae.mk tk [] [] []).aQ (ae.mk tk [] [] []).Kids (1+rm) false 0 0 false false []=some (afu s' x'):=q1;refine ⟨x',s',ED ?_,q2,q3.up (by omega)⟩
  simp only[e1,e2,e3,e4,wr,n2,q1',Option.getD_some,Option.isSome_some,Bool.and_self,cond_true,cond_false]
  rfl
 ·obtain ⟨s',x',q1,q2,q3⟩:=PW tk k aP s4 (m+1+1+1+1) (ah.mk (ae.mk tk [] [] []) 1 true [] 0 0 false false) h4 (by omega) (by have:=bG;omega) (by omega) ⟨by show (0:Int)<=1;omega,by show (1:Int)<=6;omega,by show ((([]:List af).length:Nat):Int)<=1;simp,tz,fun v hv=>by cases hv⟩
  have q1':M.dm 0 [] 0 false 0 0 false false tk [] [] [] [] [] [] aP (k:Int) s4 (ae.mk tk [] [] []).Kind (ae.mk tk [] [] []).Name (ae.mk tk [] [] []).aQ (ae.mk tk [] [] []).Kids 1 true 0 0 false false []=some (afu s' x'):=q1;refine ⟨x',s',ED ?_,q2,q3.up (by omega)⟩
  simp only[e1,e2,e3,e4,wr,n2,f2,q1',Option.getD_some,Option.isSome_some,Bool.and_self,cond_true,cond_false]
  rfl
theorem afZ {x:ah} (h:Hg x) (t:ae) (a b c:Int) (p q r:Bool) (ht:t.sz<=20000):(ah.mk t a p x.Buffer b c q r).sz<=30000:=by
 rw[ah.jO];have:=h.buf
 show t.sz+lI af.sz x.Buffer<=30000
 omega
theorem afv {s:ak} {m:Int} (h:CX s m) (hm:m<=10000000):∃x s',M.zW s=some (x,s') /\ x.sz<=30000 /\ CX s' (m+40000):=by
 obtain ⟨x,s1,e1,hd,h1⟩:=aef h (by omega)
 obtain ⟨v,s2,e2,h2,hv0,ajF⟩:=nJ h1 (by omega) 16 (by omega) (by omega)
 have ht:=hd.ty;have hx0:=fun (a b c:Int) (p q r:Bool)=>afZ hd x.aO a b c p q r (by omega)
 unfold M.zW;simp only[e1,ahM,e2,Option.getD_some,Option.isSome_some,Bool.and_self,Bool.true_and,Bool.and_true,cond_true,ae.eta]
 cases c0:(v==(0:Int))
 ·cases c1:(v==(1:Int))
  ·cases c2:(v==(2:Int))
   ·cases c3:(v==(3:Int))
    ·cases c4:(v==(4:Int))
     ·cases c5:(v==(5:Int))
      ·exact ⟨_,s2,rfl,hx0 _ _ _ _ _ _,h2.up (by omega)⟩
      ·have hl:=hd.len;have h6:=hd.r6
       have hc:=yX (a:=x.Buffer.length) (b:=1) (by omega)
       simp only[cond_true,cond_false,List.length_cons,List.length_nil,Nat.zero_add,hc];refine ⟨_,s2,rfl, ?_,h2.up (by omega)⟩
       rw[ah.jO]
       show x.aO.sz+lI af.sz (x.Buffer++[af.mk 4 200 [] []])<=30000
       have hb:=hd.buf;have h0:=aec 4 200;rw[KR,BO];omega
     ·exact ⟨_,s2,rfl,hx0 _ _ _ _ _ _,h2.up (by omega)⟩
    ·obtain ⟨t,s3,e3,h3,hz⟩:=any_ok h2 (by omega)
     simp only[cond_true,cond_false,e3,Tm,Option.getD_some,Option.isSome_some,Bool.and_self,ae.eta];exact ⟨_,s3,rfl,afZ hd t _ _ _ _ _ _ hz,h3.up (by omega)⟩
   ·exact ⟨_,s2,rfl,hx0 _ _ _ _ _ _,h2.up (by omega)⟩
  ·obtain ⟨n,s3,e3,h3, -, -⟩:=nJ h2 (by omega) 3 (by omega) (by omega)
   simp only[cond_true,cond_false,e3,Option.getD_some,Option.isSome_some,Bool.and_self];exact ⟨_,s3,rfl,hx0 _ _ _ _ _ _,h3.up (by omega)⟩
 ·obtain ⟨n,s3,e3,h3, -⟩:=PV h2 (by omega) [(0:Int),6,7] (by decide) (by decide)
  simp only[cond_true,cond_false,e3,Option.getD_some,Option.isSome_some,Bool.and_self];exact ⟨_,s3,rfl,hx0 _ _ _ _ _ _,h3.up (by omega)⟩
theorem ZP {code:List UInt8} (hc:code.length<=1048576):∃x most,M.kQ code=some (x,most) /\ x.sz<=30000:=by
 obtain ⟨x,s1,e1,hz,h1⟩:=afv (s:=ak.mk code 0 0) (m:=0) ⟨hc,Int.le_refl _,Int.le_refl _⟩ (by omega)
 obtain ⟨v,s2,e2,h2, -⟩:=PV h1 (by omega) [(1:Int),2,3,8,0,9] (by decide) (by decide)
 unfold M.kQ;simp only[e1,e2,Option.getD_some,Option.isSome_some,Bool.and_self,cond_true,ah.bM];exact ⟨x,v,rfl,hz⟩
end M
namespace M
open Go.V (inB qg aP bG)
def ovB (s:ah):Bool:=(stB s&&s.Shut)&&((s.Buffer.length:Int)==0)
theorem agB (s:ah) (h:s.sz<=1048576):M.Ew s=some (ovB s):=by
 unfold M.Ew;rw[ah.bM,MK s h];rfl
theorem agC (s:ah) (h:s.sz<=1048576):M.Eu s=some (ovB s):=by
 unfold M.Eu;rw[ah.bM,ML s h];rfl
theorem acZ (s:ah) (h:s.sz<=1048576):M.zX s=some (ad6 s):=by
 unfold M.zX M.Es;rw[ah.bM,ML s h];have e:decide ((0:Int)<(s.Buffer.length:Int))=decide (0<s.Buffer.length):=by rw[decide_eq_decide];omega
 unfold ad6;rw[<-e];rfl
def cwB (s:ah):Bool:=stB s&&(!s.Shut&&(s.Gone||(decide ((s.Buffer.length:Int)<s.Room)&&decide (s.Put<(if s.bu then 1 else 1000000:Int)))))
theorem aa3 (s:ah) (h:s.sz<=1048576):M.xJ s=some (cwB s):=by
 unfold M.xJ M.sD M.iT cwB;simp only[ah.bM,MK s h]
 cases s.Shut<;>cases s.bu<;>simp
theorem aa4 (s:ah) (h:s.sz<=1048576):M.xI s=some (cwB s):=by
 unfold M.xI M.AX M.vI cwB;simp only[ah.bM,ML s h]
 cases s.Shut<;>cases s.bu<;>simp
theorem Ti (code:List UInt8):M.lY code=some true:=by
 unfold M.lY M.NF
 by_cases hs:code.length<=1048576
 ·obtain ⟨x,most,e1,hz⟩:=ZP hs
  have h0:(decide ((1048576:Int)<((code.length:Nat):Int))||decide ((1048576:Int)<((([]:List UInt8).length:Nat):Int)))=false:=by
   rw[decide_eq_false (by omega),decide_eq_false (by simp)];rfl
  have hx:x.sz<=1048576:=by omega
  have e2:=agd x most hx;have e3:=agc x most hx;obtain ⟨f1,f2⟩:=ZJ x most;have hsz:=afb x most hx
  generalize yD x most=r at e2 e3 f1 f2 hsz
  obtain ⟨y,l,c⟩:=r;simp only at f1 f2 hsz;have e4:M.je (M.ah.mk (M.ae.mk y.aO.Kind y.aO.Name y.aO.aQ y.aO.Kids) y.Room y.bu y.Buffer y.Put y.qM y.Shut y.Gone)=some (stB y):=by
   rw[ae.eta];exact MK y hsz.1
  have hdl:decide ((0:Int)<((l.length:Nat):Int))=decide (0<l.length):=by rw[decide_eq_decide];omega
  simp only[h0,e1,ah.bM,e2,e3,ah.afO,e4,acZ x hx,agB x hx,agC x hx,aa3 x hx,aa4 x hx,Option.getD_some,Option.isSome_some,cond_false,bne_self_eq_false,Bool.or_self,hdl,beq_self_eq_true,Bool.and_self,Bool.true_or,Bool.true_and,cond_true]
  by_cases hc:c=0
  ·subst hc
   obtain ⟨g1,g2,g3⟩:=f1 rfl;have hy:=ah.Yr hsz.1;have hl:=lC af.sz l;have w:Go.IntKind.wrap .i64 ((y.Buffer.length:Int)+(l.length:Int))=(x.Buffer.length:Int):=by rw[wrap_i64 (by omega) (by omega)];omega
   rw[g1,g2,w];simp
  ·have hc0:(c==(0:Int))=false:=by rw[beq_eq_false_iff_ne];exact hc
   by_cases h3:c=3
   ·have:=f2 h3
    subst h3;rw[this];simp
   ·have hc3:(c==(3:Int))=false:=by rw[beq_eq_false_iff_ne];exact h3
    rw[hc0,hc3];simp
 ·have h0:(decide ((1048576:Int)<((code.length:Nat):Int))||decide ((1048576:Int)<((([]:List UInt8).length:Nat):Int)))=true:=by
   rw[decide_eq_true (by omega)];rfl
  simp only[h0,Option.getD_some,cond_true]
end M
