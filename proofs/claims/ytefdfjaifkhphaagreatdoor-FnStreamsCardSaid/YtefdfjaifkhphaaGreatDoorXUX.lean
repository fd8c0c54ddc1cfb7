/-
  STREAMS that are drawn: they are small.
-/
import Derived.Test.YtefdfjaifkhphaaGreatDoorXUW
set_option linter.unusedVariables false
set_option linter.unusedSimpArgs false
namespace M
open Go.V (inB qg aP bG)
structure Hg (s:ah):Prop where
 r0:0<=s.Room
 r6:s.Room<=6
 len:(s.Buffer.length:Int)<=s.Room
 ty:s.aO.sz<=100
 vals:∀v∈s.Buffer,v.sz<=5
theorem aea : ∀(l:List af),(∀v∈l,v.sz<=5)->lI af.sz l<=6*l.length
 | [],_=>by simp[lI]
 |v::r,h=>by
  have h1:=h v (by simp)
  have h2:=aea r fun x hx=>h x (by simp[hx])
  simp only[lI,List.length_cons];omega
theorem Hg.buf {s:ah} (h:Hg s):lI af.sz s.Buffer<=36:=by
 have:=aea s.Buffer h.vals;have:=h.len;have:=h.r6;omega
theorem Hg.sz {s:ah} (h:Hg s):s.sz<=136:=by
 rw[ah.jO];have:=h.buf;have:=h.ty;omega
theorem ahA {s:ah} (h:Hg s):Hg (shP s).2:=by
 unfold shP
 cases s.Shut<;>cases ((s.bu&& !s.Gone)&&(s.Put==0))<;>exact ⟨h.r0,h.r6,h.len,h.ty,h.vals⟩
theorem ahB {s:ah} (h:Hg s):Hg (lvP s).2:=by
 unfold lvP
 cases s.Gone
 ·exact ⟨h.r0,h.r6,by simpa using h.r0,h.ty,by simp⟩
 ·exact h
theorem ahC {s:ah} (h:Hg s) (m:Int):Hg (V3 s m).2.1:=by
 unfold V3;have hl:=h.len
 cases s.Gone
 ·cases (((s.Buffer.length:Int)==0)&&s.Shut)
  ·exact ⟨h.r0,h.r6,by simp only[List.length_drop,cond_false];omega,h.ty,fun v hv=>h.vals v (List.mem_of_mem_drop hv)⟩
  ·exact h
 ·exact h
theorem ahD {s:ah} (h:Hg s) (l:List af) (hl:∀v∈l,v.sz<=5):Hg (Qr s l).2.2:=by
 unfold Qr;have h1:=h.len;have h6:=h.r6
 cases (decide ((8:Int)<(l.length:Int))||decide (Hq s<Go.IntKind.wrap .i64 (s.Put+(l.length:Int))))<;>cases s.Shut<;>cases s.Gone<;>first
  |exact h
  |exact ⟨h.r0,h.r6,by simp only[cond_false,List.length_append,List.length_take];unfold wV;omega,h.ty,fun v hv=>by
    simp only[cond_false,List.mem_append] at hv
    rcases hv with hv |hv
    ·exact h.vals v hv
    ·exact hl v (List.mem_of_mem_take hv)⟩
theorem PV {s:ak} {m:Int} (h:CX s m) (hm:m<=1000000000000) (l:List Int) (h1:2<=l.length) (h2:l.length<=200):∃v s',M.bU l s=some (v,s') /\ CX s' (m+1) /\ v∈l:=by
 obtain ⟨v,s',e,h',h3,h4⟩:=nJ h hm (l.length:Int) (by omega) (by omega)
 obtain ⟨k,rfl⟩:=Int.eq_ofNat_of_zero_le h3;have hk:k<l.length:=by omega
 have hin:inB (k:Int) l.length=true:=by rw[dM];simpa using hk
 unfold M.bU;simp only[e,Option.getD_some,Option.isSome_some,hin,Int.toNat_natCast,getD_lt hk,Bool.and_self,cond_true];exact ⟨l[k],s',rfl,h',List.getElem_mem hk⟩
theorem aeb {k:Int} (h:k∈[(9:Int),9,3,11,2]):MM (ae.mk k [] [] [])=true:=by
 simp only[List.mem_cons,List.not_mem_nil,or_false] at h
 rcases h with rfl |rfl |rfl |rfl |rfl<;>decide
end M
namespace M
open Go.V (inB qg aP bG)
theorem aec (a b:Int):(af.mk a b [] []).sz<=5:=by
 have:(af.mk a b [] []).sz=0:=by rw[af.jO];rfl
 omega
theorem ahE (a b:Int) (x:List UInt8) (h:x.length<=5):(af.mk a b x []).sz<=5:=by
 have:(af.mk a b x []).sz=x.length:=by rw[af.jO];rfl
 omega
theorem acY (t:ae) {s:ak} {m:Int} (h:CX s m) (hm:m<=1000000000000):∃v s',M.En t s=some (v,s') /\ CX s' (m+1) /\ v.sz<=5:=by
 unfold M.En
 cases h1:(t.Kind==11)
 ·cases h2:(t.Kind==2)
  ·obtain ⟨v,s',e,g1, -, -⟩:=nJ h hm 200 (by omega) (by omega)
   simp only[cond_false,e,Option.isSome_some,Option.getD_some,Bool.and_self,cond_true];exact ⟨_,_,rfl,g1,aec _ _⟩
  ·obtain ⟨v,s',e,g1, -, -⟩:=nJ h hm 2 (by omega) (by omega)
   simp only[cond_false,e,Option.isSome_some,Option.getD_some,Bool.and_self,cond_true];exact ⟨_,_,rfl,g1,aec _ _⟩
 ·obtain ⟨v,s',e,g1,g2⟩:=Yw h hm [[],[(97:UInt8)],[(104:UInt8),(101:UInt8),(108:UInt8),(108:UInt8),(111:UInt8)]] 5 (by decide) (by decide) (by decide)
  simp only[cond_true,e,Option.isSome_some,Option.getD_some,Bool.and_self];exact ⟨_,_,rfl,g1,ahE _ _ _ g2⟩
theorem Xr (t:ae):∀(k f:Nat) (s:ak) (m:Int) (out:List af),CX s m->m+(k:Int)<=100000000010->k<f->k<=3->out.length+k<=3->(∀v∈out,v.sz<=5)->
 ∃s' l,M.pq f (k:Int) s t out=some (s'.code,s'.at_,s'.seed,l) /\ CX s' (m+(k:Int)) /\ l.length<=3 /\ ∀v∈l,v.sz<=5
 |k,0,s,m,out,_,_,h,_,_,_=>by omega
 |0,f+1,s,m,out,h,hm,_,_,hl,hv=>by
  rw[M.pq];exact ⟨s,out,by simp,by simpa using h,by omega,hv⟩
 |k+1,f+1,s,m,out,h,hm,hf,hk,hl,hv=>by
  obtain ⟨v,s1,e,h1,hsz⟩:=acY t h (by omega)
  rw[M.pq];have hd:decide ((0:Int)<((k+1:Nat):Int))=true:=by rw[decide_eq_true_eq];omega
  have hc:decide (out.length+([v]:List af).length<=1073741824)=true:=by rw[decide_eq_true_eq];simp only[List.length_cons,List.length_nil];omega
  have hw:Go.IntKind.wrap .i64 (((k+1:Nat):Int)-1)=(k:Int):=(wrap_i64 (n:=((k+1:Nat):Int)-1) (by omega) (by omega)).trans (by omega)
  obtain ⟨s',l,e2,h2,h3,h4⟩:=Xr t k f s1 (m+1) (out++[v]) h1 (by omega) (by omega) (by omega) (by rw[List.length_append];simp only[List.length_cons,List.length_nil];omega) (fun x hx=>by
   rcases List.mem_append.1 hx with hx |hx
   ·exact hv x hx
   ·have:x=v:=by simpa using hx
    rw[this];exact hsz)
  refine ⟨s',l, ?_,h2.up (by omega),h3,h4⟩
  simp only[hd,cond_true,ae.bM,af.bM,e,Option.getD_some,Option.isSome_some,hc,hw,Bool.and_self,e2]
theorem aa2 (t:ae) {s:ak} {m:Int} (h:CX s m) (hm:m<=10000000000):∃l s',M.rq t s=some (l,s') /\ CX s' (m+5) /\ l.length<=3 /\ ∀v∈l,v.sz<=5:=by
 obtain ⟨n,s1,e,h1,hn0,hn4⟩:=nJ h (by omega) 4 (by omega) (by omega)
 obtain ⟨k,rfl⟩:=Int.eq_ofNat_of_zero_le hn0;obtain ⟨s',l,e2,h2,h3,h4⟩:=Xr t k aP s1 (m+1) [] h1 (by omega) (by have:=bG;omega) (by omega) (by simp;omega) (by simp)
 unfold M.rq;simp only[e,Option.getD_some,ae.bM,e2,Option.isSome_some,Bool.and_self,cond_true];exact ⟨l,s',rfl,h2.up (by omega),h3,h4⟩
theorem shut1 (x:ah):M.uo x.aO.Kind x.aO.Name x.aO.aQ x.aO.Kids x.Room x.bu x.Put x.qM x.Shut x.Gone x.Buffer=(if (shP x).1=0 then none else some ((0:Int),[],(0:Int),false,(0:Int),(0:Int),false,false,(shP x).1,x.Buffer,[],[],[])):=by
 unfold M.uo shP
 cases x.Shut
 ·cases ((x.bu&& !x.Gone)&&(x.Put==0))
  ·rfl
  ·rfl
 ·rfl
theorem shut2 (x:ah):M.uu x.aO.Kind x.aO.Name x.aO.aQ x.aO.Kids x.Room x.bu x.Put x.qM x.Shut x.Gone x.Buffer=(if (shP x).1=0 then some (x.aO.Kind,x.aO.Name,x.aO.aQ,x.aO.Kids,x.Room,x.bu,x.Put,x.qM,true,x.Gone,(0:Int),x.Buffer) else none):=by
 unfold M.uu shP
 cases x.Shut
 ·cases ((x.bu&& !x.Gone)&&(x.Put==0))
  ·rfl
  ·rfl
 ·rfl
theorem leave1 (x:ah):M.qZ x.aO.Kind x.aO.Name x.aO.aQ x.aO.Kids x.Room x.bu x.Put x.qM x.Shut x.Gone x.Buffer=(if (lvP x).1=0 then none else some ((0:Int),[],(0:Int),false,(0:Int),(0:Int),false,false,(lvP x).1,x.Buffer,[],[],[])):=by
 unfold M.qZ lvP
 cases x.Gone<;>rfl
theorem agy (x:ah):M.rf x.aO.Kind x.aO.Name x.aO.aQ x.aO.Kids x.Room x.bu x.Put x.qM x.Shut x.Gone x.Buffer=(if (lvP x).1=0 then some (x.aO.Kind,x.aO.Name,x.aO.aQ,x.aO.Kids,x.Room,x.bu,x.Put,x.qM,x.Shut,true,(0:Int),x.Buffer,[]) else none):=by
 unfold M.rf lvP
 cases x.Gone<;>rfl
end M
namespace M
open Go.V (inB qg aP bG)
theorem ahF (x:ah) (m:Int):M.pY x.aO.Kind x.aO.Name x.aO.aQ x.aO.Kids x.Room x.bu x.Put x.qM x.Shut x.Gone m x.Buffer=(if (V3 x m).1=0 then none else some ((0:Int),[],(0:Int),false,(0:Int),(0:Int),false,false,(V3 x m).1,x.Buffer,[],[],[],[])):=by
 unfold M.pY V3
 cases x.Gone
 ·cases (((x.Buffer.length:Int)==0)&&x.Shut)<;>rfl
 ·rfl
theorem ahG (x:ah) (m:Int) (hm:1<=m) (hb:lI af.sz x.Buffer<=1048576):M.uw x m=(if (V3 x m).1=0 then some (x.aO.Kind,x.aO.Name,x.aO.aQ,x.aO.Kids,x.Room,x.bu,(V3 x m).2.1.Put,(V3 x m).2.1.qM,(V3 x m).2.1.Shut,(V3 x m).2.1.Gone,(0:Int),(V3 x m).2.1.Buffer,(V3 x m).2.2) else none):=by
 unfold M.uw V3;have hp:=Dv af.sz (jW x m) x.Buffer;have e1:=abR x m hm;have e2:=XU (Ae x m) (Nat.le_refl _);have e3:=abS (Ae x m);have e4:=KQ (x.Buffer.take (jW x m)) (by omega)
 have e5:=KQ (x.Buffer.drop (jW x m)) (by omega)
 have e6:List.drop (Int.toNat 0) (List.take (jW x m) x.Buffer)=List.take (jW x m) x.Buffer:=rfl;simp only[e1,e2,e3,e4,e5,e6,Option.isSome_some,Option.getD_some,Int.toNat_natCast,List.take_length,cond_true,Bool.true_and,Bool.and_true]
 cases x.Gone<;>cases (((x.Buffer.length:Int)==0)&&x.Shut)<;>rfl
theorem agz (x:ah) (l:List af):M.nZ x.aO.Kind x.aO.Name x.aO.aQ x.aO.Kids x.Room x.bu x.Put x.qM x.Shut x.Gone l x.Buffer=(if (Qr x l).2.1=0 then none else some ((0:Int),[],(0:Int),false,(0:Int),(0:Int),false,false,(0:Int),(Qr x l).2.1,x.Buffer,[],[],[])):=by
 unfold M.nZ Qr;have e0:M.iT (M.ah.mk (M.ae.mk x.aO.Kind x.aO.Name x.aO.aQ x.aO.Kids) x.Room x.bu x.Buffer x.Put x.qM x.Shut x.Gone)=some (Hq x):=adE _;simp only[e0,Option.getD_some,Option.isSome_some,Bool.true_or,Bool.and_self,cond_true]
 cases (decide ((8:Int)<(l.length:Int))||decide (Hq x<Go.IntKind.wrap .i64 (x.Put+(l.length:Int))))
 ·cases x.Shut
  ·cases x.Gone
   ·simp only[cond_false,if_true]
    rw[Bool.cond_self]
   ·rfl
  ·rfl
 ·rfl
theorem agA (x:ah) (l:List af) (hs:x.sz<=1048576) (hl:lI af.sz l<=1048576) (h1:0<=x.Room) (h2:x.Room<=6) (hb:(x.Buffer.length:Int)<=x.Room):
 M.ru x l=(if (Qr x l).2.1=0 then some (x.aO.Kind,x.aO.Name,x.aO.aQ,x.aO.Kids,x.Room,x.bu,(Qr x l).2.2.Put,(Qr x l).2.2.qM,(Qr x l).2.2.Shut,(Qr x l).2.2.Gone,(Qr x l).1,(0:Int),(Qr x l).2.2.Buffer) else none):=by
 unfold M.ru Qr;have hp:=Dv af.sz (wV x l) l;have hlen:=lC af.sz l;have e0:=KQ x.Buffer (ah.EW hs);have e1:=KQ (l.take (wV x l)) (by omega)
 have e2:=abS (acH x l);have e6:List.drop (Int.toNat 0) (List.take (wV x l) l)=List.take (wV x l) l:=rfl;have e3:=yX (a:=x.Buffer.length) (b:=(l.take (wV x l)).length) (by rw[List.length_take];have:=ah.Yr hs;omega)
 simp only[ah.bM,adE,adF h1 h2 hb,e0,e1,e2,e3,e6,Option.getD_some,Option.isSome_some,Int.toNat_natCast,Bool.true_or,Bool.and_self,cond_true]
 cases (decide ((8:Int)<(l.length:Int))||decide (Hq x<Go.IntKind.wrap .i64 (x.Put+(l.length:Int))))<;>cases x.Shut<;>cases x.Gone<;>rfl
theorem aed (x:ah) (m:Int):(V3 x m).2.1.aO=x.aO /\ (V3 x m).2.1.Room=x.Room /\ (V3 x m).2.1.bu=x.bu:=by
 unfold V3;cases x.Gone<;>cases (((x.Buffer.length:Int)==0)&&x.Shut)<;>exact ⟨rfl,rfl,rfl⟩
theorem aee (x:ah) (l:List af):(Qr x l).2.2.aO=x.aO /\ (Qr x l).2.2.Room=x.Room /\ (Qr x l).2.2.bu=x.bu:=by
 unfold Qr
 cases (decide ((8:Int)<(l.length:Int))||decide (Hq x<Go.IntKind.wrap .i64 (x.Put+(l.length:Int))))<;>cases x.Shut<;>cases x.Gone<;>exact ⟨rfl,rfl,rfl⟩
theorem ED {R:Type} {a b:Option R} {r:R} (h:a=some r):Go.V.orE a b=some r:=by rw[h];rfl
theorem Oe {R:Type} {a b:Option R} {r:R} (h:a=none) (h2:b=some r):Go.V.orE a b=some r:=by rw[h,h2];rfl
abbrev ahH := (List UInt8)×Int×Int×Int×(List UInt8)×Int×Bool×Int×Int×Bool×Bool×Int×(List UInt8)×(List (List UInt8))×(List M.ae)×Int×Bool×Int×Int×Bool×Bool×(List (List UInt8))×(List M.ae)×(List M.af)×(List M.af)
def afu (s:ak) (x:ah):ahH:=(s.code,s.at_,s.seed,0,[],0,false,0,0,false,false,x.aO.Kind,x.aO.Name,x.aO.aQ,x.aO.Kids,x.Room,x.bu,x.Put,x.qM,x.Shut,x.Gone,[],[],[],x.Buffer)
noncomputable def dL (tk:Int) (f:Nat) (k:Int) (s:ak) (x:ah):Option ahH:=M.dm 0 [] 0 false 0 0 false false tk [] [] [] [] [] [] f k s x.aO.Kind x.aO.Name x.aO.aQ x.aO.Kids x.Room x.bu x.Put x.qM x.Shut x.Gone x.Buffer
theorem PW (tk:Int):∀(k f:Nat) (s:ak) (m:Int) (x:ah),CX s m->m+10*(k:Int)<=10000000000->k<f->k<=8->Hg x->
 ∃s' x',dL tk f (k:Int) s x=some (afu s' x') /\ Hg x' /\ CX s' (m+10*(k:Int))
 |k,0,s,m,x,_,_,h,_,_=>by omega
 |0,f+1,s,m,x,h,hm,_,_,hd=>by
  refine ⟨s,x, ?_,hd,by simpa using h⟩
  unfold dL;rw[M.dm]
  rfl
 |k+1,f+1,s,m,x,h,hm,hf,hk,hd=>by
  have hc:decide ((0:Int)<((k+1:Nat):Int))=true:=by rw[decide_eq_true_eq];omega
  have hw:Go.IntKind.wrap .i64 (((k+1:Nat):Int)-1)=(k:Int):=(wrap_i64 (n:=((k+1:Nat):Int)-1) (by omega) (by omega)).trans (by omega)
  obtain ⟨v,s1,e1,h1,hv0,hv8⟩:=nJ h (by omega) 8 (by omega) (by omega)
  have go:∀(s2:ak) (x2:ah),CX s2 (m+10)->Hg x2->∃s' x',dL tk f (k:Int) s2 x2=some (afu s' x') /\ Hg x' /\ CX s' (m+10*((k+1:Nat):Int)):=fun s2 x2 g1 g2=>by
   obtain ⟨s',x',q1,q2,q3⟩:=PW tk k f s2 (m+10) x2 g1 (by omega) (by omega) (by omega) g2
   exact ⟨s',x',q1,q2,q3.up (by omega)⟩
  unfold dL;rw[M.dm];simp only[hc,cond_true,e1,Option.getD_some,Option.isSome_some,Bool.and_self,Bool.true_and,Bool.true_or,hw]
  cases hv:(v==(0:Int))
  ·cases hv1:(v==(1:Int))
   ·cases hv2:(bif (v==(2:Int)) then (v==(2:Int)) else (v==(3:Int)))
    ·
     simp only[cond_false];obtain ⟨l,s2,e2,h2,hl3,hlv⟩:=aa2 (ae.mk tk [] [] []) h1 (by omega)
     have hls:lI af.sz l<=1048576:=by have:=aea l hlv;omega
     have w1:=agz x l;have w2:=agA x l (by have:=hd.sz;omega) hls hd.r0 hd.r6 hd.len
     have hx:ah.mk (ae.mk x.aO.Kind x.aO.Name x.aO.aQ x.aO.Kids) x.Room x.bu x.Buffer x.Put x.qM x.Shut x.Gone=x:=by rw[ae.eta]
     obtain ⟨r1,r2,r3⟩:=aee x l
     by_cases hcode:(Qr x l).2.1=0
     ·rw[if_pos hcode] at w2
      obtain ⟨s',x',q1,q2,q3⟩:=go s2 (Qr x l).2.2 (h2.up (by omega)) (ahD hd l hlv)
      refine ⟨s',x',ED ?_,q2,q3⟩;simp only[e2,Option.getD_some,Option.isSome_some,hx,w2,beq_self_eq_true,Bool.and_self,Bool.true_and,Bool.true_or,cond_true];unfold dL at q1;rw[r1,r2,r3] at q1;exact q1
     ·rw[if_neg hcode] at w1 w2
      have hb:((Qr x l).2.1==0)=false:=by rw[beq_eq_false_iff_ne];exact hcode
      obtain ⟨s',x',q1,q2,q3⟩:=go s2 x (h2.up (by omega)) hd
      refine ⟨s',x',Oe ?_ ?_,q2,q3⟩
      ·simp only[e2,Option.getD_some,Option.isSome_some,hx,w2,Option.isSome_none,Bool.false_and,cond_false,Bool.cond_self]
      ·simp only[e2,Option.getD_some,Option.isSome_some,w1,hb,Bool.and_self,Bool.true_and,Bool.true_or,cond_true,cond_false]
       exact q1
    ·
     simp only[cond_false,cond_true];obtain ⟨n,s2,e2,h2,hn0,hn4⟩:=nJ h1 (by omega) 4 (by omega) (by omega)
     have wn:Go.IntKind.wrap .i64 ((1:Int)+n)=1+n:=wrap_i64 (by omega) (by omega)
     have w1:=ahF x (1+n);have w2:=ahG x (1+n) (by omega) (by have:=hd.buf;omega)
     have hx:ah.mk (ae.mk x.aO.Kind x.aO.Name x.aO.aQ x.aO.Kids) x.Room x.bu x.Buffer x.Put x.qM x.Shut x.Gone=x:=by rw[ae.eta]
     obtain ⟨r1,r2,r3⟩:=aed x (1+n)
     by_cases hcode:(V3 x (1+n)).1=0
     ·rw[if_pos hcode] at w2
      obtain ⟨s',x',q1,q2,q3⟩:=go s2 (V3 x (1+n)).2.1 (h2.up (by omega)) (ahC hd (1+n))
      refine ⟨s',x',ED ?_,q2,q3⟩;simp only[e2,Option.getD_some,Option.isSome_some,wn,hx,w2,beq_self_eq_true,Bool.and_self,Bool.true_and,Bool.true_or,cond_true];unfold dL at q1;rw[r1,r2,r3] at q1;exact q1
     ·rw[if_neg hcode] at w1 w2
      have hb:((V3 x (1+n)).1==0)=false:=by rw[beq_eq_false_iff_ne];exact hcode
      obtain ⟨s',x',q1,q2,q3⟩:=go s2 x (h2.up (by omega)) hd
      refine ⟨s',x',Oe ?_ ?_,q2,q3⟩
      ·simp only[e2,Option.getD_some,Option.isSome_some,wn,hx,w2,Option.isSome_none,Bool.false_and,cond_false,Bool.cond_self]
      ·simp only[e2,Option.getD_some,Option.isSome_some,wn,w1,hb,Bool.and_self,Bool.true_and,Bool.true_or,cond_true,cond_false]
       exact q1
   ·
    simp only[cond_false,cond_true];obtain ⟨b,s2,e2,h2⟩:=Yv h1 (by omega) 2 (by omega) (by omega)
    simp only[e2,Option.getD_some,Option.isSome_some]
    cases b
    ·obtain ⟨s',x',q1,q2,q3⟩:=go s2 x (h2.up (by omega)) hd
     refine ⟨s',x', ?_,q2,q3⟩;simp only[cond_false,Bool.and_self,cond_true];exact q1
    ·simp only[cond_true]
     have w1:=leave1 x;have w2:=agy x
     by_cases hcode:(lvP x).1=0
     ·rw[if_pos hcode] at w2
      obtain ⟨s',x',q1,q2,q3⟩:=go s2 (lvP x).2 (h2.up (by omega)) (ahB hd)
      refine ⟨s',x',ED ?_,q2,q3⟩;simp only[w2,Option.getD_some,Option.isSome_some,beq_self_eq_true,Bool.and_self,Bool.true_and,cond_true];have hg:x.Gone=false:=by
       unfold lvP at hcode
       cases hg:x.Gone
       ·rfl
       ·rw[hg] at hcode;exact absurd hcode (show (5:Int)≠0 by decide)
      have hl:(lvP x).2=ah.mk x.aO x.Room x.bu [] x.Put x.qM x.Shut true:=by unfold lvP;rw[hg];rfl
      rw[hl] at q1;exact q1
     ·rw[if_neg hcode] at w1 w2
      have hb:((lvP x).1==0)=false:=by rw[beq_eq_false_iff_ne];exact hcode
      obtain ⟨s',x',q1,q2,q3⟩:=go s2 x (h2.up (by omega)) hd
      refine ⟨s',x',Oe ?_ ?_,q2,q3⟩
      ·simp only[w2,Option.isSome_none,Bool.false_and,cond_false,Bool.cond_self]
      ·simp only[w1,Option.getD_some,Option.isSome_some,hb,Bool.and_self,Bool.true_and,cond_true,cond_false]
       exact q1
  ·
   simp only[cond_true];have w1:=shut1 x;have w2:=shut2 x
   by_cases hcode:(shP x).1=0
   ·rw[if_pos hcode] at w2
    obtain ⟨s',x',q1,q2,q3⟩:=go s1 (shP x).2 (h1.up (by omega)) (ahA hd)
    refine ⟨s',x',ED ?_,q2,q3⟩;simp only[w2,Option.getD_some,Option.isSome_some,beq_self_eq_true,Bool.and_self,Bool.true_and,cond_true];have hl:(shP x).2=ah.mk x.aO x.Room x.bu x.Buffer x.Put x.qM true x.Gone:=by
     unfold shP at hcode ⊢
     cases hs:x.Shut
     ·cases hc2:((x.bu&& !x.Gone)&&(x.Put==0))
      ·rfl
      ·rw[hs,hc2] at hcode;exact absurd hcode (show (3:Int)≠0 by decide)
     ·rw[hs] at hcode;exact absurd hcode (show (5:Int)≠0 by decide)
    rw[hl] at q1;exact q1
   ·rw[if_neg hcode] at w1 w2
    have hb:((shP x).1==0)=false:=by rw[beq_eq_false_iff_ne];exact hcode
    obtain ⟨s',x',q1,q2,q3⟩:=go s1 x (h1.up (by omega)) hd
    refine ⟨s',x',Oe ?_ ?_,q2,q3⟩
    ·simp only[w2,Option.isSome_none,Bool.false_and,cond_false,Bool.cond_self]
    ·simp only[w1,Option.getD_some,Option.isSome_some,hb,Bool.and_self,Bool.true_and,cond_true,cond_false]
     exact q1
end M
namespace M
open Go.V (inB qg aP bG)
theorem ahI (t:ae) (h:t.sz<=1048576):M.nN t=some t:=adD aP t (by have:=bG;omega) h
theorem ahJ (t:ae) (h:MM t=true) (hz:t.sz<=1048576):M.nC t=some (t.Kind,t.Name,t.aQ,t.Kids,(1:Int),true,(0:Int),(0:Int),false,false,(0:Int),[]):=by
 unfold M.nC;simp only[ae.bM,aa1 t hz,h,ahI t hz,Option.getD_some,Option.isSome_some,Bool.not_true,cond_false,Bool.and_self,cond_true]
theorem ahK (t:ae) (room:Int) (h:MM t=true) (hz:t.sz<=1048576) (h1:1<=room) (h6:room<=6):M.nz t room=some (t.Kind,t.Name,t.aQ,t.Kids,room,false,(0:Int),(0:Int),false,false,(0:Int),[]):=by
 unfold M.nz;simp only[ae.bM,aa1 t hz,h,ahI t hz,decide_eq_true h1,decide_eq_true h6,Option.getD_some,Option.isSome_some,Bool.not_true,cond_false,Bool.and_self,cond_true]
theorem ahL (k:Int):(ae.mk k [] [] []).sz=0:=by rw[ae.jO];rfl
def ahM (x:ah) (s:ak):Int×(List UInt8)×(List (List UInt8))×(List M.ae)×Int×Bool×Int×Int×Bool×Bool×M.ak×(List M.af):=(x.aO.Kind,x.aO.Name,x.aO.aQ,x.aO.Kids,x.Room,x.bu,x.Put,x.qM,x.Shut,x.Gone,s,x.Buffer)
theorem aef {s:ak} {m:Int} (h:CX s m) (hm:m<=100000000):∃x s',M.zV s=some (ahM x s') /\ Hg x /\ CX s' (m+100):=by
 obtain ⟨tk,s1,e1,h1,hmem⟩:=PV h (by omega) [(9:Int),9,3,11,2] (by decide) (by decide)
 obtain ⟨rm,s2,e2,h2,hr0,hr6⟩:=nJ h1 (by omega) 6 (by omega) (by omega)
 obtain ⟨b,s3,e3,h3⟩:=Yv h2 (by omega) 4 (by omega) (by omega)
 obtain ⟨kk,s4,e4,h4,hk0,hk8⟩:=nJ h3 (by omega) 8 (by omega) (by omega)
 obtain ⟨k,rfl⟩:=Int.eq_ofNat_of_zero_le hk0;have ht:=aeb hmem;have hz:=ahL tk;have wr:Go.IntKind.wrap .i64 ((1:Int)+rm)=1+rm:=wrap_i64 (by omega) (by omega)
 have f2:=ahJ _ ht (by omega)
 have n2:=ahK _ (1+rm) ht (by omega) (by omega) (by omega)
 have tz:(ae.mk tk [] [] []).sz<=100:=by omega
 unfold M.zV
 cases b
 ·obtain ⟨s',x',q1,q2,q3⟩:=PW tk k aP s4 (m+1+1+1+1) (ah.mk (ae.mk tk [] [] []) (1+rm) false [] 0 0 false false) h4 (by omega) (by have:=bG;omega) (by omega) ⟨by show (0:Int)<=1+rm;omega,by show 1+rm<=6;omega,by show ((([]:List af).length:Nat):Int)<=1+rm;simp;omega,tz,fun v hv=>by cases hv⟩
  have q1':M.dm 0 [] 0 false 0 0 false false tk [] [] [] [] [] [] aP (k:Int) s4 (ae.mk tk [] [] []).Kind (ae.mk tk [] [] []).Name (ae.mk tk [] [] []).aQ (ae.mk tk [] [] []).Kids (1+rm) false 0 0 false false []=some (afu s' x'):=q1;refine ⟨x',s',ED ?_,q2,q3.up (by omega)⟩
  simp only[e1,e2,e3,e4,wr,n2,q1',Option.getD_some,Option.isSome_some,Bool.and_self,cond_true,cond_false]
  rfl
 ·obtain ⟨s',x',q1,q2,q3⟩:=PW tk k aP s4 (m+1+1+1+1) (ah.mk (ae.mk tk [] [] []) 1 true [] 0 0 false false) h4 (by omega) (by have:=bG;omega) (by omega) ⟨by show (0:Int)<=1;omega,by show (1:Int)<=6;omega,by show ((([]:List af).length:Nat):Int)<=1;simp,tz,fun v hv=>by cases hv⟩
  have q1':M.dm 0 [] 0 false 0 0 false false tk [] [] [] [] [] [] aP (k:Int) s4 (ae.mk tk [] [] []).Kind (ae.mk tk [] [] []).Name (ae.mk tk [] [] []).aQ (ae.mk tk [] [] []).Kids 1 true 0 0 false false []=some (afu s' x'):=q1;refine ⟨x',s',ED ?_,q2,q3.up (by omega)⟩
  simp only[e1,e2,e3,e4,wr,n2,f2,q1',Option.getD_some,Option.isSome_some,Bool.and_self,cond_true,cond_false]
  rfl
theorem afZ {x:ah} (h:Hg x) (t:ae) (a b c:Int) (p q r:Bool) (ht:t.sz<=20000):(ah.mk t a p x.Buffer b c q r).sz<=30000:=by
 rw[ah.jO];have:=h.buf
 show t.sz+lI af.sz x.Buffer<=30000
 omega
theorem afv {s:ak} {m:Int} (h:CX s m) (hm:m<=10000000):∃x s',M.zW s=some (x,s') /\ x.sz<=30000 /\ CX s' (m+40000):=by
 obtain ⟨x,s1,e1,hd,h1⟩:=aef h (by omega)
 obtain ⟨v,s2,e2,h2,hv0,ajF⟩:=nJ h1 (by omega) 16 (by omega) (by omega)
 have ht:=hd.ty;have hx0:=fun (a b c:Int) (p q r:Bool)=>afZ hd x.aO a b c p q r (by omega)
 unfold M.zW;simp only[e1,ahM,e2,Option.getD_some,Option.isSome_some,Bool.and_self,Bool.true_and,Bool.and_true,cond_true,ae.eta]
 cases c0:(v==(0:Int))
 ·cases c1:(v==(1:Int))
  ·cases c2:(v==(2:Int))
   ·cases c3:(v==(3:Int))
    ·cases c4:(v==(4:Int))
     ·cases c5:(v==(5:Int))
      ·exact ⟨_,s2,rfl,hx0 _ _ _ _ _ _,h2.up (by omega)⟩
      ·have hl:=hd.len;have h6:=hd.r6
       have hc:=yX (a:=x.Buffer.length) (b:=1) (by omega)
       simp only[cond_true,cond_false,List.length_cons,List.length_nil,Nat.zero_add,hc];refine ⟨_,s2,rfl, ?_,h2.up (by omega)⟩
       rw[ah.jO]
       show x.aO.sz+lI af.sz (x.Buffer++[af.mk 4 200 [] []])<=30000
       have hb:=hd.buf;have h0:=aec 4 200;rw[KR,BO];omega
     ·exact ⟨_,s2,rfl,hx0 _ _ _ _ _ _,h2.up (by omega)⟩
    ·obtain ⟨t,s3,e3,h3,hz⟩:=any_ok h2 (by omega)
     simp only[cond_true,cond_false,e3,Tm,Option.getD_some,Option.isSome_some,Bool.and_self,ae.eta];exact ⟨_,s3,rfl,afZ hd t _ _ _ _ _ _ hz,h3.up (by omega)⟩
   ·exact ⟨_,s2,rfl,hx0 _ _ _ _ _ _,h2.up (by omega)⟩
  ·obtain ⟨n,s3,e3,h3, -, -⟩:=nJ h2 (by omega) 3 (by omega) (by omega)
   simp only[cond_true,cond_false,e3,Option.getD_some,Option.isSome_some,Bool.and_self];exact ⟨_,s3,rfl,hx0 _ _ _ _ _ _,h3.up (by omega)⟩
 ·obtain ⟨n,s3,e3,h3, -⟩:=PV h2 (by omega) [(0:Int),6,7] (by decide) (by decide)
  simp only[cond_true,cond_false,e3,Option.getD_some,Option.isSome_some,Bool.and_self];exact ⟨_,s3,rfl,hx0 _ _ _ _ _ _,h3.up (by omega)⟩
end M
namespace M
open Go.V (inB qg aP bG)
theorem ai6 {Y:Type} {F:Nat->Int->Option Y} {y:Option Y} (n:Nat) (hn:n<=2097152) (step:∀f k,k<n->F (f+1) (k:Int)=F f ((k+1:Nat):Int)) (stop:∀f,F (f+1) (n:Int)=y):F aP 0=y:=by
 have key:∀f k,k<=n->n-k<f->F f (k:Int)=y:=by
  intro f
  induction f with
  |zero=>intro k h1 h2;omega
  |succ f ih=>
   intro k h1 h2
   rcases Nat.lt_or_ge k n with hk |hk
   ·rw[step f k hk];exact ih _ (by omega) (by omega)
   ·have:k=n:=by omega
    subst this;exact stop f
 exact key aP 0 (Nat.zero_le _) (by have:=bG;omega)
theorem alD (a:List (List UInt8)) (ha:a.length<=1048576):M.aiz a a=some true:=by
 unfold M.aiz;rw[ai6 (F:=M.afE a a) (y:=some (.inr ())) a.length (by omega) (fun f k hk=>by
  rw[M.afE];simp[hk,getD_lt hk,nM hk (Cm ha)]) (fun f=>by rw[M.afE];simp)]
 simp
theorem ama : ∀(n:Nat) (t:ae) (D:Nat),t.sz<n->t.sz<=1000000->lV t+D<=100->M.ae2 n t t (D:Int)=some true
 |0,t,D,h,_,_=>by omega
 |n+1,t,D,h,h2,h3=>by
  have hs:=ae.jO t;have hll:=lC List.length t.aQ;have hkl:=lC ae.sz t.Kids;have hdp:=UO t
  show M.aiI (M.ae2 n) t t (D:Int)=_
  unfold M.aiI;have anL:decide ((100:Int)<(D:Int))=false:=by rw[decide_eq_false_iff_not];omega
  have e:=ai6 (F:=fun f i=>M.ae0 (M.ae2 n) (D:Int) f i t t) (y:=some (.inr ())) t.Kids.length (by omega) (fun f k hk=>by
   show M.ae0 (M.ae2 n) (D:Int) (f+1) (k:Int) t t=_
   rw[M.ae0];have hm:=List.getElem_mem hk;have hlt:=ae.rD hm;have hd:=alq t.Kids _ hm;rw[PR] at h3;have w:Go.IntKind.wrap .i64 ((D:Int)+1)=((D+1:Nat):Int):=by rw[wrap_i64 (by omega) (by omega)];omega
   have er:=ama n t.Kids[k] (D+1) (by omega) (by omega) (by omega)
   simp only[ae.bM,Int.ofNat_lt,hk,decide_true,Int.toNat_natCast,getD_lt hk,w,er,dM,Option.getD_some,Option.isSome_some,Bool.not_true,Bool.and_self,Bool.and_true,cond_true,cond_false,nM hk (by omega:t.Kids.length<2^62)]) (fun f=>by
   show M.ae0 (M.ae2 n) (D:Int) (f+1) _ t t=_
   rw[M.ae0];simp)
  have e':M.ae0 (M.ae2 n) (D:Int) aP 0 t t=some (.inr ()):=e;simp only[ae.bM,anL,alD t.aQ (by omega),bne_self_eq_false,beq_self_eq_true,Option.getD_some,Option.isSome_some,Bool.not_true,Bool.or_self,cond_false,e',Bool.true_or,Bool.and_self,cond_true]
theorem ang {t:ae} (h:t.sz<=1000000) (hd:lV t<=50):M.aiB t t=some true:=by
 have e:=ama aP t 1 (by have:=bG;omega) h (by omega)
 have e':M.aj7 t t 1=some true:=e;unfold M.aiB;simp only[ae.bM,e',Option.getD_some,Option.isSome_some,Bool.and_self,cond_true]
theorem alJ : ∀(n:Nat) (v:af),v.sz<n->v.sz<=1000000->M.adr n v v=some true
 |0,v,h,_=>by omega
 |n+1,v,h,h2=>by
  have hs:=af.jO v;have hkl:=lC af.sz v.Kids
  show M.ah3 (M.adr n) v v=_
  unfold M.ah3;have e:=ai6 (F:=fun f i=>M.acS (M.adr n) f i v v) (y:=some (.inr ())) v.Kids.length (by omega) (fun f k hk=>by
   show M.acS (M.adr n) (f+1) (k:Int) v v=_
   rw[M.acS];have hmem:=zA af.sz v.Kids v.Kids[k] (List.getElem_mem hk);have hpos:=Jk af.sz v.Kids v.Kids[k] (List.getElem_mem hk);have er:=alJ n v.Kids[k] (by omega) (by omega)
   simp only[af.bM,Int.ofNat_lt,hk,decide_true,Int.toNat_natCast,getD_lt hk,er,dM,Option.getD_some,Option.isSome_some,Bool.not_true,Bool.and_self,Bool.and_true,cond_true,cond_false,nM hk (by omega:v.Kids.length<2^62)]) (fun f=>by
   show M.acS (M.adr n) (f+1) _ v v=_
   rw[M.acS];simp)
  have e':M.acS (M.adr n) aP 0 v v=some (.inr ()):=e;simp only[af.bM,bne_self_eq_false,beq_self_eq_true,Bool.not_true,Bool.or_self,cond_false,e']
theorem anh (v:af) (h:v.sz<=1000000):M.ajx v v=some true:=alJ aP v (by have:=bG;omega) h
theorem amQ (l:List af) (h:lI af.sz l<=1000000):M.afD l l=some true:=by
 have hl:=lC af.sz l;unfold M.afD;have e:=ai6 (F:=fun f i=>M.acI l l f i) (y:=some (.inr ())) l.length (by omega) (fun f k hk=>by
  show M.acI l l (f+1) (k:Int)=_
  rw[M.acI];have hmem:=zA af.sz l l[k] (List.getElem_mem hk);have er:=anh l[k] (by omega)
  simp only[af.bM,Int.ofNat_lt,hk,decide_true,Int.toNat_natCast,getD_lt hk,er,dM,Option.getD_some,Option.isSome_some,Bool.not_true,Bool.and_self,Bool.and_true,cond_true,cond_false,nM hk (by omega:l.length<2^62)]) (fun f=>by
  show M.acI l l (f+1) _=_
  rw[M.acI];simp)
 have e':M.acI l l aP 0=some (.inr ()):=e;simp only[bne_self_eq_false,cond_false,e']
theorem ani {s:ah} (h:s.sz<=1000000) (hd:lV s.aO<=50):M.ahg s s=some true:=by
 rw[ah.jO] at h;unfold M.ahg;simp only[ae.bM,ang (t:=s.aO) (by omega) hd,amQ s.Buffer (by omega),beq_self_eq_true,Option.getD_some,Option.isSome_some,Bool.and_self,Bool.true_or,cond_true]
end M
namespace M
open Go.V (inB qg aP bG)
theorem anM (t:ae) (h:MM t=true) (hz:t.sz<=1048576):M.af6 t=some (ah.mk t 1 true [] 0 0 false false,(0:Int)):=by
 unfold M.af6;simp only[ae.bM,aa1 t hz,h,ahI t hz,Option.getD_some,Option.isSome_some,Bool.not_true,cond_false,Bool.and_self,cond_true]
theorem anN (t:ae) (room:Int) (h:MM t=true) (hz:t.sz<=1048576) (h1:1<=room) (h6:room<=6):M.aer t room=some (ah.mk t room false [] 0 0 false false,(0:Int)):=by
 unfold M.aer;simp only[ae.bM,aa1 t hz,h,ahI t hz,decide_eq_true h1,decide_eq_true h6,Option.getD_some,Option.isSome_some,Bool.not_true,cond_false,Bool.and_self,cond_true]
abbrev anj := Int×(List UInt8)×Int×Bool×Int×Int×Bool×Bool×(List UInt8)×Int×Int×M.ah×(List M.dZ)×(List (List UInt8))×(List M.ae)×(List M.af)
def alE (s:ak) (x:ah) (out:List dZ):anj:=(0,[],0,false,0,0,false,false,s.code,s.at_,s.seed,x,out,[],[],[])
noncomputable def pL (f:Nat) (k:Int) (s:ak) (x:ah) (out:List dZ):Option anj:=M.abT 0 [] 0 false 0 0 false false [] [] [] f k s.code s.at_ s.seed x out
theorem akD (s:ak):ak.mk s.code s.at_ s.seed=s:=rfl
theorem ak5 (x:ah):∀(k f:Nat) (s:ak) (m:Int) (out:List dZ),CX s m->m+10*(k:Int)<=10000000000->k<f->out.length+k<=100->
 ∃s' out',pL f (k:Int) s x out=some (alE s' x out') /\ CX s' (m+10*(k:Int)) /\ out'.length<=100
 |k,0,s,m,out,_,_,h,_=>by omega
 |0,f+1,s,m,out,h,hm,_,hl=>by
  refine ⟨s,out, ?_,by simpa using h,by omega⟩
  unfold pL;rw[M.abT,ah.bM]
  rfl
 |k+1,f+1,s,m,out,h,hm,hf,hl=>by
  have hc:decide ((0:Int)<((k+1:Nat):Int))=true:=by rw[decide_eq_true_eq];omega
  have hw:Go.IntKind.wrap .i64 (((k+1:Nat):Int)-1)=(k:Int):=(wrap_i64 (n:=((k+1:Nat):Int)-1) (by omega) (by omega)).trans (by omega)
  obtain ⟨b,s1,e1,h1⟩:=Yv h (by omega) 2 (by omega) (by omega)
  obtain ⟨v,s2,e2,h2, -, -⟩:=nJ h1 (by omega) 5 (by omega) (by omega)
  obtain ⟨b2,s3,e3,h3⟩:=Yv h2 (by omega) 14 (by omega) (by omega)
  have als:=yX (a:=out.length) (b:=1) (by omega)
  have go:∀a:dZ,∃s' out',pL f (k:Int) s3 x (out++[a])=some (alE s' x out') /\ CX s' (m+10*((k+1:Nat):Int)) /\ out'.length<=100:=fun a=>by
   obtain ⟨s',o',q1,q2,q3⟩:=ak5 x k f s3 (m+10) (out++[a]) (h3.up (by omega)) (by omega) (by omega) (by rw[List.length_append];simp only[List.length_cons,List.length_nil];omega)
   exact ⟨s',o',q1,q2.up (by omega),q3⟩
  unfold pL;rw[M.abT];simp only[hc,cond_true,akD,e1,e2,e3,Option.getD_some,Option.isSome_some,Bool.and_self,hw,List.length_cons,List.length_nil,Nat.zero_add,als,ah.bM]
  cases b2
  ·exact go _
  ·exact go _
theorem ank : MM (ae.mk 9 [] [] [])=true:=aeb (by simp)
theorem alu {code:List UInt8} (hc:code.length<=1048576):∃x first acts,M.afe code=some (x,first,acts) /\ x.sz<=30000:=by
 obtain ⟨rm,s1,e1,h1,hr0,hr6⟩:=nJ (s:=ak.mk code 0 0) (m:=0) ⟨hc,Int.le_refl _,Int.le_refl _⟩ (by omega) 6 (by omega) (by omega)
 obtain ⟨b5,s2,e2,h2⟩:=Yv h1 (by omega) 5 (by omega) (by omega)
 obtain ⟨b8,s3,e3,h3⟩:=Yv h2 (by omega) 8 (by omega) (by omega)
 have hz:=ahL 9;have wr:Go.IntKind.wrap .i64 ((1:Int)+rm)=1+rm:=wrap_i64 (by omega) (by omega)
 have f2:=anM _ ank (by omega)
 have n2:=anN _ (1+rm) ank (by omega) (by omega) (by omega)
 have fin:∀(x:ah) (s4:ak) (m:Int),CX s4 m->m<=1000000->x.sz<=30000->∃kk s5 s6 out b s7 v1 s8 v2 s9 v3 s10,M.aJ 24 s4=some (kk,s5) /\ M.abT 0 [] 0 false 0 0 false false [] [] [] aP kk s5.code s5.at_ s5.seed x []=some (alE s6 x out) /\ out.length<=100 /\
  M.dY 20 s6=some (b,s7) /\ M.bU [(-(1:Int)),9] s7=some (v1,s8) /\ M.bU [(0:Int),5,(-(1000000:Int)),1000000,1000001] s8=some (v2,s9) /\ M.bU [(0:Int),5,(-(1000000:Int)),1000000,1000001] s7=some (v3,s10):=fun x s4 m h4 hm hx=>by
  obtain ⟨kk,s5,e4,h5,hk0,ao1⟩:=nJ h4 (by omega) 24 (by omega) (by omega)
  obtain ⟨k,rfl⟩:=Int.eq_ofNat_of_zero_le hk0;obtain ⟨s6,out,q1,h6,ho⟩:=ak5 x k aP s5 (m+1) [] h5 (by omega) (by have:=bG;omega) (by simp;omega)
  obtain ⟨b,s7,e7,h7⟩:=Yv h6 (by omega) 20 (by omega) (by omega)
  obtain ⟨v1,s8,e8,h8⟩:=ad8 h7 (by omega) [(-(1:Int)),9] (by decide) (by decide)
  obtain ⟨v2,s9,e9,h9⟩:=ad8 h8 (by omega) [(0:Int),5,(-(1000000:Int)),1000000,1000001] (by decide) (by decide)
  obtain ⟨v3,s10,e10,h10⟩:=ad8 h7 (by omega) [(0:Int),5,(-(1000000:Int)),1000000,1000001] (by decide) (by decide)
  exact ⟨k,s5,s6,out,b,s7,v1,s8,v2,s9,v3,s10,e4,q1,ho,e7,e8,e9,e10⟩
 have nsz:∀(a:Int) (p:Bool),(ah.mk (ae.mk 9 [] [] []) a p [] 0 0 false false).sz<=30000:=fun a p=>by rw[ah.jO];show (ae.mk 9 [] [] []).sz+0<=30000;omega
 unfold M.afe;simp only[e1,e2,e3,wr,f2,n2,Option.getD_some,Option.isSome_some,Bool.and_self]
 cases b8
 ·cases b5
  ·obtain ⟨kk,s5,s6,out,b,s7,v1,s8,v2,s9,v3,s10,g1,g2,g3,g4,g5,g6,g7⟩:=fin _ s3 _ h3 (by omega) (nsz (1+rm) false)
   have als:=yX (a:=out.length) (b:=1) (by omega)
   simp only[cond_false,ah.bM,g1,g2,g4,g5,g6,g7,alE,akD,Option.getD_some,Option.isSome_some,Bool.and_self,List.length_cons,List.length_nil,Nat.zero_add,als,cond_true]
   cases b
   ·exact ⟨_,_,_,rfl,nsz _ _⟩
   ·exact ⟨_,_,_,rfl,nsz _ _⟩
  ·obtain ⟨kk,s5,s6,out,b,s7,v1,s8,v2,s9,v3,s10,g1,g2,g3,g4,g5,g6,g7⟩:=fin _ s3 _ h3 (by omega) (nsz 1 true)
   have als:=yX (a:=out.length) (b:=1) (by omega)
   simp only[cond_false,cond_true,ah.bM,g1,g2,g4,g5,g6,g7,alE,akD,Option.getD_some,Option.isSome_some,Bool.and_self,List.length_cons,List.length_nil,Nat.zero_add,als]
   cases b
   ·exact ⟨_,_,_,rfl,nsz _ _⟩
   ·exact ⟨_,_,_,rfl,nsz _ _⟩
 ·obtain ⟨x,s4,e4,hx,h4⟩:=afv h3 (by omega)
  obtain ⟨kk,s5,s6,out,b,s7,v1,s8,v2,s9,v3,s10,g1,g2,g3,g4,g5,g6,g7⟩:=fin x s4 _ h4 (by omega) hx
  have als:=yX (a:=out.length) (b:=1) (by omega)
  cases b5
  ·simp only[cond_false,cond_true,ah.bM,e4,g1,g2,g4,g5,g6,g7,alE,akD,Option.getD_some,Option.isSome_some,Bool.and_self,List.length_cons,List.length_nil,Nat.zero_add,als]
   cases b
   ·exact ⟨_,_,_,rfl,hx⟩
   ·exact ⟨_,_,_,rfl,hx⟩
  ·simp only[cond_false,cond_true,ah.bM,e4,g1,g2,g4,g5,g6,g7,alE,akD,Option.getD_some,Option.isSome_some,Bool.and_self,List.length_cons,List.length_nil,Nat.zero_add,als]
   cases b
   ·exact ⟨_,_,_,rfl,hx⟩
   ·exact ⟨_,_,_,rfl,hx⟩
structure amu (f0:Int) (y:ah) (gs:List af):Prop where
 f1: -1000000<=f0
 f2:f0<=1000000
 sv:SV y
 vals:gs=ahx f0 gs.length
 buf:y.Buffer=ahx (f0+(gs.length:Int)) y.Buffer.length
 num:y.qM=(gs.length:Int)
 put:y.Gone=true \/ y.Put=y.qM+(y.Buffer.length:Int)
 small:gs.length<=1000000
 alF:y.Buffer.length<=6
theorem alG {f0:Int} {w:Nat} {a b:List af} (h:a++b=ahx f0 w):a=ahx f0 a.length /\ b=ahx (f0+(a.length:Int)) b.length:=by
 have hl:a.length+b.length=w:=by have:=congrArg List.length h;rwa [List.length_append,ajl] at this
 rw[<-hl,ak4] at h;exact List.append_inj h (by rw[ajl])
theorem amb {s:ah} {first:Int} {l:List dZ} (hc:(ai0 s first l).2.2=0) (hp:s.Put=0):amu first (ai0 s first l).1 (ai0 s first l).2.1:=by
 unfold ai0 at hc ⊢
 cases hs:stB s
 ·rw[hs] at hc;exact absurd hc (show (1:Int)≠0 by decide)
 ·rw[hs] at hc
  cases hk:(s.aO.Kind !=9)
  ·rw[hk] at hc
   cases hf:(decide ((-(1000000:Int))<=first)&&decide (first<=(1000000:Int)))
   ·rw[hf] at hc;exact absurd hc (show (2:Int)≠0 by decide)
   ·rw[hf] at hc
    cases h60:decide ((60:Int)<(l.length:Int))
    ·rw[h60] at hc
     cases hb:l.any aik
     ·rw[Bool.and_eq_true,decide_eq_true_eq,decide_eq_true_eq] at hf
      have hk9:s.aO.Kind=9:=by simpa using hk
      have hA:∀a∈l,aik a=false:=fun a ha=>by
       have:=List.any_eq_false.1 hb a ha;simpa using this
      obtain ⟨w,J⟩:=al9 hf.1 hf.2 hk9 l (s,first,[]) 0 (amP (ahu hs) hp first) hA
      simp only[Bool.not_true,cond_false]
      generalize l.foldl afP (s,first,[])=st at J
      obtain ⟨y,f,got⟩:=st;have hw:=J.anf;have hm:=ZI y;obtain ⟨sv,hty,aiU,hput,akh,hlive,ajR⟩:=J;simp only at sv hty aiU hput akh hlive ajR ⊢;have q1:=sv.put;have q2:=sv.len;have q3:=sv.r6
      cases hg:y.Gone
      ·obtain ⟨c1,c2⟩:=alG (hlive hg)
       have h4:=sv.live hg;exact ⟨hf.1,hf.2,sv,c1,c2,akh, .inr (by omega),by omega,by omega⟩
      ·have hb0:y.Buffer=[]:=List.eq_nil_of_length_eq_zero (sv.gone hg)
       exact ⟨hf.1,hf.2,sv,ajR hg,by rw[hb0];rfl,akh, .inl hg,by omega,by omega⟩
     ·rw[hb] at hc;exact absurd hc (show (1:Int)≠0 by decide)
    ·rw[h60] at hc;exact absurd hc (show (4:Int)≠0 by decide)
  ·rw[hk] at hc;exact absurd hc (show (7:Int)≠0 by decide)
theorem amv {s:ah} {first:Int} {l:List dZ}:lV (ai0 s first l).1.aO<=50 /\ (ai0 s first l).1.sz<=1000:=by
 have h0:lV RG.aO<=50 /\ RG.sz<=1000:=⟨by decide,by rw[ae9];omega⟩
 unfold ai0
 cases hs:stB s
 ·exact h0
 ·cases hk:(s.aO.Kind !=9)
  ·cases hf:(decide ((-(1000000:Int))<=first)&&decide (first<=(1000000:Int)))
   ·exact h0
   ·cases h60:decide ((60:Int)<(l.length:Int))
    ·cases hb:l.any aik
     ·have ht:∀(l:List dZ) (st:PSt),(l.foldl afP st).1.aO=st.1.aO:=fun l=>by
       induction l with
       |nil=>intro st;rfl
       |cons a r ih=>
        intro st;rw[List.foldl_cons,ih];unfold afP
        cases (a.Write&&a.Close)
        ·cases a.Close
         ·cases a.Write
          ·exact (aed _ _).1
          ·exact (aee _ _).1
         ·show (lvP st.1).2.aO=_
          unfold lvP;cases st.1.Gone<;>rfl
        ·show (shP st.1).2.aO=_
         unfold shP;cases st.1.Shut<;>cases ((st.1.bu&& !st.1.Gone)&&(st.1.Put==0))<;>rfl
      simp only[Bool.not_true,cond_false];have hJ:=(ajU l 0 _ (start hs (by simpa using hk) first)).1.buf
      have hto:=XX (Xl hs).1;have h9:=ty9 hto (by simpa using hk)
      have h4:lV s.aO<=4:=by
       unfold tOk at hto;simp only[Bool.and_eq_true,decide_eq_true_eq] at hto;exact hto.1.1
      have hty:=ht l (s,first,[])
      refine ⟨by rw[hty];show lV s.aO<=50;omega, ?_⟩
      rw[ah.jO,hty]
      show s.aO.sz+_<=1000
      omega
     ·exact h0
    ·exact h0
  ·exact h0
theorem alp (code:List UInt8):M.aif code=some true:=by
 unfold M.aif M.NF
 by_cases hs:code.length<=1048576
 ·obtain ⟨x,first,acts,e1,hz⟩:=alu hs
  have h0:(decide ((1048576:Int)<((code.length:Nat):Int))||decide ((1048576:Int)<((([]:List UInt8).length:Nat):Int)))=false:=by
   rw[decide_eq_false (by omega),decide_eq_false (by simp)];rfl
  have hx:x.sz<=1048576:=by omega
  have e2:=amo x first acts hx
  have e3:=amn x first acts hx
  have hsz:=alZ x first acts hx
  have hdt:=amv (s:=x) (first:=first) (l:=acts)
  have hend:=fun h1 h2=>amb (s:=x) (first:=first) (l:=acts) h1 h2
  generalize ai0 x first acts=r at e2 e3 hsz hdt hend
  obtain ⟨y,got,c⟩:=r;simp only at hsz hdt hend;have e4:=ani (show y.sz<=1000000 by omega) hdt.1
  have e5:=MK y hsz.1;have ey:M.ah.mk (M.ae.mk y.aO.Kind y.aO.Name y.aO.aQ y.aO.Kids) y.Room y.bu y.Buffer y.Put y.qM y.Shut y.Gone=y:=by rw[ae.eta]
  simp only[h0,e1,ah.bM,e2,e3,ah.afO,ey,e4,Option.getD_some,Option.isSome_some,cond_false,bne_self_eq_false,Bool.or_self,Bool.not_true,Bool.and_self,Bool.true_or,cond_true]
  by_cases hc:c=0
  ·subst hc
   by_cases hp:x.Put=0
   ·have E:=hend rfl hp
    have hp':(x.Put !=0)=false:=by rw[hp];rfl
    have l0:M.ac8 first y.aO.Kind y.aO.Name y.Room y.bu y.Put y.qM y.Shut y.Gone got y.aO.aQ y.aO.Kids y.Buffer aP 0=some (.inr (first,y.aO.Kind,y.aO.Name,y.Room,y.bu,y.Put,y.qM,y.Shut,y.Gone,got,y.aO.aQ,y.aO.Kids,y.Buffer)):=by
     refine ai6 (F:=fun f i=>M.ac8 first y.aO.Kind y.aO.Name y.Room y.bu y.Put y.qM y.Shut y.Gone got y.aO.aQ y.aO.Kids y.Buffer f i) got.length (by have:=E.small;omega) (fun f k hk=> ?_) (fun f=> ?_)
     ·show M.ac8 first y.aO.Kind y.aO.Name y.Room y.bu y.Put y.qM y.Shut y.Gone got y.aO.aQ y.aO.Kids y.Buffer (f+1) (k:Int)=_
      rw[M.ac8];have f1:=E.f1;have f2:=E.f2;have sm:=E.small;have hg:got.getD k af.zero=ag8 (first+(k:Int)):=by rw[E.vals];exact alr first hk
      have hn:(ag8 (first+(k:Int))).Num=first+(k:Int):=rfl
      have w:Go.IntKind.wrap .i64 (first+(k:Int))=first+(k:Int):=wrap_i64 (by omega) (by omega)
      simp only[Int.ofNat_lt,hk,decide_true,Int.toNat_natCast,hg,hn,w,dM,bne_self_eq_false,cond_true,cond_false,Bool.and_self,nM hk (by omega:got.length<2^62)]
     ·show M.ac8 first y.aO.Kind y.aO.Name y.Room y.bu y.Put y.qM y.Shut y.Gone got y.aO.aQ y.aO.Kids y.Buffer (f+1) _=_
      rw[M.ac8];simp
    have l1:M.ado first y.aO.Kind y.aO.Name y.Room y.bu y.Put y.qM y.Shut y.Gone got y.aO.aQ y.aO.Kids y.Buffer aP 0=some (.inr (y.aO.Kind,y.aO.Name,y.Room,y.bu,y.Put,y.qM,y.Shut,y.Gone,got,y.aO.aQ,y.aO.Kids,y.Buffer)):=by
     refine ai6 (F:=fun f i=>M.ado first y.aO.Kind y.aO.Name y.Room y.bu y.Put y.qM y.Shut y.Gone got y.aO.aQ y.aO.Kids y.Buffer f i) y.Buffer.length (by have:=E.alF;omega) (fun f k hk=> ?_) (fun f=> ?_)
     ·show M.ado first y.aO.Kind y.aO.Name y.Room y.bu y.Put y.qM y.Shut y.Gone got y.aO.aQ y.aO.Kids y.Buffer (f+1) (k:Int)=_
      rw[M.ado];have f1:=E.f1;have f2:=E.f2;have sm:=E.small;have sm2:=E.alF;have hg:y.Buffer.getD k af.zero=ag8 (first+(got.length:Int)+(k:Int)):=by rw[E.buf];exact alr _ hk
      have hn:(ag8 (first+(got.length:Int)+(k:Int))).Num=first+(got.length:Int)+(k:Int):=rfl
      have w1:Go.IntKind.wrap .i64 ((got.length:Int)+(k:Int))=(got.length:Int)+(k:Int):=wrap_i64 (by omega) (by omega)
      have w:Go.IntKind.wrap .i64 (first+((got.length:Int)+(k:Int)))=first+(got.length:Int)+(k:Int):=(wrap_i64 (by omega) (by omega)).trans (by omega)
      simp only[Int.ofNat_lt,hk,decide_true,Int.toNat_natCast,hg,hn,w1,w,dM,bne_self_eq_false,cond_true,cond_false,Bool.and_self,nM hk (by omega:y.Buffer.length<2^62)]
     ·show M.ado first y.aO.Kind y.aO.Name y.Room y.bu y.Put y.qM y.Shut y.Gone got y.aO.aQ y.aO.Kids y.Buffer (f+1) _=_
      rw[M.ado];simp
    have f1:=E.num;have f2:=E.small;have f3:=E.alF;have w:Go.IntKind.wrap .i64 (y.qM+(y.Buffer.length:Int))=y.qM+(y.Buffer.length:Int):=wrap_i64 (by omega) (by omega)
    have g1:(y.qM==(got.length:Int))=true:=by rw[beq_iff_eq];exact f1
    have g2:(y.Gone||(y.Put==y.qM+(y.Buffer.length:Int)))=true:=by
     rw[Bool.or_eq_true,beq_iff_eq];exact E.put
    simp only[hp',bne_self_eq_false,Bool.or_self,cond_false,l0,l1,ey,e5,ahv E.sv,w,g1,g2,Option.getD_some,Option.isSome_some,Bool.and_self,Bool.true_or,cond_true]
   ·have hp':(x.Put !=0)=true:=bne_iff_ne.2 hp
    simp only[hp',Bool.or_true,cond_true]
  ·have hc':(c !=0)=true:=bne_iff_ne.2 hc
   simp only[hc',Bool.true_or,cond_true]
 ·have h0:(decide ((1048576:Int)<((code.length:Nat):Int))||decide ((1048576:Int)<((([]:List UInt8).length:Nat):Int)))=true:=by
   rw[decide_eq_true (by omega)];rfl
  simp only[h0,Option.getD_some,cond_true]
end M
