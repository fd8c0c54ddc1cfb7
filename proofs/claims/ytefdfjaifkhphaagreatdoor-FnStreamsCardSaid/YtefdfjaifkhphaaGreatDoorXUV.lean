/-
  STREAMS: a valid stream stays valid; what is read is what was written, in order.
-/
import Derived.Test.YtefdfjaifkhphaaGreatDoorXUMK
set_option linter.unusedVariables false
set_option linter.unusedSimpArgs false
namespace M
open Go.V (inB qg aP bG)
structure SV (s:ah):Prop where
 ty:MM s.aO=true
 r1:1<=s.Room
 r6:s.Room<=6
 fut:s.bu=true->s.Room=1
 len:(s.Buffer.length:Int)<=s.Room
 buf:V8 s=true
 got:0<=s.qM
 put:s.qM<=s.Put
 most:s.Put<=Hq s
 gone:s.Gone=true->s.Buffer.length=0
 live:s.Gone=false->s.Put-s.qM=(s.Buffer.length:Int)
 last:s.bu=true->s.Shut=true->s.Put=1 \/ s.Gone=true
theorem ane {b:Bool} {P:Prop} (h:b=false) (q:b=true):P:=by rw[h] at q;cases q
theorem al7 {b:Bool} {P:Prop} (h:b=true) (q:b=false):P:=by rw[h] at q;cases q
theorem ZI (s:ah):Hq s<=1000000:=by unfold Hq;split<;>omega
theorem ahu {s:ah} (h:stB s=true):SV s:=by
 obtain ⟨f1,f2,f3,f4,f5,f6,f7,f8⟩:=Xl h;unfold stB at h;simp only[Bool.and_eq_true,Bool.or_eq_true,decide_eq_true_eq,Bool.not_eq_true',Bool.or_eq_false_iff,Bool.and_eq_false_iff,decide_eq_false_iff_not,beq_iff_eq,Bool.not_eq_false'] at h;have hw:Go.IntKind.wrap .i64 (s.Put-s.qM)=s.Put-s.qM:=wrap_i64 (by omega) (by omega)
 rw[hw] at h;refine ⟨f1,f2,f3,fun hf=> ?_,f4,f5,f6,f7, ?_,fun hg=> ?_,fun hg=> ?_,fun hf hs=> ?_⟩
 ·rcases h.1.1.1.2.2 with h |h
  ·rw[hf] at h;cases h
  ·exact h
 ·have:=h.1.2.1.2.2;exact this
 ·rcases h.1.2.2.1 with h |h
  ·rw[hg] at h;cases h
  ·omega
 ·rcases h.1.2.2.2 with h |h
  ·rw[hg] at h;cases h
  ·exact h
 ·rcases h.2 with (h |h) |h
  ·rcases h with h |h
   ·rw[hf] at h;cases h
   ·rw[hs] at h;cases h
  ·exact .inl h
  ·exact .inr h
theorem ahv {s:ah} (h:SV s):stB s=true:=by
 have hm:=ZI s;have h1:=h.put;have h2:=h.got;have h3:=h.most;have hw:Go.IntKind.wrap .i64 (s.Put-s.qM)=s.Put-s.qM:=wrap_i64 (by omega) (by omega)
 unfold stB;rw[hw];simp only[Bool.and_eq_true,Bool.or_eq_true,decide_eq_true_eq,Bool.not_eq_true',Bool.or_eq_false_iff,Bool.and_eq_false_iff,decide_eq_false_iff_not,beq_iff_eq,Bool.not_eq_false'];refine ⟨⟨⟨⟨h.ty,⟨h.r1,h.r6⟩, ?_⟩,h.len,h.buf⟩,⟨by omega,h.put,h.most⟩, ?_, ?_⟩, ?_⟩
 ·cases hf:s.bu
  ·exact .inl rfl
  ·exact .inr (h.fut hf)
 ·cases hg:s.Gone
  ·exact .inl rfl
  ·have:=h.gone hg;exact .inr (by omega)
 ·cases hg:s.Gone
  ·exact .inr (h.live hg)
  ·exact .inl rfl
 ·cases hf:s.bu
  ·exact .inl (.inl (.inl rfl))
  ·cases hs:s.Shut
   ·exact .inl (.inl (.inr rfl))
   ·rcases h.last hf hs with h |h
    ·exact .inl (.inr h)
    ·exact .inr h
theorem amM {s:ah} (h:SV s):SV (shP s).2:=by
 unfold shP
 cases hs:s.Shut
 ·cases hc:(s.bu&& !s.Gone)&&(s.Put==0)
  ·refine ⟨h.ty,h.r1,h.r6,h.fut,h.len,h.buf,h.got,h.put,h.most,h.gone,h.live,fun hf _=> ?_⟩
   cases hg:s.Gone
   ·left
    have hf':s.bu=true:=hf;rw[hf',hg] at hc;have h0:s.Put≠0:=by simpa using hc
    have h1:=h.most;have h2:=h.got;have h3:=h.put;unfold Hq at h1;rw[hf',if_pos rfl] at h1
    show s.Put=1;omega
   ·exact .inr rfl
  ·exact h
 ·exact h
theorem amN {s:ah} (h:SV s):SV (lvP s).2:=by
 unfold lvP
 cases hg:s.Gone
 ·exact ⟨h.ty,h.r1,h.r6,h.fut,by have:=h.r1;simp only[cond_false,List.length_nil];omega,rfl,h.got,h.put,h.most,fun _=>rfl,fun q=>(by cases q),fun _ _=> .inr rfl⟩
 ·exact h
theorem ahw {s:ah} (h:SV s) (hg:s.Gone=false) (n:Nat) (hn:n<=s.Buffer.length):SV (ah.mk s.aO s.Room s.bu (s.Buffer.drop n) s.Put (Go.IntKind.wrap .i64 (s.qM+(n:Int))) s.Shut s.Gone):=by
 have hm:=ZI s;have h1:=h.put;have h2:=h.got;have h3:=h.most;have h4:=h.live hg;have h5:=h.len;have h6:=h.r6;have hw:Go.IntKind.wrap .i64 (s.qM+(n:Int))=s.qM+(n:Int):=wrap_i64 (by omega) (by omega)
 rw[hw];refine ⟨h.ty,h.r1,h.r6,h.fut, ?_, ?_, ?_, ?_,h.most,fun q=> ?_,fun _=> ?_,h.last⟩
 ·show ((s.Buffer.drop n).length:Int)<=s.Room;rw[List.length_drop];omega
 ·have hb:=h.buf
  unfold V8 at hb ⊢;rw[List.all_eq_true] at hb ⊢;exact fun v hv=>hb v (List.mem_of_mem_drop hv)
 ·show 0<=s.qM+(n:Int);omega
 ·show s.qM+(n:Int)<=s.Put;omega
 ·have q':s.Gone=true:=q
  rw[hg] at q';cases q'
 ·show s.Put-(s.qM+(n:Int))=((s.Buffer.drop n).length:Int);rw[List.length_drop];omega
theorem amO {s:ah} (h:SV s) (l:List af) (hl:∀v∈l,jC v s.aO=true):SV (Qr s l).2.2:=by
 have hm:=ZI s;have h1:=h.put;have h2:=h.got;have h3:=h.most;have h5:=h.len;have h6:=h.r6;unfold Qr
 cases hc:(decide ((8:Int)<(l.length:Int))||decide (Hq s<Go.IntKind.wrap .i64 (s.Put+(l.length:Int))))
 ·cases hs:s.Shut
  ·cases hg:s.Gone
   ·rw[Bool.or_eq_false_iff,decide_eq_false_iff_not,decide_eq_false_iff_not] at hc
    have h4:=h.live hg;have hk:wV s l<=l.length /\ (wV s l:Int)<=s.Room-(s.Buffer.length:Int):=by unfold wV;omega
    have w1:Go.IntKind.wrap .i64 (s.Put+(l.length:Int))=s.Put+(l.length:Int):=wrap_i64 (by omega) (by omega)
    rw[w1] at hc;have w2:Go.IntKind.wrap .i64 (s.Put+(wV s l:Int))=s.Put+(wV s l:Int):=wrap_i64 (by omega) (by omega)
    simp only[cond_false,w2];refine ⟨h.ty,h.r1,h.r6,h.fut, ?_, ?_,h.got, ?_, ?_,fun q=> ?_,fun _=> ?_,fun _ q=> ?_⟩
    ·show ((s.Buffer++l.take (wV s l)).length:Int)<=s.Room
     rw[List.length_append,List.length_take];omega
    ·have hb:=h.buf
     unfold V8 at hb ⊢;rw[List.all_eq_true] at hb ⊢;intro v hv
     rcases List.mem_append.1 hv with hv |hv
     ·exact hb v hv
     ·exact hl v (List.mem_of_mem_take hv)
    ·show s.qM<=s.Put+(wV s l:Int);omega
    ·show s.Put+(wV s l:Int)<=Hq s;omega
    ·cases q
    ·show s.Put+(wV s l:Int)-s.qM=((s.Buffer++l.take (wV s l)).length:Int)
     rw[List.length_append,List.length_take];omega
    ·cases q
   ·exact h
  ·exact h
 ·exact h
def ahx (f:Int) (n:Nat):List af:=(List.range n).map fun (k:Nat)=>ag8 (f+(k:Int))
theorem ajl (f:Int) (n:Nat):(ahx f n).length=n:=by simp[ahx]
theorem ak4 (f:Int) (a b:Nat):ahx f (a+b)=ahx f a++ahx (f+(a:Int)) b:=by
 unfold ahx;rw[List.range_add,List.map_append,List.map_map]
 congr 1
 apply List.map_congr_left;intro k _
 show ag8 (f+((a+k:Nat):Int))=ag8 (f+(a:Int)+(k:Int))
 congr 1;omega
theorem alf (f:Int) {a n:Nat} (h:a<=n):(ahx f n).take a=ahx f a:=by
 obtain ⟨b,rfl⟩:∃b,n=a+b:=⟨n-a,by omega⟩
 rw[ak4,List.take_append_of_le_length (by rw[ajl];omega),List.take_of_length_le (by rw[ajl];omega)]
theorem alr (f:Int) {n k:Nat} (h:k<n):((ahx f n).getD k af.zero)=ag8 (f+(k:Int)):=by
 rw[getD_lt (by rw[ajl];exact h)]
 simp[ahx]
theorem al8 (f:Int) (n:Nat) (h1: -4000000<=f) (h2:f<=4000000) (hn:n<=8):ag9 f n=ahx f n:=by
 unfold ag9 ahx;apply List.map_congr_left;intro k hk;rw[List.mem_range] at hk;rw[wrap_i64 (by omega) (by omega)]
theorem alQ {n:Int} {t:ae} (ht:t.Kind=9) (h1: -8000000<=n) (h2:n<=8000000):jC (ag8 n) t=true:=by
 have r1:(UW 9).1= -9223372036854775808:=rfl;have r2:(UW 9).2=9223372036854775807:=rfl;have hk:kT n 0 t=some []:=by unfold kT;simp[ht]
 have hn:EC n t=true:=by
  unfold EC;rw[ht,if_neg (by decide),if_pos (by decide),r1,r2,Bool.and_eq_true,decide_eq_true_eq,decide_eq_true_eq]
  omega
 have hh:headB 9 n [] t=true:=by unfold headB;rw[ht,hn,aa0];rfl
 show (headB 9 n [] t&&(match kT n 0 t with
  |some ts=>decide (ts.length=0)&&tJ [] ts
  |none=>false))=true
 rw[hh,hk];rfl
structure ai9 (f0:Int) (t:ae) (st:PSt) (w:Nat):Prop where
 sv:SV st.1
 ty:st.1.aO=t
 first:st.2.1=f0+(w:Int)
 ajE:st.1.Put=(w:Int)
 got:st.1.qM=(st.2.2.length:Int)
 live:st.1.Gone=false->st.2.2++st.1.Buffer=ahx f0 w
 gone:st.1.Gone=true->st.2.2=ahx f0 st.2.2.length
theorem ai9.anf {f0:Int} {t:ae} {st:PSt} {w:Nat} (h:ai9 f0 t st w):w<=1000000:=by
 have h1:=h.sv.most;have h2:=ZI st.1;have h3:=h.ajE;omega
theorem amr {f0:Int} {t:ae} (hf1: -1000000<=f0) (hf2:f0<=1000000) (ht:t.Kind=9) {st:PSt} {w:Nat} (h:ai9 f0 t st w) (a:dZ) (ha:aik a=false):∃w',ai9 f0 t (afP st a) w':=by
 obtain ⟨s,f,got⟩:=st;have hwl:=h.anf;have hm:0<=a.XV /\ a.XV<=8:=akW ha;obtain ⟨sv,hty,aiU,hput,akh,hlive,ajR⟩:=h;simp only at sv hty aiU hput akh hlive ajR;unfold afP
 cases (a.Write&&a.Close)
 ·cases a.Close
  ·cases a.Write
   ·refine ⟨w, ?_⟩
    simp only[cond_false];unfold V3
    cases hg:s.Gone
    ·cases hc:(((s.Buffer.length:Int)==0)&&s.Shut)
     ·have hn:=Ae s (aha a.XV)
      have hr:=ahw sv hg (jW s (aha a.XV)) hn;have h1:=sv.put;have h2:=sv.got;have h3:=sv.live hg;have h4:=sv.len;have h5:=sv.r6;have hw:Go.IntKind.wrap .i64 (s.qM+(jW s (aha a.XV):Int))=s.qM+(jW s (aha a.XV):Int):=wrap_i64 (by omega) (by omega)
      rw[hg] at hr;refine ⟨hr,hty,aiU,hput, ?_,fun _=> ?_,fun q=> ?_⟩
      ·simp only[cond_false,hw,List.length_append,List.length_take];omega
      ·simp only[cond_false]
       rw[List.append_assoc,List.take_append_drop];exact hlive hg
      ·cases q
     ·exact ⟨sv,hty,aiU,hput,by simpa using akh,fun q=>by simpa using hlive hg,fun q=>ane hg q⟩
    ·exact ⟨sv,hty,aiU,hput,by simpa using akh,fun q=>al7 hg q,fun q=>by simpa using ajR hg⟩
   ·obtain ⟨n,hn⟩:=Int.eq_ofNat_of_zero_le hm.1
    have hn8:n<=8:=by omega
    have hnum:ag9 f a.XV.toNat=ahx f n:=by rw[hn,Int.toNat_natCast];exact al8 f n (by omega) (by omega) hn8
    simp only[cond_false,cond_true,hnum];have hfit:∀v∈ahx f n,jC v s.aO=true:=fun v hv=>by
     unfold ahx at hv;rw[List.mem_map] at hv;obtain ⟨k,hk,rfl⟩:=hv;rw[List.mem_range] at hk;exact alQ (by rw[hty];exact ht) (by omega) (by omega)
    have hsv:=amO sv (ahx f n) hfit;have h1:=sv.put;have h2:=sv.got;have h4:=sv.len;have h5:=sv.r6;have h6:=sv.most;have h7:=ZI s;unfold Qr at hsv ⊢;have w0:Go.IntKind.wrap .i64 (f+0)=f:=by rw[Int.add_zero];exact wrap_i64 (by omega) (by omega)
    cases hc:(decide ((8:Int)<((ahx f n).length:Int))||decide (Hq s<Go.IntKind.wrap .i64 (s.Put+((ahx f n).length:Int))))
    ·cases hs:s.Shut
     ·cases hg:s.Gone
      ·rw[hc,hs,hg] at hsv
       have h3:=sv.live hg;have hkl:wV s (ahx f n)<=n /\ (wV s (ahx f n):Int)<=s.Room-(s.Buffer.length:Int):=by unfold wV;rw[ajl];omega
       generalize wV s (ahx f n)=k at hsv hkl ⊢
       have w1:Go.IntKind.wrap .i64 (f+(k:Int))=f+(k:Int):=wrap_i64 (by omega) (by omega)
       have w2:Go.IntKind.wrap .i64 (s.Put+(k:Int))=s.Put+(k:Int):=wrap_i64 (by omega) (by omega)
       refine ⟨w+k,hsv,hty, ?_, ?_,akh,fun _=> ?_,fun q=> ?_⟩
       ·simp only[cond_false,w1];omega
       ·simp only[cond_false,w2];omega
       ·simp only[cond_false]
        rw[<-List.append_assoc,hlive hg,alf _ hkl.1,aiU,<-ak4]
       ·cases q
      ·exact ⟨w,sv,hty,by simp only[cond_false,cond_true,w0];exact aiU,hput,akh,fun q=>al7 hg q,fun q=>ajR hg⟩
     ·exact ⟨w,sv,hty,by simp only[cond_false,cond_true,w0];exact aiU,hput,akh,hlive,ajR⟩
    ·exact ⟨w,sv,hty,by simp only[cond_true,w0];exact aiU,hput,akh,hlive,ajR⟩
  ·refine ⟨w, ?_⟩
   have hsv:=amN sv;simp only[cond_false,cond_true];unfold lvP at hsv ⊢
   cases hg:s.Gone
   ·rw[hg] at hsv
    have hl:=hlive hg;have h3:=sv.live hg;have h2:=sv.put;refine ⟨hsv,hty,aiU,hput,akh,fun q=>(by cases q),fun _=> ?_⟩
    show got=ahx f0 got.length
    have hle:got.length<=w:=by
     have:=congrArg List.length hl;rw[List.length_append,ajl] at this;omega
    rw[<-alf f0 hle,<-hl,List.take_append_of_le_length (Nat.le_refl _),List.take_of_length_le (Nat.le_refl _)]
   ·exact ⟨sv,hty,aiU,hput,akh,fun q=>al7 hg q,fun _=>ajR hg⟩
 ·refine ⟨w, ?_⟩
  have hsv:=amM sv;simp only[cond_true];unfold shP at hsv ⊢
  cases hs:s.Shut
  ·cases hc:(s.bu&& !s.Gone)&&(s.Put==0)
   ·rw[hs,hc] at hsv
    exact ⟨hsv,hty,aiU,hput,akh,hlive,ajR⟩
   ·exact ⟨sv,hty,aiU,hput,akh,hlive,ajR⟩
  ·exact ⟨sv,hty,aiU,hput,akh,hlive,ajR⟩
theorem al9 {f0:Int} {t:ae} (hf1: -1000000<=f0) (hf2:f0<=1000000) (ht:t.Kind=9):∀(l:List dZ) (st:PSt) (w:Nat),ai9 f0 t st w->(∀a∈l,aik a=false)->∃w',ai9 f0 t (l.foldl afP st) w'
 | [],st,w,h,_=>⟨w,h⟩
 |a::r,st,w,h,ha=>by
  obtain ⟨w1,h1⟩:=amr hf1 hf2 ht h a (ha a (by simp))
  exact al9 hf1 hf2 ht r _ w1 h1 fun b hb=>ha b (by simp[hb])
theorem amP {s:ah} (h:SV s) (hp:s.Put=0) (f0:Int):ai9 f0 s.aO (s,f0,[]) 0:=by
 have h1:=h.put;have h2:=h.got;have hb:s.Buffer=[]:=by
  apply List.eq_nil_of_length_eq_zero
  cases hg:s.Gone
  ·have:=h.live hg;omega
  ·exact h.gone hg
 exact ⟨h,rfl,by simp,by simpa using hp,by show s.qM=0;omega,fun _=>by show []++s.Buffer=ahx f0 0;rw[hb];rfl,fun _=>rfl⟩
end M
namespace M
open Go.V (inB qg aP bG)
def ad6 (s:ah):Bool:=stB s&&(!s.Gone&&(decide (0<s.Buffer.length)||s.Shut))
end M
namespace M
open Go.V (inB qg aP bG)
theorem Yu {α:Type} (f:α->Nat) (a b:List α):lI f (a++b)=lI f a+lI f b:=KR f a b
theorem BO {α:Type} (f:α->Nat) (x:α):lI f [x]=f x+1:=by simp[lI]
end M
