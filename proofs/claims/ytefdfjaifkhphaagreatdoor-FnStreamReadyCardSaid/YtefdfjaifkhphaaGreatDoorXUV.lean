/-
  STREAMS: a valid stream stays valid; what is read is what was written, in order.
-/
import Derived.Test.YtefdfjaifkhphaaGreatDoorXUMK
set_option linter.unusedVariables false
set_option linter.unusedSimpArgs false
namespace M
open Go.V (inB qg aP bG)
structure SV (s:ah):Prop where
 ty:MM s.aO=true
 r1:1<=s.Room
 r6:s.Room<=6
 fut:s.bu=true->s.Room=1
 len:(s.Buffer.length:Int)<=s.Room
 buf:V8 s=true
 got:0<=s.qM
 put:s.qM<=s.Put
 most:s.Put<=Hq s
 gone:s.Gone=true->s.Buffer.length=0
 live:s.Gone=false->s.Put-s.qM=(s.Buffer.length:Int)
 last:s.bu=true->s.Shut=true->s.Put=1 \/ s.Gone=true
theorem ZI (s:ah):Hq s<=1000000:=by unfold Hq;split<;>omega
theorem ahu {s:ah} (h:stB s=true):SV s:=by
 obtain ⟨f1,f2,f3,f4,f5,f6,f7,f8⟩:=Xl h;unfold stB at h;simp only[Bool.and_eq_true,Bool.or_eq_true,decide_eq_true_eq,Bool.not_eq_true',Bool.or_eq_false_iff,Bool.and_eq_false_iff,decide_eq_false_iff_not,beq_iff_eq,Bool.not_eq_false'] at h;have hw:Go.IntKind.wrap .i64 (s.Put-s.qM)=s.Put-s.qM:=wrap_i64 (by omega) (by omega)
 rw[hw] at h;refine ⟨f1,f2,f3,fun hf=> ?_,f4,f5,f6,f7, ?_,fun hg=> ?_,fun hg=> ?_,fun hf hs=> ?_⟩
 ·rcases h.1.1.1.2.2 with h |h
  ·rw[hf] at h;cases h
  ·exact h
 ·have:=h.1.2.1.2.2;exact this
 ·rcases h.1.2.2.1 with h |h
  ·rw[hg] at h;cases h
  ·omega
 ·rcases h.1.2.2.2 with h |h
  ·rw[hg] at h;cases h
  ·exact h
 ·rcases h.2 with (h |h) |h
  ·rcases h with h |h
   ·rw[hf] at h;cases h
   ·rw[hs] at h;cases h
  ·exact .inl h
  ·exact .inr h
theorem ahv {s:ah} (h:SV s):stB s=true:=by
 have hm:=ZI s;have h1:=h.put;have h2:=h.got;have h3:=h.most;have hw:Go.IntKind.wrap .i64 (s.Put-s.qM)=s.Put-s.qM:=wrap_i64 (by omega) (by omega)
 unfold stB;rw[hw];simp only[Bool.and_eq_true,Bool.or_eq_true,decide_eq_true_eq,Bool.not_eq_true',Bool.or_eq_false_iff,Bool.and_eq_false_iff,decide_eq_false_iff_not,beq_iff_eq,Bool.not_eq_false'];refine ⟨⟨⟨⟨h.ty,⟨h.r1,h.r6⟩, ?_⟩,h.len,h.buf⟩,⟨by omega,h.put,h.most⟩, ?_, ?_⟩, ?_⟩
 ·cases hf:s.bu
  ·exact .inl rfl
  ·exact .inr (h.fut hf)
 ·cases hg:s.Gone
  ·exact .inl rfl
  ·have:=h.gone hg;exact .inr (by omega)
 ·cases hg:s.Gone
  ·exact .inr (h.live hg)
  ·exact .inl rfl
 ·cases hf:s.bu
  ·exact .inl (.inl (.inl rfl))
  ·cases hs:s.Shut
   ·exact .inl (.inl (.inr rfl))
   ·rcases h.last hf hs with h |h
    ·exact .inl (.inr h)
    ·exact .inr h
theorem ahw {s:ah} (h:SV s) (hg:s.Gone=false) (n:Nat) (hn:n<=s.Buffer.length):SV (ah.mk s.aO s.Room s.bu (s.Buffer.drop n) s.Put (Go.IntKind.wrap .i64 (s.qM+(n:Int))) s.Shut s.Gone):=by
 have hm:=ZI s;have h1:=h.put;have h2:=h.got;have h3:=h.most;have h4:=h.live hg;have h5:=h.len;have h6:=h.r6;have hw:Go.IntKind.wrap .i64 (s.qM+(n:Int))=s.qM+(n:Int):=wrap_i64 (by omega) (by omega)
 rw[hw];refine ⟨h.ty,h.r1,h.r6,h.fut, ?_, ?_, ?_, ?_,h.most,fun q=> ?_,fun _=> ?_,h.last⟩
 ·show ((s.Buffer.drop n).length:Int)<=s.Room;rw[List.length_drop];omega
 ·have hb:=h.buf
  unfold V8 at hb ⊢;rw[List.all_eq_true] at hb ⊢;exact fun v hv=>hb v (List.mem_of_mem_drop hv)
 ·show 0<=s.qM+(n:Int);omega
 ·show s.qM+(n:Int)<=s.Put;omega
 ·have q':s.Gone=true:=q
  rw[hg] at q';cases q'
 ·show s.Put-(s.qM+(n:Int))=((s.Buffer.drop n).length:Int);rw[List.length_drop];omega
def ahx (f:Int) (n:Nat):List af:=(List.range n).map fun (k:Nat)=>ag8 (f+(k:Int))
structure ai9 (f0:Int) (t:ae) (st:PSt) (w:Nat):Prop where
 sv:SV st.1
 ty:st.1.aO=t
 first:st.2.1=f0+(w:Int)
 ajE:st.1.Put=(w:Int)
 got:st.1.qM=(st.2.2.length:Int)
 live:st.1.Gone=false->st.2.2++st.1.Buffer=ahx f0 w
 gone:st.1.Gone=true->st.2.2=ahx f0 st.2.2.length
end M
namespace M
open Go.V (inB qg aP bG)
def ad6 (s:ah):Bool:=stB s&&(!s.Gone&&(decide (0<s.Buffer.length)||s.Shut))
theorem ZJ (s:ah) (most:Int):
 ((yD s most).2.2=0->decide (0<(yD s most).2.1.length)=ad6 s /\ stB (yD s most).1=true /\ (yD s most).1.Buffer.length+(yD s most).2.1.length=s.Buffer.length) /\
 ((yD s most).2.2=3->ad6 s=true):=by
 unfold yD ad6
 cases hs:stB s
 ·exact ⟨fun h=>absurd h (show (1:Int)≠0 by decide),fun h=>absurd h (show (1:Int)≠3 by decide)⟩
 ·cases hm:(decide ((1:Int)<=most)&&decide (most<=(8:Int)))
  ·exact ⟨fun h=>absurd h (show (2:Int)≠0 by decide),fun h=>absurd h (show (2:Int)≠3 by decide)⟩
  ·cases hg:s.Gone
   ·cases hc:(((s.Buffer.length:Int)==0)&&s.Shut)
    ·rw[Bool.and_eq_true,decide_eq_true_eq,decide_eq_true_eq] at hm
     have sv:=ahu hs;have hn:=Ae s most;have hr:=ahw sv hg (jW s most) hn;rw[hg] at hr;refine ⟨fun _=>⟨?_,ahv hr, ?_⟩,fun h=>absurd h (show (0:Int)≠3 by decide)⟩
     ·simp only[Bool.not_true,cond_false,Bool.not_false,Bool.true_and,cond_true]
      have e:(s.Buffer.take (jW s most)).length=jW s most:=by rw[List.length_take];omega
      rw[e];have h0:(0<jW s most)↔0<s.Buffer.length:=by unfold jW;omega
      rw[decide_eq_decide.2 h0]
      cases hb:decide (0<s.Buffer.length)
      ·rw[decide_eq_false_iff_not] at hb
       have hz:((s.Buffer.length:Int)==0)=true:=by rw[beq_iff_eq];omega
       rw[hz,Bool.true_and] at hc;rw[hc];rfl
      ·rfl
     ·simp only[Bool.not_true,cond_false,List.length_drop,List.length_take];omega
    ·refine ⟨fun h=>absurd h (show (3:Int)≠0 by decide),fun _=> ?_⟩
     rw[Bool.and_eq_true] at hc;rw[hc.2];simp
   ·exact ⟨fun h=>absurd h (show (5:Int)≠0 by decide),fun h=>absurd h (show (5:Int)≠3 by decide)⟩
end M
namespace M
open Go.V (inB qg aP bG)
theorem Yu {α:Type} (f:α->Nat) (a b:List α):lI f (a++b)=lI f a+lI f b:=KR f a b
theorem BO {α:Type} (f:α->Nat) (x:α):lI f [x]=f x+1:=by simp[lI]
end M
