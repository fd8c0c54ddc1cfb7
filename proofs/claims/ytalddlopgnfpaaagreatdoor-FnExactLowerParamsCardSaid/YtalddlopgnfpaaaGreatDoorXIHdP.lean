/-
  The contract of impl.pointsOf: a range over a string, whose runes are put into a slice of the call's own.
-/
import Derived.Test.YtalddlopgnfpaaaGreatDoorXIhandA
import Derived.Shelf.RegionOpenPlain
import Derived.WalkKit
import Derived.OwnWalk
import Derived.Lib.Walk
import Derived.Lib.SliceRun
import Derived.Lib.OthersKept
import Derived.Laws.RangeAny
import Derived.Test.YtalddlopgnfpaaaGreatDoorProg
set_option linter.unusedVariables false
noncomputable def IF(m:List UInt8->Option (List Int)):Go.V.aC Go.V.K:={f:=167,sh:=⟨[.str],[]⟩,R:=List Int,run:=fun x=>m x.1.1,dflt:=default,out:=fun r=>(Go.V.Sh.enc Go.V.D (.own 0) (),Go.V.az.encs Go.V.D [.arr Go.V.U.i64] (r,()))}
namespace Go.Proofs
open Go.RowKit Go.Shelf Go.V
namespace WZ
theorem ajY{w:World}{base sz n:Nat}{e:TypeId}{v:Value}{xs:List Value}(h:w.ownsRow base e sz v n xs){k:Nat}{s:ByteArray}{pos:Nat}(hk:w.heap[k]?=some (.stringIter s pos))(pos':Nat):(w.iterAt k s pos').ownsRow base e sz v n xs:=by
 refine⟨h.1,?_⟩;rcases h.2 with h0|⟨g,cap,cur,rfl,q1,q2,q3⟩
 ·exact .inl h0
 ·refine .inr ⟨g,cap,cur,rfl,q1,?_,q3⟩;rw[Lib.iterAt_other w k g s pos' (by rintro rfl;rw[q2]at hk;cases hk)];exact q2
theorem ajZ{w w':World}{base sz n:Nat}{e:TypeId}{v:Value}{xs:List Value}(h:w.ownsRow base e sz v n xs)(hg:w.grownBy w' v.ownBlock){k:Nat}{s:ByteArray}{pos:Nat}(hk:w.heap[k]?=some (.stringIter s pos)):w'.heap[k]?=some (.stringIter s pos):=by
 rw[<-hk];refine hg.block k (iH.1 hk).1 fun h1=>?_
 rcases h.2 with⟨rfl,-⟩|⟨g,cap,cur,rfl,q1,q2,q3⟩
 ·simp[Value.ownBlock]at h1
 ·simp[Value.ownBlock]at h1;subst h1;rw[q2]at hk;cases hk
theorem aj0(W:World)(v:Value)(T:TypeId):(W.alloc (.cells #[v] T)).cell? ⟨W.heap.size,0,none⟩=some v:=by
 have:(W.alloc (.cells #[v] T)).heap[W.heap.size]?=some (.cells #[v] T):=Array.getElem?_push_size;simp only[World.cell?,this];rfl
def aj1(l:List UInt8)(w:World)(v:Value)(wr:World):Prop:=
 ∃(pos f:Nat)(acc:List Int),wr.ownsRow w.heap.size 2 1 v acc.length (acc.map (Value.int .i64))/\wr.heap[w.heap.size+1]?=some (.stringIter ⟨l.toArray⟩ pos)/\Below w.heap.size w wr/\acc++M.gu f (l.drop pos)=M.gu l.length l/\l.length<=pos+f/\acc.length<=pos
set_option maxRecDepth 1000000 in
theorem aj2(l:List UInt8)(hs:l.length<=1048576)(w:World):
 Calls Tryz.prog 167 #[.string ⟨l.toArray⟩] w fun e w'=>∃v,e=.returned v/\w'.ownsRow w.heap.size 2 1 v (M.gu l.length l).length ((M.gu l.length l).map (Value.int .i64))/\Below w.heap.size w w':=by
 have hsz0:(⟨l.toArray⟩:ByteArray).size=l.length:=by simp[ByteArray.size]
 go_enter Tryz.func167,Tryz.ntmps167
 go_wp2
 go_loopw [3] (fun v wr=>aj1 l w v wr) (fun _ wr=>l.length-wr.iterPos (w.heap.size+1))
 case atStart=>
  refine⟨0,l.length,[],?_,?_,((Below.refl _ w).alloc (bg _) _).alloc (by simp) _,by simp,by omega,by simp⟩
  ·exact(World.ownsRow_made w #[] 0 (bg _) (cU _) (by simp)).alloc _
  ·have:=World.iter_heap (w.alloc (.cells #[] 2)) ⟨l.toArray⟩ 0;simpa using this
 case round=>
  obtain⟨pos,f,acc,hown,hit,hbw,hacc,hfu,hal⟩:=hrel;have hsz:w.heap.size+1<wr.heap.size:=(iH.1 hit).1;by_cases hp:pos<(⟨l.toArray⟩:ByteArray).size
  ·have hnx:∀ty,(Instr.next (.pointer (some ⟨w.heap.size+1,0,none⟩)) true ty).run Tryz.prog wr=_:=fun ty=>Lib.run_next_any_at wr (w.heap.size+1) ⟨l.toArray⟩ pos ty hit hp
   have hwd:=Lib.decodeL_width (l.drop pos);have hdl:Lib.decodeL (l.drop pos)=Utf8.decode ⟨l.toArray⟩ pos:=Lib.decodeL_drop ⟨l.toArray⟩ pos;have hd1:=decode_le ⟨l.toArray⟩ pos;have hpl:pos<l.length:=by rw[<-hsz0];exact hp
   rw[hdl]at hwd;have hown2:=ajY hown hit (pos+(Utf8.decode ⟨l.toArray⟩ pos).2);have hit2:=Lib.iterAt_heap wr (w.heap.size+1) ⟨l.toArray⟩ pos (pos+(Utf8.decode ⟨l.toArray⟩ pos).2) hit;have hbw2:=Lib.below_iterAt hbw (k:=w.heap.size+1) (by omega) ⟨l.toArray⟩ (pos+(Utf8.decode ⟨l.toArray⟩ pos).2);have hsz2:(wr.iterAt (w.heap.size+1) ⟨l.toArray⟩ (pos+(Utf8.decode ⟨l.toArray⟩ pos).2)).heap.size=wr.heap.size:=Lib.iterAt_size ..;obtain⟨f,rfl⟩:∃f',f=f'+1:=⟨f-1,by omega⟩;have hstep:M.gu (f+1) (l.drop pos)=((Utf8.decode ⟨l.toArray⟩ pos).1:Int)::M.gu f (l.drop (pos+(Utf8.decode ⟨l.toArray⟩ pos).2)):=by
    rw[M.gu,an (by rw[List.length_drop];omega),hdl,u7]
   rw[hstep]at hacc;generalize (Utf8.decode ⟨l.toArray⟩ pos).2=wd at*;generalize (Utf8.decode ⟨l.toArray⟩ pos).1=cd at*;clear hstep hdl
   go_wp2_with (at_builtin;refine wpList_append_own _ rfl _ _ 56 rfl w.heap.size 2 Tryz.t2 (.int .i64 0) 1 8 Tryz.underlying56 (by kernel_rfl) (by kernel_rfl) (by kernel_rfl) (by kernel_rfl) (by kernel_rfl) (by decide) _ _ _ rfl (hown2.alloc _) ⟨wr.heap.size,0,none⟩ 1 1 [.int .i64 cd] rfl rfl ?c1 ?c2 ?c3 ?c4 ?c5 ?_)
   case c1=>
    intro j u hj
    match j,hj with
    |0,hj=>
     simp at hj;subst hj;have e0:({block:=wr.heap.size,off:=0}:Addr).add 0=⟨(wr.iterAt (w.heap.size+1) ⟨l.toArray⟩ (pos+wd)).heap.size,0,none⟩:=by rw[hsz2];rfl
     rw[e0];exact aj0 _ _ _
   case c2=>intro u hu;simp at hu;subst hu;rfl
   case c3=>unfold maxLen;omega
   case c4=>omega
   case c5=>simp[hsz2];omega
   intro v' w1 hown' hgrow _;have hit3:=ajZ (hown2.alloc _) hgrow (k:=w.heap.size+1) (s:=⟨l.toArray⟩) (pos:=pos+wd) (by
    rw[World.alloc];simp only[Array.getElem?_push];rw[an (by rw[hsz2];omega)];exact hit2)
   have hb3:Below w.heap.size w w1:=(hbw2.alloc (by rw[hsz2];omega) _).grown hgrow (by simp[hsz2];omega) (fun k hk=>by
    rcases hown2.2 with⟨h1,-⟩|⟨g,cap,cur,h1,q1,-⟩
    ·rw[h1]at hk;simp[Value.ownBlock]at hk
    ·rw[h1]at hk;simp[Value.ownBlock]at hk;omega)
   go_wp2
   go_roundw
   case rel=>
    refine⟨pos+wd,f,acc++[(cd:Int)],by simpa using hown',hit3,hb3,by rw[iI];exact hacc,by omega,by simp;omega⟩
   case measure=>
    simp only[World.iterPos,hit3,hit];omega
  ·have hnx:∀ty,(Instr.next (.pointer (some ⟨w.heap.size+1,0,none⟩)) true ty).run Tryz.prog wr=_:=fun ty=>Lib.run_next_end_at wr (w.heap.size+1) ⟨l.toArray⟩ pos ty hit hp
   have hpl:l.drop pos=[]:=List.drop_eq_nil_of_le (by rw[<-hsz0];omega);rw[hpl,M.W0,mb]at hacc;subst hacc
   go_wp2
   go_ret
   exact⟨_,rfl,hown,hbw⟩
theorem aj3(l:List UInt8)(hl:l.length<=1048576):RC Go.V.D Tryz.prog 167 [.str l] [] (.sl 0) [.arr U.i64 (M.gu l.length l)]:=by
 refine WS (T:=2) (c:=U.i64) (l:=M.gu l.length l) JH ⟨Tryz.f167,Tryz.func167,by kernel_rfl,by kernel_rfl⟩ (fun t h=>by cases h) fun S w vals hS ha=>?_
 obtain⟨X,rfl,hX⟩:=AN (x:=.str l) ha;cases hX;refine(aj2 l hl w).mono ?_
 rintro e w' ⟨v,rfl,h1,h2⟩
 exact⟨v,rfl,h1,h2⟩
theorem aj6:(IF M.rT).Ok Go.V.D Tryz.prog:=by
 intro x r hr;have key:∀l:List UInt8,M.rT l=some r->RC Go.V.D Tryz.prog 167 [.str l] [] (.sl 0) [.arr U.i64 r]:=fun l hk=>by
  unfold M.rT at hk;by_cases h:l.length<=1048576
  ·rw[aY h,aA]at hk;obtain rfl:=ft hk;exact aj3 l h
  ·rw[bU h,aT]at hk;cases hk
 exact key x.1.1 hr
end WZ
end Go.Proofs
theorem agL:(IF M.rT).Ok Go.V.D Go.Proofs.Tryz.prog:=Go.Proofs.WZ.aj6
