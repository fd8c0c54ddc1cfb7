/-
  The contract of strings.Join: what joins texts is a text.
-/
import Derived.Test.YtdehjkmaaljlpaaGreatDoorXEHdJ
import Derived.Test.YtdehjkmaaljlpaaGreatDoorXEhandJ
set_option linter.unusedVariables false
noncomputable def CM(m:List (List UInt8)->List UInt8->Option (List UInt8)):Go.V.ax Go.V.K:={f:=54,sh:=⟨[.ah Go.V.U.str,.str],[]⟩,R:=List UInt8,run:=fun x=>m x.1.1 x.1.2.1,dflt:=default,out:=fun r=>(Go.V.Sh.enc Go.V.D .str r,Go.V.bh.encs Go.V.D [] ())}
namespace Go.Proofs
open Go.RowKit Go.Shelf Go.V
namespace fD
theorem join_none(a:Option Addr)(c:Nat)(sep:ByteArray)(w:World):Calls Tryz.prog 54 #[.slice a 0 c,.string sep] w fun e w'=>e=.returned (.string ⟨#[]⟩)/\w'=w:=by
 go_enter Tryz.func54,Tryz.ntmps54
 go_wp2
 go_ret
 exact⟨rfl,rfl⟩
theorem join_one(bk o c:Nat)(x sep:ByteArray)(w:World)(hc:w.cell? ⟨bk,o,none⟩=some (.string x)):Calls Tryz.prog 54 #[.slice (some ⟨bk,o,none⟩) 1 c,.string sep] w fun e w'=>e=.returned (.string x)/\w'=w:=by
 go_enter Tryz.func54,Tryz.ntmps54
 go_wp2
 go_ret
 exact⟨rfl,rfl⟩
def upTo(x0 sep:List UInt8)(r:List (List UInt8))(k:Nat):List UInt8:=x0++Lib.joinTail sep (r.take k)
theorem ahX{x0 sep:List UInt8}{r:List (List UInt8)}:upTo x0 sep r 0=x0:=by simp[upTo,Lib.joinTail]
theorem azT{x0 sep:List UInt8}{r:List (List UInt8)}{k:Nat}{y:List UInt8}(h:r[k]?=some y):upTo x0 sep r (k+1)=upTo x0 sep r k++sep++y:=by
 unfold upTo;rw[Lib.joinTail_take_succ _ _ _ _ h];simp only[iR]
theorem azU{x0 sep:List UInt8}{r:List (List UInt8)}(k:Nat):(upTo x0 sep r k).length<=(Lib.join (x0::r) sep).length:=by
 unfold upTo;rw[Lib.join_cons,bA,bA];have:=Lib.joinTail_take_le sep r k;omega
structure azV (xs:List ByteArray) (sep:ByteArray) (M:Nat):Prop where
 dv:¬(9223372036854775807/((xs.length:Int)-1)<=(sep.size:Int))
 prod:wrap64 ((sep.size:Int)*((xs.length:Int)-1))=(M:Int)
 z:sep.size=0->M=0
 all:M+Lib.lens (xs.map (·.data.toList))<=1073741824
theorem azW{xs:List ByteArray}{sep:ByteArray}(h2:2<=xs.length)(hN:xs.length<=1073741824)(hlen:(Lib.join (xs.map (·.data.toList)) sep.data.toList).length<=1073741824):azV xs sep (sep.size*(xs.length-1)):=by
 obtain⟨x0,r,rfl⟩:∃x0 r,xs=x0::r:=by
  cases xs with
  |nil=>simp at h2
  |cons a t=>exact⟨a,t,rfl⟩
 rw[eu,Lib.join_length,cr,<-Lib.size_eq]at hlen;simp only[aO]at h2 hN;have hc:(((x0::r).length:Int)-1)=(r.length:Int):=by simp
 have hr:1<=r.length:=by omega
 have hl:(x0::r).length-1=r.length:=by simp
 rw[hl];refine⟨?_,?_,fun h=>by rw[h,ES],by rw[eu];exact hlen⟩
 ·rw[hc];have h3:sep.size*r.length<=1073741824:=by omega
  have e:(9223372036854775807:Int)/(r.length:Int)=((9223372036854775807/r.length:Nat):Int):=IntWalk.up_div (x:=9223372036854775807) rfl rfl;rw[e];have:sep.size+1<=9223372036854775807/r.length:=by
   rw[Nat.le_div_iff_mul_le (by omega),ek];omega
  omega
 ·rw[hc];have e:(sep.size:Int)*(r.length:Int)=((sep.size*r.length:Nat):Int):=IntWalk.up_mul rfl rfl;rw[e];exact IntWalk.wrap64_in _ ⟨by omega,by omega⟩
set_option maxRecDepth 100000 in
theorem azX(bk o c:Nat)(xs:List ByteArray)(sep:ByteArray)(w:World)(hcells:∀(j:Nat) x,xs[j]?=some x->w.cell? ⟨bk,o+j,none⟩=some (.string x))
 (hbk:bk<w.heap.size) (h2:2<=xs.length) (hN:xs.length<=1073741824) (hcap:xs.length<=c) (hlen:(Lib.join (xs.map (·.data.toList)) sep.data.toList).length<=1073741824):
 Calls Tryz.prog 54 #[.slice (some ⟨bk,o,none⟩) xs.length c,.string sep] w fun e w'=>e=.returned (.string ⟨(Lib.join (xs.map (·.data.toList)) sep.data.toList).toArray⟩)/\Below w.heap.size w w':=by
 have hJ:=azW h2 hN hlen;generalize sep.size*(xs.length-1)=M at hJ;obtain⟨hdv,hprod,hM0,hall⟩:=hJ;obtain⟨x0,r,hxs⟩:∃x0 r,xs=x0::r:=by
  cases xs with
  |nil=>simp at h2
  |cons a t=>exact⟨a,t,rfl⟩
 have hrl:r.length=xs.length-1:=by rw[hxs];simp
 have hwhole:upTo x0.data.toList sep.data.toList (r.map (·.data.toList)) r.length=Lib.join (xs.map (·.data.toList)) sep.data.toList:=by
  rw[hxs,eu,Lib.join_cons];unfold upTo;rw[ET (by simp)]
 have hle:∀k,(upTo x0.data.toList sep.data.toList (r.map (·.data.toList)) k).length<=1073741824:=fun k=>by
  have:=azU (x0:=x0.data.toList) (sep:=sep.data.toList) (r:=r.map (·.data.toList)) k;rw[hxs,eu]at hlen;omega
 have HC:=Any.hidJ hcells;have Hxs:=Any.hidJ hxs;have Hwhole:=Any.hidJ hwhole;have Hle:=Any.hidJ hle;clear hcells hxs hwhole hle hlen;have hne0:((xs.length:Int)==0)=false:=dS.2 (by omega);have hne1:((xs.length:Int)==1)=false:=dS.2 (by omega)
 go_enter Tryz.func54,Tryz.ntmps54
 go_wp2_with fail
 all_goals (
  go_loop [5,41] (fun n i=>∃k:Nat,k<=xs.length/\i=.int .i64 k/\n=.int .i64 ((M+Lib.lens ((xs.map (·.data.toList)).take k):Nat):Int)) (fun _ i=>xs.length-(intOf i).toNat)
  case atStart=>exact⟨0,abo _,rfl,by first|(simp[Lib.lens];done)|(have:=hM0 (by omega);simp[Lib.lens,this])⟩
  case round=>
   obtain⟨k,hk,rfl,rfl⟩:=hrel;by_cases hkn:k<xs.length
   ·have hc:=HC.out k xs[k] (ct hkn);have hstep:=Lib.lens_take_succ (xs.map (·.data.toList)) k xs[k].data.toList (by simp[hkn]);have hbound:=Lib.lens_take_le (xs.map (·.data.toList)) (k+1);rw[<-Lib.size_eq]at hstep;generalize xs[k]=x at hc hstep;generalize hA1:Lib.lens ((xs.map (·.data.toList)).take (k+1))=A1 at hstep hbound;generalize Lib.lens ((xs.map (·.data.toList)).take k)=A0 at hstep;have HA1:=Any.hidJ hA1;clear hA1
    go_wp2
    exact⟨⟨k+1,by omega,by go_num,by rw[HA1.out];refine wH _ ?_;omega⟩,by simp[intOf];omega⟩
   ·have hke:k=xs.length:=by omega
    subst hke;rw[show(xs.map (·.data.toList)).take xs.length=xs.map (·.data.toList)from ET (by simp)];generalize hT:Lib.lens (xs.map (·.data.toList))=T at hall;have HT:=Any.hidJ hT;clear hT
    go_wp2_with fail
    rw[show((M:Int)+(T:Int))=((M+T:Nat):Int) by omega];refine(azR w.heap.size (M+T) _ (heap_alloc_new w _) w.heap.size (bY _) (by simp) (by omega)).mono ?_
    rintro e w1 ⟨rfl,g1,gb1⟩
    have b1:Below w.heap.size w w1:=((Below.refl w.heap.size w).alloc (bY _) _).trans gb1;have c0:w1.cell? ⟨bk,o,none⟩=some (.string x0):=by
     rw[b1.cell (p:=⟨bk,o,none⟩) hbk];exact HC.out 0 x0 (by rw[Hxs.out];rfl)
    have G1:=Any.hidJ g1;have B1:=Any.hidJ b1;clear g1 gb1 b1
    go_wp2_with fail
    refine(OQ w.heap.size w.heap.size [] x0 w1 G1.out (by have:=Hle.out 0;rw[ahX,<-Lib.size_eq]at this;simp only[aU];omega) B1.out.size).mono ?_
    rintro e w2 ⟨rfl,g2,gb2⟩
    rw[show([]:List Value)++Lib.strCells x0=Lib.byteCells (upTo x0.data.toList sep.data.toList (r.map (·.data.toList)) 0) by rw[ahX,Lib.strCells_eq];rfl]at g2;have G2:=Any.hidJ g2;have B2:=Any.hidJ (B1.out.trans gb2);clear g2 gb2
    go_wp2_with fail
    go_loopw [65] (fun i wr=>∃k:Nat,k<=r.length/\i=.int .i64 k/\Hid (BA w.heap.size w.heap.size (Lib.byteCells (upTo x0.data.toList sep.data.toList (r.map (·.data.toList)) k)) wr)/\Hid (Below w.heap.size w wr)) (fun i _=>r.length-(intOf i).toNat)
    case atStart=>exact⟨0,abo _,rfl,G2,B2⟩
    case round=>
     obtain⟨k,hk',rfl,HB,HW⟩:=hrel;by_cases hkr:k<r.length
     ·have hy:r[k]?=some r[k]:=ct hkr;generalize r[k]=y at hy;have cy:wr.cell? ⟨bk,o+1+k,none⟩=some (.string y):=by
       rw[HW.out.cell (p:=⟨bk,o+1+k,none⟩) hbk,show o+1+k=o+(k+1) by omega];exact HC.out (k+1) y (by rw[Hxs.out];simpa using hy)
      have hnx:=azT (x0:=x0.data.toList) (sep:=sep.data.toList) (r:=r.map (·.data.toList)) (k:=k) (y:=y.data.toList) (by simp[hy]);have hcs:Lib.byteCells (upTo x0.data.toList sep.data.toList (r.map (·.data.toList)) k)++Lib.strCells sep++Lib.strCells y=Lib.byteCells (upTo x0.data.toList sep.data.toList (r.map (·.data.toList)) (k+1)):=by
       rw[hnx,Lib.strCells_eq,Lib.strCells_eq,<-Lib.byteCells_append,<-Lib.byteCells_append]
      have hl1:=Hle.out (k+1);rw[hnx]at hl1;simp only[bA,<-Lib.size_eq]at hl1;have HN:=Any.hidJ hcs;have HL:=Any.hidJ hl1;have hBw:w.heap.size<=wr.heap.size:=HW.out.size;clear hcs hnx hy hl1
      go_wp2_with fail
      refine(OQ w.heap.size w.heap.size _ sep wr HB.out (by rw[Lib.byteCells_length];have:=HL.out;omega) hBw).mono ?_
      rintro e w3 ⟨rfl,g3,OR⟩
      have hBw3:w.heap.size<=w3.heap.size:=cD hBw OR.size;have G3:=Any.hidJ g3;have B3:=Any.hidJ OR;clear g3 OR;have cy3:w3.cell? ⟨bk,o+1+k,none⟩=some (.string y):=by rw[B3.out.cell (p:=⟨bk,o+1+k,none⟩) hbk];exact cy
      go_wp2_with fail
      refine(OQ w.heap.size w.heap.size _ y w3 G3.out (by rw[bA,Lib.byteCells_length,Lib.strCells_length];have:=HL.out;omega) hBw3).mono ?_
      rintro e w4 ⟨rfl,g4,gb4⟩
      rw[HN.out]at g4;have G4:=Any.hidJ g4;have B4:=Any.hidJ ((HW.out.trans B3.out).trans gb4);clear g4 gb4
      go_wp2
      exact⟨⟨k+1,by omega,by go_num,G4,B4⟩,by simp[intOf];omega⟩
     ·have hke:k=r.length:=by omega
      subst hke;have g5:=HB.out;rw[Hwhole.out]at g5;have hBw:w.heap.size<=wr.heap.size:=HW.out.size
      go_wp2_with fail
      refine(show Calls Tryz.prog 97 #[.pointer (some ⟨w.heap.size,0,none⟩)] wr _ from Any.Builder_String_any Tryz.laysBString extra w.heap.size w.heap.size _ wr (Or.inr g5) hBw).mono ?_
      rintro e w5 ⟨rfl,gb5⟩
      have B5:=Any.hidJ (HW.out.trans gb5);clear gb5 g5
      go_wp2
      go_ret
      exact⟨rfl,B5.out⟩)
theorem azY(bk o c:Nat)(xs:List ByteArray)(sep:ByteArray)(w:World)(hcells:∀(j:Nat) x,xs[j]?=some x->w.cell? ⟨bk,o+j,none⟩=some (.string x))
 (hbk:bk<w.heap.size) (hN:xs.length<=1073741824) (hcap:xs.length<=c) (hlen:(Lib.join (xs.map (·.data.toList)) sep.data.toList).length<=1073741824):
 Calls Tryz.prog 54 #[.slice (some ⟨bk,o,none⟩) xs.length c,.string sep] w fun e w'=>e=.returned (.string ⟨(Lib.join (xs.map (·.data.toList)) sep.data.toList).toArray⟩)/\Below w.heap.size w w':=by
 match xs,hcells,hN,hcap,hlen with
 |[],_,_,_,_=>exact(join_none _ c sep w).mono fun e w' ⟨he,hw⟩=>⟨he,hw ▸ Below.refl _ _⟩
 |[x],hcells,_,_,_=>
   refine(join_one bk o c x sep w (hcells 0 x rfl)).mono fun e w' ⟨he,hw⟩=>⟨?_,hw ▸ Below.refl _ _⟩
   rw[he,eu,List.map_nil,Lib.join_one,Lib.mk_data]
 |x::y::r,hcells,hN,hcap,hlen=>exact azX bk o c (x::y::r) sep w hcells hbk (by simp) hN hcap hlen
theorem ah3(l:List (List UInt8)):(l.map fun x=>ByteArray.mk x.toArray).map (·.data.toList)=l:=by
 rw[zz]
 conv=>rhs;rw[<-List.map_id l]
 exact List.map_congr_left fun x _=>by simp
theorem azZ(l:List (List UInt8))(s:List UInt8)(hl:l.length<=1073741824)(hj:(Go.Lib.join l s).length<=1073741824):RC Go.V.D Tryz.prog 54 [.ah U.str l,.str s] [] (.str (Go.Lib.join l s)) []:=by
 refine OM ⟨Tryz.f54,Tryz.func54,by kernel_rfl,by kernel_rfl⟩ fun S w vals hS ha=>?_
 obtain⟨X,vs2,rfl,hX,h2⟩:=ha.fE;obtain⟨Y,vs3,rfl,hY,h3⟩:=h2.fE;rw[h3.lS,gX hY];have ah4:∀{e:Ending}{w':World},e=.returned (.string ⟨(Lib.join l s).toArray⟩)/\Below w.heap.size w w'->∃u,e=.returned u/\Below w.heap.size w w'/\∃S':Nat->Prop,(∀b,S b->S' b)/\(∀b,S' b->S b\/(w.heap.size<=b/\b<w'.heap.size))/\Rep Go.V.D [] S' w' (.str (Lib.join l s)) u:=
  fun{e w'} h=>⟨_,h.1,h.2,S,fun _ h=>h,fun _ h=>.inl h,.str _⟩
 cases hX with
 |eM a cap=>exact(join_none a cap _ w).mono fun e w' h=>ah4 ⟨h.1,h.2 ▸ Below.refl _ _⟩
 |ah val hSb hcap hlv hc hr=>
  have hcell:∀(j:Nat) y,(l.map fun x=>ByteArray.mk x.toArray)[j]?=some y->w.cell? ⟨_,_+j,none⟩=some (.string y):=fun j y hy=>by
   rw[f5,eN]at hy;obtain⟨z,hz,rfl⟩:=hy;have hj:j<l.length:=(cz.1 hz).1;have hrv:bE Go.V.D [] S w [.str z] (val j):=⟨(hlv j z hz).symm,hr j z hz⟩;obtain⟨u,hu,hu2⟩:=wN hrv;have h:=hc j hj 0 (.string ⟨z.toArray⟩) (by rw[hu,<-gX hu2];rfl);rw[show K.sz U.str=1 from rfl,m8,Nat.add_zero]at h;exact h
  have e:=azY _ _ _ (l.map fun x=>ByteArray.mk x.toArray) ⟨s.toArray⟩ w hcell (hS _ hSb) (by simpa using hl) (by simpa using hcap) (by rw[ah3];exact hj);rw[cr,ah3]at e;exact e.mono fun e w' h=>ah4 h
theorem az1:(CM M.strings_Join).Ok Go.V.D Tryz.prog:=by
 intro x r hr;obtain⟨hl,hj,hv⟩:List.length (α:=List UInt8) x.1.1<=1073741824/\(Go.Lib.join x.1.1 x.1.2.1).length<=1073741824/\Go.Lib.join x.1.1 x.1.2.1=r:=by
  change M.strings_Join x.1.1 x.1.2.1=some r at hr;unfold M.strings_Join at hr;by_cases h:List.length (α:=List UInt8) x.1.1<=1073741824/\(Go.Lib.join x.1.1 x.1.2.1).length<=1073741824
  ·simp only[h.1,h.2,bg,cK,aA]at hr;exact⟨h.1,h.2,f6 hr⟩
  ·have:(decide (List.length (α:=List UInt8) x.1.1<=1073741824)&&decide ((Go.Lib.join x.1.1 x.1.2.1).length<=1073741824))=false:=by
    rw[Bool.and_eq_false_iff,dR,dR];exact Decidable.not_and_iff_or_not.1 h
   rw[this]at hr;cases hr
 subst hv
 show RC Go.V.D Tryz.prog 54 [.ah U.str x.1.1,.str x.1.2.1] [] (.str (Go.Lib.join x.1.1 x.1.2.1)) []
 exact azZ x.1.1 x.1.2.1 hl hj
end fD
end Go.Proofs
theorem Nx:(CM M.strings_Join).Ok Go.V.D Go.Proofs.Tryz.prog:=Go.Proofs.fD.az1
