/-
  The contracts of strings.Builder's copyCheck and String.
-/
import Derived.Test.YtdehjkmaaljlpaaGreatDoorXEhandA
import Derived.Shelf.Abstract
import Derived.Shelf.Strings.Builder1
import Derived.Ground.NamesProg
import Derived.Test.YtdehjkmaaljlpaaGreatDoorProg
set_option linter.unusedVariables false
noncomputable def Nz(m:(List UInt8)->Option (List UInt8)):Go.V.ax Go.V.K:={f:=141,sh:=⟨[.ptr 0 0],[.box [.np 0,.own 1],.arr Go.V.U.u8]⟩,R:=List UInt8,run:=fun x=>m x.2.2.1,dflt:=default,out:=fun r=>(Go.V.Sh.enc Go.V.D (.bU []) (),Go.V.bh.encs Go.V.D [.box [.np 0,.own 1],.arr Go.V.U.u8] (((),(),()),r,()))}
noncomputable def ND(m:(List UInt8)->Option (List UInt8)):Go.V.ax Go.V.K:={f:=97,sh:=⟨[.ptr 0 0],[.box [.np 0,.own 1],.arr Go.V.U.u8]⟩,R:=List UInt8,run:=fun x=>m x.2.2.1,dflt:=default,out:=fun r=>(Go.V.Sh.enc Go.V.D .str r,Go.V.bh.encs Go.V.D [.dead,.dead] ((),(),()))}
namespace Go.Proofs
open Go.RowKit Go.Shelf Go.V
theorem azG{a:Option Func}{x y:Func}(h:a=some x)(k:x=y):a=some y:=h.trans (wH some k)
def Tryz.laysBString_ren:Go.Shelf.Ren:=⟨fun|169=>97|n=>n,fun|70=>142|72=>144|37=>121|127=>197|n=>n,fun|n=>n⟩
theorem Tryz.laysBString:Go.Proofs.Lays.n169 Tryz.prog Tryz.laysBString_ren:={
 mixed:=by kernel_rfl
 f169:=azG Tryz.func97 (by kernel_rfl)
 t0:=Tryz.underlying0
 a0:=Tryz.isAgg0
 z0:=Tryz.sizeOf0
 v0:=Tryz.zeroValue0
 t3:=Tryz.underlying3
 a3:=Tryz.isAgg3
 z3:=Tryz.sizeOf3
 v3:=Tryz.zeroValue3
 t9:=Tryz.underlying9
 a9:=Tryz.isAgg9
 z9:=Tryz.sizeOf9
 v9:=Tryz.zeroValue9
 t37:=Tryz.underlying121
 a37:=Tryz.isAgg121
 z37:=Tryz.sizeOf121
 v37:=Tryz.zeroValue121
 t70:=Tryz.underlying142
 a70:=Tryz.isAgg142
 z70:=Tryz.sizeOf142
 v70:=Tryz.zeroValue142
 t72:=Tryz.underlying144
 a72:=Tryz.isAgg144
 z72:=Tryz.sizeOf144
 v72:=Tryz.zeroValue144
 t127:=Tryz.underlying197
 a127:=Tryz.isAgg197
 z127:=Tryz.sizeOf197
 v127:=Tryz.zeroValue197}
namespace fD
section
variable {P :Program}{ρ:Ren}
set_option maxRecDepth 100000 in
theorem azH(L:Lays.n169 P ρ)(X:Builder.Extra P ρ)(b g cap:Nat)(p:Value)(cur:Array Value)(fr:Nat×Nat)(l:List UInt8)(w:World)(h0:l≠[])
 (hbk:w.heap[b]?=some (.cells #[p,.slice (some ⟨g,0,none⟩) l.length cap] (ρ.t 72) (0,0))) (hg:w.heap[g]?=some (.cells cur (ρ.t 5) fr)) (hcap:l.length<=cap) (hsz:cap<=cur.size) (hmax:l.length<=1073741824)
 (hcells:∀j x,l[j]?=some x->w.cell? ⟨g,j,none⟩=some (.int .u8 x.toNat)):
 Calls P (ρ.f 169) #[.pointer (some ⟨b,0,none⟩)] w fun e w'=>e=.returned (.string ⟨l.toArray⟩)/\w'=w.drew.freeze ⟨g,0,none⟩ l.length:=by
 have hl0:l.length≠0:=by simpa using h0
 have c1:w.drew.cell? ⟨b,1,none⟩=some (.slice (some ⟨g,0,none⟩) l.length cap):=by
  have:w.drew.heap[b]?=some (.cells #[p,.slice (some ⟨g,0,none⟩) l.length cap] (ρ.t 72) (0,0)):=hbk;rw[Lib.cell_of_heap this];rfl
 have hSD:(Builtin.unsafeSliceData_ #[(ρ.t 37)] (ρ.t 127) #[.slice (some ⟨g,0,none⟩) l.length cap]).run P w.drew=.ok (.pointer (some ⟨g,0,none⟩)) w.drew:=
  Lib.run_unsafeSliceData_row _ _ _ _ _ _ (by omega)
 have hUS:(Builtin.unsafeString_ #[(ρ.t 127),(ρ.t 3)] (ρ.t 9) #[.pointer (some ⟨g,0,none⟩),.int .i64 l.length]).run P w.drew=.ok (.string ⟨l.toArray⟩) (w.drew.freeze ⟨g,0,none⟩ l.length):=by
  refine Lib.run_unsafeString_row w.drew (ρ.t 127) (ρ.t 3) (ρ.t 9) (ρ.t 5) L.t127 X.cellsByte g cur.size (by have hg':w.drew.heap[g]?=some (.cells cur (ρ.t 5) fr):=hg;simp[World.shape?,hg']) l h0 (by omega) (by omega) ?_;intro j x hx;rw[Addr.add_lit,dI];exact hcells j x hx
 have mixed:=L.mixed;have t72:=L.t72;have a72:=L.a72;have z72:=L.z72;have v72:=L.v72;have u72:=run_underlying L.t72;have t70:=L.t70;have a70:=L.a70;have z70:=L.z70;have v70:=L.v70;have u70:=run_underlying L.t70;have t37:=L.t37;have a37:=L.a37;have z37:=L.z37;have v37:=L.v37;have u37:=run_underlying L.t37;have t127:=L.t127;have a127:=L.a127;have z127:=L.z127;have v127:=L.v127;have u127:=run_underlying L.t127;have t3:=L.t3;have a3:=L.a3;have z3:=L.z3;have v3:=L.v3;have u3:=run_underlying L.t3;have t9:=L.t9;have a9:=L.a9;have z9:=L.z9;have v9:=L.v9;have u9:=run_underlying L.t9;have t5:=X.t5;have a5:=X.a5;have z5:=X.z5;have v5:=X.v5;have u5:=run_underlying X.t5
 go_enter L.f169,Body.n169_ntmps ρ
 go_wp2
 go_region_o
 all_goals (go_wp2;go_ret;exact⟨rfl,rfl⟩)
set_option maxRecDepth 100000 in
theorem azI(L:Lays.n169 P ρ)(X:Builder.Extra P ρ)(B b g:Nat)(p:Value)(cur:Array Value)(fr:Nat×Nat)(w:World)(hBw:B<=w.heap.size)(hbk:w.heap[b]?=some (.cells #[p,.slice (some ⟨g,0,none⟩) 0 0] (ρ.t 72) (0,0)))(hg:w.heap[g]?=some (.cells cur (ρ.t 5) fr)):
 Calls P (ρ.f 169) #[.pointer (some ⟨b,0,none⟩)] w fun e w'=>e=.returned (.string ⟨#[]⟩)/\Below B w w':=by
 have hUS:=Any.unsafeString_none L X;have hlt:b<w.heap.size:=by
  rcases cA b w.heap.size with h'|h'
  ·exact h'
  ·simp[qK h']at hbk
 have c1:w.drew.cell? ⟨b,1,none⟩=some (.slice (some ⟨g,0,none⟩) 0 0):=by
  have:w.drew.heap[b]?=some (.cells #[p,.slice (some ⟨g,0,none⟩) 0 0] (ρ.t 72) (0,0)):=hbk;rw[Lib.cell_of_heap this];rfl
 have hSD:(Builtin.unsafeSliceData_ #[(ρ.t 37)] (ρ.t 127) #[.slice (some ⟨g,0,none⟩) 0 0]).run P w.drew=.ok (.pointer (some ⟨w.drew.heap.size,0,none⟩)) (w.drew.alloc (.view ⟨g,0,none⟩ (ρ.t 5))):=
  Lib.run_unsafeSliceData_zero w.drew _ _ (ρ.t 5) L.t127 ⟨g,0,none⟩ 0 ((ρ.t 5),cur.size) (by have hg':w.drew.heap[g]?=some (.cells cur (ρ.t 5) fr):=hg;simp[World.shape?,hg'])
 have c2:(w.drew.alloc (.view ⟨g,0,none⟩ (ρ.t 5))).cell? ⟨b,1,none⟩=some (.slice (some ⟨g,0,none⟩) 0 0):=by
  have:(w.drew.alloc (.view ⟨g,0,none⟩ (ρ.t 5))).heap[b]?=_:=(Lib.alloc_old w.drew _ b hlt).trans hbk;rw[Lib.cell_of_heap this];rfl
 have c3:(w.alloc (.view ⟨g,0,none⟩ (ρ.t 5))).drew.cell? ⟨b,1,none⟩=some (.slice (some ⟨g,0,none⟩) 0 0):=c2;have c0:w.cell? ⟨b,1,none⟩=some (.slice (some ⟨g,0,none⟩) 0 0):=c1;have mixed:=L.mixed;have t72:=L.t72;have a72:=L.a72;have z72:=L.z72;have v72:=L.v72;have u72:=run_underlying L.t72;have t70:=L.t70;have a70:=L.a70;have z70:=L.z70;have v70:=L.v70;have u70:=run_underlying L.t70;have t37:=L.t37;have a37:=L.a37;have z37:=L.z37;have v37:=L.v37;have u37:=run_underlying L.t37;have t127:=L.t127;have a127:=L.a127;have z127:=L.z127;have v127:=L.v127;have u127:=run_underlying L.t127;have t3:=L.t3;have a3:=L.a3;have z3:=L.z3;have v3:=L.v3;have u3:=run_underlying L.t3;have t9:=L.t9;have a9:=L.a9;have z9:=L.z9;have v9:=L.v9;have u9:=run_underlying L.t9;have t5:=X.t5;have a5:=X.a5;have z5:=X.z5;have v5:=X.v5;have u5:=run_underlying X.t5
 go_enter L.f169,Body.n169_ntmps ρ
 go_wp2
 go_region_o
 all_goals (go_wp2;go_ret;exact⟨rfl,(Below.drew (Below.refl B w)).alloc hBw _⟩)
end
theorem extra:Builder.Extra Tryz.prog Tryz.laysBString_ren:={
 sizeBuilder:=by kernel_rfl
 liesBuilder:=by kernel_rfl
 t5:=Tryz.underlying5
 a5:=fun _=>by kernel_rfl
 z5:=fun _=>by kernel_rfl
 v5:=fun _=>by kernel_rfl
 infoByte:=by kernel_rfl
 cellsByte:=by kernel_rfl
 sizeByte:=by kernel_rfl
 neB5:=by decide}
set_option maxRecDepth 100000 in
theorem ahS(b:Nat)(w:World)(h0:w.cell? ⟨b,0,none⟩=some (.pointer (some ⟨b,0,none⟩))):
 Calls Tryz.prog 141 #[.pointer (some ⟨b,0,none⟩)] w fun e w'=>e=.returned (.tuple #[])/\w'=w:=by
 obtain⟨j,hj,hjs⟩:=wR (P:=Tryz.prog) (t:=144) (n:=2) (by kernel_rfl)
 go_enter Tryz.func141,Tryz.ntmps141
 go_wp2
 rw[Lib.run_neq_ptr_same w _ Tryz.underlying142 hj]
 go_wp2
 go_end0
 exact⟨rfl,rfl⟩
set_option maxRecDepth 100000 in
theorem ahT(b:Nat)(w:World)(h0:w.cell? ⟨b,0,none⟩=some (.pointer none))(hsh:w.shape? b=some (144,2))(hfz:w.frozen? ⟨b,0,none⟩=false):
 Calls Tryz.prog 141 #[.pointer (some ⟨b,0,none⟩)] w fun e w'=>e=.returned (.tuple #[])/\w'=w.setCell ⟨b,0,none⟩ (.pointer (some ⟨b,0,none⟩)):=by
 obtain⟨j,hj,hjs⟩:=wR (P:=Tryz.prog) (t:=144) (n:=2) (by kernel_rfl)
 go_enter Tryz.func141,Tryz.ntmps141
 go_wp2
 rw[Lib.run_to_unsafe w ⟨b,0,none⟩ Tryz.underlying142 Tryz.underlying238 hj (by rw[hjs];decide) hsh (Nat.zero_lt_succ 1)];simp only[Result.andThen];rw[Oper.upon_value]
 go_wp2
 rw[run_callFunc_extern Tryz.func193 (by kernel_rfl) (by kernel_rfl) (by kernel_rfl) (e:=Extern.AbiNoEscape.same) (by kernel_rfl)];rw[Lib.run_noEscape];simp only[Result.andThen];rw[Oper.upon_value]
 go_wp2
 rw[Lib.run_from_unsafe w ⟨b,0,none⟩ Tryz.underlying238 Tryz.underlying142 hj hsh (by kernel_rfl)];simp only[Result.andThen];rw[Oper.upon_value]
 go_wp2
 go_end0
 exact⟨rfl,rfl⟩
abbrev HB(l:List UInt8):List (Ob Go.V.K):=[.box [.np 0,.sl 1],.arr U.u8 l]
abbrev HX:List (Ob Go.V.K):=[.dead,.dead]
theorem bld{ρ:List Value}{S:Nat->Prop}{w:World}{l:List UInt8}(hs:aY Go.V.D ρ S w (HB l)):
 ∃b p r1 v1,ρ=[.pointer (some ⟨b,0,none⟩),r1]/\w.heap[b]?=some (.cells #[p,v1] 144 (0,0))/\v1=r1/\(p=.pointer none\/p=.pointer (some ⟨b,0,none⟩))/\Rep Go.V.D ρ S w (.sl 1) v1:=by
 have hlen:ρ.length=2:=hs.len
 match ρ,hlen with
 |[r0,r1],_=>
   obtain⟨b,vs,T,e,hblk,hr,hT⟩:=hs.ob 0 _ r0 rfl rfl;have hT:T=144:=by
    have:=hT rfl;have e2:(some 144:Option TypeId)=some T:=this;exact(f6 e2).symm
   subst hT;obtain⟨p,r,ev,hp,hr2⟩:=hr.fE;obtain⟨v1,r',ev',hv1,hr3⟩:=hr2.fE;have en:=hr3.lS;subst en;subst ev';have evs:vs= #[p,v1]:=by
    apply Array.ext';rw[ev]
   obtain⟨hp1,a,n,c,hv⟩:=lj hv1;refine⟨b,p,r1,v1,by rw[e],by rw[hblk,evs],?_,?_,hv1⟩
   ·simpa using hp1.symm
   ·cases hp with
    |ko=>exact .inl rfl
    |np hp=>simp[e]at hp;right;rw[hp]
theorem azJ:(Nz M.NA).Ok Go.V.D Tryz.prog:=by
 intro x r hr;have hv:x.2.2.1=r:=f6 hr;subst hv;refine⟨⟨Tryz.f141,Tryz.func141,by kernel_rfl,by kernel_rfl⟩,fun ρ S w vals hs ha=>?_⟩;change aY Go.V.D ρ S w (HB x.2.2.1)at hs;change bE Go.V.D ρ S w [.ptr 0 0] vals at ha
 show Calls Tryz.prog 141 vals.toArray w fun e w'=>∃u ρ' S',e=.returned u/\aY Go.V.D ρ' S' w' (HB x.2.2.1)/\Rep Go.V.D ρ' S' w' (.bU []) u/\Step Go.V.D 2 ρ S (HB x.2.2.1) w ρ' S' (HB x.2.2.1) w'
 obtain⟨b,p,r1,v1,hρ,hblk,hv1,hp,hsl⟩:=bld hs;obtain⟨u,rfl,hu⟩:=wN ha;obtain⟨b',hub,hpp⟩:=tU hu;rw[hρ]at hpp;simp at hpp;subst hpp;subst hub;have ahV:∀(ρ':List Value)(S':Nat->Prop)(w':World),Rep Go.V.D ρ' S' w' (.bU []) (.tuple #[]):=fun _ _ _=>.bU (l:=[]) (vs:=[]) rfl fun i v x h=>by simp at h
 rcases hp with rfl|rfl
 ·refine(ahT b w (by simp[World.cell?,hblk]) (by simp[World.shape?,hblk]) (by simp[World.frozen?,hblk])).mono ?_
  rintro e w' ⟨rfl,rfl⟩
  have hnew:(w.setCell ⟨b,0,none⟩ (.pointer (some ⟨b,0,none⟩))).heap[b]?=some (.cells #[.pointer (some ⟨b,0,none⟩),v1] 144 (0,0)):=by
   simp[World.setCell,Array.getElem?_modify,hblk]
  have hold:∀k,k≠b->(w.setCell ⟨b,0,none⟩ (.pointer (some ⟨b,0,none⟩))).heap[k]?=w.heap[k]?:=fun k hk=>Below.heap_setCell _ _ _ _ hk
  have hsize:(w.setCell ⟨b,0,none⟩ (.pointer (some ⟨b,0,none⟩))).heap.size=w.heap.size:=by simp[World.setCell]
  have hr0:ρ[0]?=some (.pointer (some ⟨b,0,none⟩)):=by rw[hρ];rfl
  have hnS:¬S b:=(hs.lt b ⟨0,_,_,rfl,rfl,hr0,rfl⟩).2;have hob:f8 Go.V.D ρ S (w.setCell ⟨b,0,none⟩ (.pointer (some ⟨b,0,none⟩))) (.box [.np 0,.sl 1]) (.pointer (some ⟨b,0,none⟩)):=by
   refine⟨b, #[.pointer (some ⟨b,0,none⟩),v1],144,rfl,hnew,.cons (.np hr0) (.cons ?_ .nil),fun _=>rfl⟩;exact hsl.mono (fun _ h=>h) (fun k hk=>hold k (fun e=>by subst e;exact hnS hk)) (fun _ _ h=>h)
  have h1:=hs.turn (h:=0) (b:=b) (o':=.box [.np 0,.sl 1]) rfl rfl hr0 rfl hsize hold (fun _ h=>h) hob;have h2:=Step.turn (n0:=2) hs (h:=0) (b:=b) (o':=.box [.np 0,.sl 1]) rfl rfl hr0 rfl hsize hold (fun _ h=>h) rfl rfl rfl;exact⟨_,ρ,S,rfl,h1,ahV _ _ _,h2⟩
 ·refine(ahS b w (by simp[World.cell?,hblk])).mono ?_
  rintro e w' ⟨rfl,rfl⟩
  exact⟨_,ρ,S,rfl,hs,ahV _ _ _,Step.refl⟩
theorem give{ρ:List Value}{S:Nat->Prop}{w w':World}{H:List (Ob K)}(hs:aY Go.V.D ρ S w H)(hl:H.length=2)(hsize:w.heap.size<=w'.heap.size)(e1:w'.os=w.os)(e2:w'.tape=w.tape)(e3:w'.output=w.output)
 (hold:∀k,k<w.heap.size->¬Own Go.V.D w ρ H k->w'.heap[k]?=w.heap[k]?):aY Go.V.D ρ S w' HX/\Step Go.V.D 2 ρ S H w ρ S HX w':=by
 have hno:∀(w:World) b,¬Own Go.V.D w ρ HX b:=fun w b ⟨h,o,r,h1,h2,h3,h4⟩=>by
  match h,h1 with
  |0,h1=>simp at h1;subst h1;cases h2
  |1,h1=>simp at h1;subst h1;cases h2
  |n+2,h1=>simp at h1
 have hS:∀b,S b->w'.heap[b]?=w.heap[b]?:=fun b hb=>hold b (hs.slt b hb) fun h=>(hs.lt b h).2 hb
 refine⟨⟨by rw[hs.len,hl];rfl,fun h o r h1 h2=>?_,fun h h' o o' r r' b h1 h2 h3 h4 g1 g2 g3 g4=>absurd ⟨h,o,r,h1,h2,h3,h4⟩ (hno _ b),fun b hb=>absurd hb (hno _ b),fun b hb=>ju (hs.slt b hb) hsize,Go.V.D.base.mono (fun _ h=>h) hS hs.base⟩,
  ⟨e1,e2,e3,hsize,hold,fun b hb=>absurd hb (hno _ b),fun _ h=>h,fun _ h=>.inl h,fun _ _=>rfl⟩⟩
 match h,h1 with
 |0,h1=>simp at h1;subst h1;trivial
 |1,h1=>simp at h1;subst h1;trivial
 |n+2,h1=>simp at h1
theorem azK:(ND M.sF).Ok Go.V.D Tryz.prog:=by
 intro x r hr;obtain⟨hmax,hv⟩:List.length (α:=UInt8) x.2.2.1<=1073741824/\x.2.2.1=r:=by
  change M.sF x.2.2.1=some r at hr;unfold M.sF at hr;by_cases h:List.length (α:=UInt8) x.2.2.1<=1073741824
  ·simp only[h,bg,aA]at hr;exact⟨h,f6 hr⟩
  ·simp[h]at hr
 subst hv;refine⟨⟨Tryz.f97,Tryz.func97,by kernel_rfl,by kernel_rfl⟩,fun ρ S w vals hs ha=>?_⟩;change aY Go.V.D ρ S w (HB x.2.2.1)at hs;change bE Go.V.D ρ S w [.ptr 0 0] vals at ha
 show Calls Tryz.prog 97 vals.toArray w fun e w'=>∃u ρ' S',e=.returned u/\aY Go.V.D ρ' S' w' HX/\Rep Go.V.D ρ' S' w' (.str x.2.2.1) u/\Step Go.V.D 2 ρ S (HB x.2.2.1) w ρ' S' HX w'
 generalize (x.2.2.1:List UInt8)=l at hs hmax⊢;obtain⟨b,p,r1,v1,hρ,hblk,hv1,hp,hsl⟩:=bld hs;obtain⟨u,rfl,hu⟩:=wN ha;obtain⟨b',hub,hpp⟩:=tU hu;rw[hρ]at hpp;simp at hpp;subst hpp;subst hub;have hr1:ρ[1]?=some r1:=by rw[hρ];rfl
 have OP:∀{w':World},Below w.heap.size w w'->∃u ρ' S',Ending.returned (.string ⟨#[]⟩)=.returned u/\aY Go.V.D ρ' S' w' HX/\Rep Go.V.D ρ' S' w' (.str []) u/\Step Go.V.D 2 ρ S (HB l) w ρ' S' HX w':=fun{w'} hb=>by
  obtain⟨g1,g2⟩:=give (w':=w') hs rfl hb.size hb.os hb.tape hb.output (fun k hk _=>hb.block k hk);exact⟨_,ρ,S,rfl,g1,.str [],g2⟩
 rcases zx hs (h:=1) rfl hr1 with⟨rfl,rfl⟩|⟨g,o,cap,cur,T,fr,rfl,hg,⟨hcap,eV⟩,hsz,hfr,hall⟩
 ·rw[hv1]at hblk;refine(show Calls Tryz.prog 97 #[.pointer (some ⟨b,0,none⟩)] w _ from Any.Builder_String_nil Tryz.laysBString extra w.heap.size b p w hblk).mono ?_
  rintro e w' ⟨rfl,hb⟩
  exact OP hb
 ·obtain⟨rfl,rfl⟩:T=5/\o=0:=eV.1 5 rfl;rw[hv1]at hblk;have hsz1:K.sz U.u8=1:=rfl;rw[hsz1,m8,dI]at hsz;by_cases hl0:l=[]
  ·subst hl0;by_cases hc0:cap=0
   ·subst hc0;refine(show Calls Tryz.prog 97 #[.pointer (some ⟨b,0,none⟩)] w _ from azI Tryz.laysBString extra w.heap.size b g p cur fr w (bY _) hblk hg).mono ?_
    rintro e w' ⟨rfl,hb⟩
    exact OP hb
   ·refine(show Calls Tryz.prog 97 #[.pointer (some ⟨b,0,none⟩)] w _ from Any.Builder_String_room Tryz.laysBString extra w.heap.size b g cap p w hc0 hblk).mono ?_
    rintro e w' ⟨rfl,hb⟩
    exact OP hb
  ·refine(show Calls Tryz.prog 97 #[.pointer (some ⟨b,0,none⟩)] w _ from azH Tryz.laysBString extra b g cap p cur fr l w hl0 hblk hg hcap hsz hmax (fun j y hy=>?_)).mono ?_
   ·have h1:=hall j y hy;rw[hsz1,m8,dI]at h1;obtain⟨z,t,ez,hz,ht⟩:=bE.fE (K:=Go.V.K) (v:=.int .u8 ((UInt8.toNat y:Nat):Int)) (l:=[]) h1;rw[f7 hz]at ez;have hj:(cQ cur j 1)[0]?=some (.int .u8 ((UInt8.toNat y:Nat):Int)):=by rw[ez];rfl
    simp only[cQ,eI,iK,Nat.add_zero]at hj;simp only[World.cell?,hg];simpa using hj
   ·rintro e w' ⟨rfl,rfl⟩
    have hheap:∀k,k≠g->(w.drew.freeze ⟨g,0,none⟩ l.length).heap[k]?=w.heap[k]?:=fun k hk=>by
     have:l.length≠0:=fun e=>hl0 (ja e)
     unfold World.freeze;rw[av this];simp only[Array.getElem?_modify];rw[av (fun e=>hk e.symm)];rfl
    have hsize:(w.drew.freeze ⟨g,0,none⟩ l.length).heap.size=w.heap.size:=by
     unfold World.freeze;split
     ·rfl
     ·simp
    have hown:Own Go.V.D w ρ (HB l) g:=⟨1,_,_,rfl,rfl,hr1,rfl⟩;have eo:(w.drew.freeze ⟨g,0,none⟩ l.length).os=w.os/\(w.drew.freeze ⟨g,0,none⟩ l.length).tape=w.tape/\(w.drew.freeze ⟨g,0,none⟩ l.length).output=w.output:=by
     unfold World.freeze;split<;>exact⟨rfl,rfl,rfl⟩
    obtain⟨g1,g2⟩:=give (w':=w.drew.freeze ⟨g,0,none⟩ l.length) hs rfl (by rw[hsize];exact bY _) eo.1 eo.2.1 eo.2.2 (fun k hk hno=>hheap k (fun e=>by subst e;exact hno hown));exact⟨_,ρ,S,rfl,g1,.str l,g2⟩
end fD
end Go.Proofs
theorem arX:(Nz M.NA).Ok Go.V.D Go.Proofs.Tryz.prog:=Go.Proofs.fD.azJ
theorem asb:(ND M.sF).Ok Go.V.D Go.Proofs.Tryz.prog:=Go.Proofs.fD.azK
