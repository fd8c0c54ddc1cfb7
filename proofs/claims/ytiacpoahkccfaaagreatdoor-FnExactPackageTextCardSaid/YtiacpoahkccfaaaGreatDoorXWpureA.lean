/-
  OPERATIONS THAT LEAVE THE WORLD AS IT IS: what the value-level reading yields is what the machine computes.
-/
import Derived.Test.YtiacpoahkccfaaaGreatDoorXWtreeA
import Derived.Lib.Strings
import Derived.Laws.BytesArg
import Derived.Laws.StructEq
set_option linter.unusedVariables false
namespace Go.V
open Go
variable {K :dh}{D:bF K}{ρ:List Value}{S:Nat->Prop}{w:World}
theorem fQ{k:IntKind}{n:Int}{X:Value}(h:Rep D ρ S w (.int k n) X):X=.int k n:=by cases h;rfl
theorem kE{b:Bool}{X:Value}(h:Rep D ρ S w (.bool b) X):X=.bool b:=by cases h;rfl
theorem iD{s:List UInt8}{X:Value}(h:Rep D ρ S w (.str s) X):X=.string ⟨s.toArray⟩:=by cases h;rfl
theorem Qn{c:K.U}{x:K.El c}{off:Nat}{X:Value}(h:Rep D ρ S w (.rp c x off) X):∃b o vs,X=.pointer (some ⟨b,o+off,none⟩)/\vs.length=(D.cells c x).length/\iF w b o vs/\
 ∀(j:Nat) v y,(D.cells c x)[j]?=some v->vs[j]?=some y->Rep D ρ S w v y:=by
 cases h with|rp vs hS hl hc hr=>exact⟨_,_,vs,rfl,hl,hc,hr⟩
theorem rG{h off:Nat}{X:Value}(hp:Rep D ρ S w (.ptr h off) X):∃b,X=.pointer (some ⟨b,off,none⟩)/\ρ[h]?=some (.pointer (some ⟨b,0,none⟩)):=by
 cases hp with|ptr hp=>exact⟨_,rfl,hp⟩
theorem jJ{h:Nat}{X:Value}(hp:Rep D ρ S w (.sl h) X):ρ[h]?=some X/\∃a n c,X=.slice a n c:=by
 cases hp with|sl hp=>exact⟨hp,_,_,_,rfl⟩
theorem oq{h st i off:Nat}{X:Value}(hp:Rep D ρ S w (.ep h st i off) X):∃b o n c,X=.pointer (some ⟨b,o+i*st+off,none⟩)/\ρ[h]?=some (.slice (some ⟨b,o,none⟩) n c)/\i<n:=by
 cases hp with|ep hp hi=>exact⟨_,_,_,_,rfl,hp,hi⟩
theorem rH{H:List (Ob K)}(hs:aT D ρ S w H){h:Nat}{c:K.U}{l:List (K.El c)}{X:Value}(ho:H[h]?=some (.arr c l))(hp:ρ[h]?=some X):
 (X=.slice none 0 0/\l=[])\/∃b o cap vs T fr,X=.slice (some ⟨b,o,none⟩) l.length cap/\w.heap[b]?=some (.cells vs T fr)/\(l.length<=cap/\iq D c T o)/\o+cap*K.sz c<=vs.size/\
   (∀k,o<=k->k<o+cap*K.sz c->¬(fr.1<=k/\k<fr.2))/\∀i x,l[i]?=some x->bc D ρ S w (D.cells c x) (cD vs (o+i*K.sz c) (K.sz c)):=hs.ob _ _ _ ho hp
theorem getD_some{α:Type}{l:List α}{i:Nat}(d:α)(h:i<l.length):l[i]?=some (l.getD i d):=by simp[List.getD,h]
theorem Qo(s:List UInt8):(ByteArray.mk s.toArray).toList=s:=by rw[ByteArray.toList_eq]
theorem wA(s:List UInt8):(ByteArray.mk s.toArray).size=s.length:=by simp[ByteArray.size]
theorem afh(s t:List UInt8):(ByteArray.mk s.toArray)++(ByteArray.mk t.toArray)=⟨(s++t).toArray⟩:=by
 apply ByteArray.ext;simp
theorem afi{P:Program}{op:BinOp}{t:TypeId}{a b:List UInt8}{v:AV K}{c:Bool}(h:I2 op a b=some (v,c))(hc:c=true):
 ∃u,(binOp op t (.string ⟨a.toArray⟩) (.string ⟨b.toArray⟩)).run P w=.ok u w/\Rep D ρ S w v u:=by
 cases op<;>simp only[I2]at h<;>first
  |(cases h;done)
  |(simp only[ay,aR]at h;obtain⟨rfl,rfl⟩:=h)
 case add=>
  refine⟨.string ⟨(a++b).toArray⟩,?_,.str _⟩;have hc':a.length+b.length<=4611686018427387904:=by simpa [av]using hc
  simp only[binOp,Op.stringOp,wA];rw[gq (by simp[IntKind.max,IntKind.signed,IntKind.bits];omega)];simp[afh]
 all_goals
  refine⟨_,?_,.bool _⟩;simp[binOp,Op.stringOp,zo]
theorem afj{P:Program}{op:BinOp}{t:TypeId}{k:IntKind}{a b:Int}{v:AV K}{c:Bool}(h:I1 op k a b=some (v,c))(hc:c=true):
 ∃u,(binOp op t (.int k a) (.int k b)).run P w=.ok u w/\Rep D ρ S w v u:=by
 cases op<;>simp only[I1]at h<;>first
  |(cases h;done)
  |(simp only[ay,aR]at h;obtain⟨rfl,rfl⟩:=h)
 case quo=>
  refine⟨_,?_,.int _ _⟩;have hb:b≠0:=by simpa using hc
  simp[binOp,Op.intDiv,hb]
 case rem=>
  refine⟨_,?_,.int _ _⟩;have hb:b≠0:=by simpa using hc
  simp[binOp,Op.intDiv,hb]
 case and=>exact⟨_,by simp[binOp,Op.intBits,uG],.int _ _⟩
 case or=>exact⟨_,by simp[binOp,Op.intBits,uG],.int _ _⟩
 case xor=>exact⟨_,by simp[binOp,Op.intBits,uG],.int _ _⟩
 case andNot=>exact⟨_,by simp[binOp,Op.intBits,uG],.int _ _⟩
 all_goals first
  |(refine⟨_,?_,.int _ _⟩;simp[binOp,Op.intArith];done)
  |(refine⟨_,?_,.bool _⟩;simp[binOp,Op.intCmp];done)
theorem Qp{P:Program}{t:TypeId}(h:I3 P t=true)(a b:Bool):(Op.equal t (.bool a) (.bool b)).run P w=.ok (a==b) w:=by
 have hu:P.underlying t=some .bool:=by
  unfold I3 at h;split at h
  ·assumption
  ·cases h
 show(Op.equalIn (9999+1) t (.bool a) (.bool b)).run P w=_
 rw[Op.equalIn];simp[underlying,hu,program,Sem.run]
theorem J7{P:Program}{op:BinOp}{t:TypeId}{x y:Operand}{X Y:Value}(h:(∃k n,X=.int k n)\/(∃b,X=.bool b)\/(∃s,X=.string s)):
 (eqGuard op t x y X Y).run P w=.ok () w:=by
 rcases h with⟨k,n,rfl⟩|⟨b,rfl⟩|⟨s,rfl⟩<;>simp[eqGuard]
theorem Eg{P:Program}{t:TypeId}{g:Bool}(h:DK P t=some g):(isAgg t).run P w=.ok g w:=by
 unfold DK at h;split at h<;>first|(cases h;done)|skip
 ·rename_i d hu;simp only[ay]at h;subst h;simp[isAgg,underlying,hu]
 ·rename_i d e hu;simp only[ay]at h;subst h;simp[isAgg,underlying,hu]
 ·rename_i d h1 h2 hu;simp only[ay]at h;subst h;have:(underlying t).run P w=.ok d w:=by simp[underlying,hu]
  simp only[isAgg,Sem.run_bind,this,Result.andThen_ok];cases d<;>first|rfl|(exact absurd rfl (h1 _))|(exact absurd rfl (h2 _ _))
theorem jL{P:Program}{t:TypeId}{n:Nat}(h:dC P t=some n):(sizeOf t).run P w=.ok n w:=by
 unfold dC at h;cases hi:P.info? t with
 |none=>simp[hi]at h
 |some i=>simp[hi]at h;simp[sizeOf,typeInfo,hi,h]
theorem J8{P:Program}{t:TypeId}{cs:List (AV K)}{vs:Array Value}{off:Nat}{v:AV K}(h:lu P t cs off=some v)(hr:bc D ρ S w cs vs.toList):
 ∃u,(part t vs off).run P w=.ok u w/\Rep D ρ S w v u:=by
 unfold lu at h;split at h
 ·rename_i n hg hn;split at h
  ·rename_i hle;simp only[ay]at h;subst h;have hr':=(hr.drop off).take n;refine⟨.agg ((vs.toList.drop off).take n).toArray,?_,.agg hr'.1 hr'.2⟩;simp only[part,Sem.run_bind,Eg hg,Result.andThen_ok,DJ,jL hn,Sem.run_pure];congr 2;apply Array.toList_inj.1;simp[List.extract]
  ·cases h
 ·rename_i n hg hn;obtain⟨x,hx,hrep⟩:=hr.get h;refine⟨x,?_,hrep⟩;have hx':vs[off]?=some x:=by simpa using hx
  simp only[part,Sem.run_bind,Eg hg,Result.andThen_ok,nj,oz,hx',Sem.run_pure]
 ·cases h
theorem Eh{l:List (AV K)}{X:Value}(h:Rep D ρ S w (.agg l) X):∃vs:Array Value,X=.agg vs/\bc D ρ S w l vs.toList:=by
 cases h with|agg hl hr=>exact⟨_,rfl,by simpa using⟨hl,hr⟩⟩
theorem Qq{P:Program}{d:Nat}{rec:TypeId->AV K->AV K->Option Bool}
 (hrec:∀t x y e X Y,rec t x y=some e->Rep D ρ S w x X->Rep D ρ S w y Y->(Op.equalIn d t X Y).run P w=.ok e w)
 {xs ys:List (AV K)} {vs us:Array Value} (hx:bc D ρ S w xs vs.toList) (hy:bc D ρ S w ys us.toList):
 ∀(fs:List Field)(e:Bool),zp P rec xs ys fs=some e->(Op.eqFields d vs us fs).run P w=.ok e w
 |[],e,h=>by simp only[zp,ay]at h;subst h;simp[Op.eqFields]
 |f::fs,e,h=>by
  unfold zp at h;split at h
  ·cases h
  ·rename_i hn;split at h
   ·rename_i a b ha hb;split at h
    ·rename_i p q hp hq;simp only[ay]at h;subst h;obtain⟨u,hu,IY⟩:=J8 (P:=P) ha hx;obtain⟨u',hu',afk⟩:=J8 (P:=P) hb hy;have h3:=hrec _ _ _ _ _ _ hp IY afk;have h4:=Qq hrec hx hy fs q hq;simp only[Op.eqFields,ne_eq,hn,not_false_eq_true,DJ,Sem.run_bind,hu,hu',h3,Result.andThen_ok];cases p
     ·simp
     ·simpa using h4
    ·cases h
   ·cases h
theorem afl{P:Program}{t:TypeId}{fs:Array Field}{d:Nat}{vs us:Array Value}(hu:P.underlying t=some (.struct fs))(hst:P.stoodInHeld t=false):
 (Op.equalIn (d+1) t (.agg vs) (.agg us)).run P w=(Op.eqFields d vs us fs.toList).run P w:=by
 have hf:P.fieldsOf t=fs:=by simp[Program.fieldsOf,hu]
 rw[run_equalIn_struct w d t vs us (by rw[hf];exact hu) hst,hf]
theorem J9{P:Program}(k:Nat):∀(n:Nat)(t:TypeId)(x y:AV K)(e:Bool)(X Y:Value),wW P n t x y=some e->Rep D ρ S w x X->Rep D ρ S w y Y->(Op.equalIn (n+k) t X Y).run P w=.ok e w
 |0,t,x,y,e,X,Y,h,hx,hy=>by simp[wW]at h
 |n+1,t,x,y,e,X,Y,h,hx,hy=>by
  rw[show n+1+k=(n+k)+1 by omega];unfold wW at h;split at h
  ·cases h
  ·rename_i heq;cases heq;split at h
   ·rename_i hk;subst hk;split at h
    ·rename_i hu;simp only[ay]at h;subst h;cases fQ hx;cases fQ hy;exact run_equalIn_int w _ _ _ _ _ _ hu
    ·cases h
   ·cases h
  ·rename_i heq;cases heq;split at h
   ·rename_i hu;simp only[ay]at h;subst h;cases kE hx;cases kE hy;exact run_equalIn_bool' w _ _ _ _ hu
   ·cases h
  ·rename_i heq;cases heq;split at h
   ·rename_i hu;simp only[ay]at h;subst h;cases iD hx;cases iD hy;rw[run_equalIn_string w _ _ _ _ hu,Qo,Qo]
   ·cases h
  ·rename_i heq;cases heq;obtain⟨vs,rfl,hvs⟩:=Eh hx;obtain⟨us,rfl,hus⟩:=Eh hy;split at h
   ·rename_i fs hu;split at h
    ·cases h
    ·rename_i hst;rw[afl hu (by simpa using hst)];exact Qq (fun t x y e X Y=>J9 k n t x y e X Y) hvs hus fs.toList e h
   ·cases h
  ·cases h
theorem Qr{P:Program}{t:TypeId}(h:I5 P t=true)(a:Option Addr):(Op.equal t (.pointer a) (.pointer none)).run P w=.ok a.isNone w:=by
 obtain⟨e,hu⟩:∃e,P.underlying t=some (.pointer e):=by
  unfold I5 at h;split at h
  ·rename_i e hu;exact⟨e,hu⟩
  ·cases h
 show(Op.equalIn (9999+1) t (.pointer a) (.pointer none)).run P w=_
 rw[Op.equalIn];cases a<;>simp[underlying,hu,program,Sem.run]
theorem Ei{P:Program}{op:BinOp}{t:TypeId}{ex ey:Operand}{a:Option Addr}{v:AV K}{c:Bool}
 (h:wX P op t a.isNone=some (v,c)):∃u,(do eqGuard op t ex ey (.pointer a) (.pointer none);binOp op t (.pointer a) (.pointer none):Sem Value).run P w=.ok u w/\Rep D ρ S w v u:=by
 unfold wX at h;have hg:(eqGuard op t ex ey (.pointer a) (.pointer none)).run P w=.ok () w:=by simp[eqGuard]
 rw[Sem.run_bind,hg,Result.andThen_ok];split at h
 ·rename_i hp;split at h
  ·simp only[ay,aR]at h;obtain⟨rfl,rfl⟩:=h;exact⟨_,by simp[binOp,Qr hp],.bool _⟩
  ·simp only[ay,aR]at h;obtain⟨rfl,rfl⟩:=h;exact⟨_,by simp[binOp,Qr hp],.bool _⟩
  ·cases h
 ·cases h
theorem afm{P:Program}{op:BinOp}{t:TypeId}{x y:AV K}{ex ey:Operand}{X Y:Value}{v:AV K}{c:Bool}
 (h:I6 P op t x y=some (v,c)) (hc:c=true) (hx:Rep D ρ S w x X) (hy:Rep D ρ S w y Y):
 ∃u,(do eqGuard op t ex ey X Y;binOp op t X Y:Sem Value).run P w=.ok u w/\Rep D ρ S w v u:=by
 unfold I6 at h;split at h
 ·rename_i k a k' b;obtain rfl:=fQ hx;obtain rfl:=fQ hy;rw[Sem.run_bind,J7 (.inl ⟨_,_,rfl⟩),Result.andThen_ok];split at h
  ·simp only[ay,aR]at h;obtain⟨rfl,rfl⟩:=h;have hb:¬b<0:=by simp at hc;omega
   exact⟨_,by simp[binOp,Op.shift,hb,Oz],.int _ _⟩
  ·simp only[ay,aR]at h;obtain⟨rfl,rfl⟩:=h;have hb:¬b<0:=by simp at hc;omega
   exact⟨_,by simp[binOp,Op.shift,hb,OA],.int _ _⟩
  ·split at h
   ·rename_i hk;subst hk;exact afj h hc
   ·cases h
 ·rename_i a b;obtain rfl:=kE hx;obtain rfl:=kE hy;rw[Sem.run_bind,J7 (.inr (.inl ⟨_,rfl⟩)),Result.andThen_ok];split at h
  ·rename_i hb;split at h
   ·simp only[ay,aR]at h;obtain⟨rfl,rfl⟩:=h;exact⟨_,by simp[binOp,Qp hb],.bool _⟩
   ·simp only[ay,aR]at h;obtain⟨rfl,rfl⟩:=h;exact⟨_,by simp[binOp,Qp hb],.bool _⟩
   ·cases h
  ·cases h
 ·rename_i a b;obtain rfl:=iD hx;obtain rfl:=iD hy;rw[Sem.run_bind,J7 (.inr (.inr ⟨_,rfl⟩)),Result.andThen_ok];exact afi h hc
 ·rename_i a b;obtain⟨vs,rfl,hvs⟩:=Eh hx;obtain⟨us,rfl,hus⟩:=Eh hy;split at h
  ·split at h
   ·cases h
   ·rename_i hg;simp only[fu,aR]at h;obtain⟨e,he,rfl,rfl⟩:=h;have:=J9 9994 6 t _ _ e _ _ he hx hy;refine⟨.bool e,?_,.bool _⟩;rw[Sem.run_bind,run_eqGuard_agg w _ t ex ey vs us (by simpa using hg),Result.andThen_ok,run_eql_struct,this];rfl
  ·split at h
   ·cases h
   ·rename_i hg;simp only[fu,aR]at h;obtain⟨e,he,rfl,rfl⟩:=h;have:=J9 9994 6 t _ _ e _ _ he hx hy;refine⟨.bool (!e),?_,.bool _⟩;rw[Sem.run_bind,run_eqGuard_agg w _ t ex ey vs us (by simpa using hg),Result.andThen_ok,run_neq_struct,this];rfl
  ·cases h
 ·cases hx;cases hy;exact Ei (a:=none) h
 ·cases hx;cases hy;exact Ei (a:=some _) h
 ·cases hx;cases hy;exact Ei (a:=some _) h
 ·cases hx;cases hy;exact Ei (a:=some _) h
 ·cases h
theorem afn{P:Program}{op:UnOp}{x:AV K}{X:Value}{v:AV K}{c:Bool}(h:I4 op x=some (v,c))(hx:Rep D ρ S w x X):
 ∃u,(Op.unary op X).run P w=.ok u w/\Rep D ρ S w v u:=by
 unfold I4 at h;split at h
 ·obtain rfl:=kE hx;split at h
  ·simp only[ay,aR]at h;obtain⟨rfl,rfl⟩:=h;exact⟨_,by simp[Op.unary],.bool _⟩
  ·cases h
 ·obtain rfl:=fQ hx;split at h
  ·simp only[ay,aR]at h;obtain⟨rfl,rfl⟩:=h;exact⟨_,by simp[Op.unary,Op.intArith],.int _ _⟩
  ·simp only[ay,aR]at h;obtain⟨rfl,rfl⟩:=h;exact⟨_,by simp[Op.unary,Op.intBits,uG],.int _ _⟩
  ·cases h
 ·cases h
mutual
theorem rE:∀(v:Value)(x:AV K),lX v=some x->Rep D ρ S w x v
 |.bool b,x,h=>by simp[lX]at h;subst h;exact .bool b
 |.int k n,x,h=>by simp[lX]at h;subst h;exact .int k n
 |.string s,x,h=>by simp[lX]at h;subst h;have:=Rep.str (D:=D) (ρ:=ρ) (S:=S) (w:=w) s.data.toList;simpa using this
 |.pointer none,x,h=>by simp[lX]at h;subst h;exact .dA
 |.slice none 0 0,x,h=>by simp[lX]at h;subst h;exact .dn
 |.agg ⟨cs⟩,x,h=>by
   simp only[lX,fu]at h;obtain⟨l,hl,rfl⟩:=h;have:=Qs cs l hl;exact .agg this.1 this.2
 |.pointer (some _),x,h|.slice (some _) _ _,x,h|.slice none (_+1) _,x,h|.slice none 0 (_+1),x,h|.float _ _,x,h|.complex _ _ _,x,h|.map _,x,h|.chan _,x,h|.func _ _ _,x,h
 |.nilFunc,x,h|.iface _ _,x,h|.nilIface,x,h|.tuple _,x,h=>by simp[lX]at h
theorem Qs:∀(vs:List Value)(l:List (AV K)),zn vs=some l->bc D ρ S w l vs
 |[],l,h=>by simp[zn]at h;subst h;exact .nil
 |v::r,l,h=>by
  simp only[zn]at h;split at h
  ·rename_i x m hx hm;simp at h;subst h;exact .cons (rE v x hx) (Qs r m hm)
  ·cases h
end
@[simp] theorem add_plain (b k i:Nat):(⟨b,k,none⟩:Addr).add i=⟨b,k+i,none⟩:=by
  unfold Addr.add;split
  ·rename_i h;subst h;rfl
  ·rfl
theorem Qu{P:Program}{b k:Nat}:∀(vs:List Value)(i:Nat)(acc:Array Value),iF w b (k+i) vs->
 (loadCellsFrom ⟨b,k,none⟩ i vs.length acc).run P w=.ok (acc++vs.toArray) w
 |[],i,acc,_=>by simp[loadCellsFrom]
 |v::r,i,acc,h=>by
  have h0:w.cell? ⟨b,k+i,none⟩=some v:=by simpa using h 0 v rfl
  have ih:=Qu (P:=P) (b:=b) (k:=k) r (i+1) (acc.push v) (fun j x hx=>by have:=h (j+1) x (by simpa using hx);rw[show k+(i+1)+j=k+i+(j+1) by omega];exact this);simp only[aU,loadCellsFrom,Sem.run_bind,run_load,add_plain,h0];rw[Result.andThen_ok,ih];simp
theorem Dw{P:Program}{b k:Nat}{vs:List Value}(h:iF w b k vs):(loadCells ⟨b,k,none⟩ vs.length).run P w=.ok vs.toArray w:=by
 have:=Qu (P:=P) vs 0 #[] (k:=k) (by simpa using h);simpa [loadCells]using this
theorem iF.cD{b k:Nat}{vs:List Value}(h:iF w b k vs)(off n:Nat):iF w b (k+off) ((vs.drop off).take n):=fun j v hv=>by
 simp only[dE]at hv;split at hv
 ·rw[ql];exact h (off+j) v (by simpa using hv)
 ·simp at hv
theorem wR{P:Program}{t:TypeId}{cs:List (AV K)}{vs:List Value}{b o off:Nat}{v:AV K}(h:lu P t cs off=some v)(hc:iF w b o vs)(hr:bc D ρ S w cs vs):
 ∃u,(loadVar t ⟨b,o+off,none⟩).run P w=.ok u w/\Rep D ρ S w v u:=by
 unfold lu at h;split at h
 ·rename_i n hg hn;split at h
  ·rename_i hle;simp only[ay]at h;subst h;have hr':=(hr.drop off).take n;have hlen:((vs.drop off).take n).length=n:=by simp;rw[<-hr.1];omega
   have:=Dw (P:=P) (hc.cD off n);rw[hlen]at this;refine⟨.agg ((vs.drop off).take n).toArray,?_,.agg hr'.1 hr'.2⟩;simp[loadVar,Eg hg,jL hn,this]
  ·cases h
 ·rename_i n hg hn;obtain⟨x,hx,hrep⟩:=hr.get h;refine⟨x,?_,hrep⟩;have:=hc off x hx;simp[loadVar,Eg hg,this]
 ·cases h
theorem rF{b:Nat}{vs:Array Value}{T:TypeId}{fr:Nat×Nat}(h:w.heap[b]?=some (.cells vs T fr))(k n:Nat):iF w b k (cD vs k n):=fun j v hv=>by
 simp only[cD,dE]at hv;split at hv
 ·simp only[ej]at hv;simp[World.cell?,h];simpa using hv
 ·simp at hv
theorem afo(vs:Array Value):cD vs 0 vs.size=vs.toList:=by simp only[cD,ll];rw[wm (by simp)]
mutual
theorem Ix{S':Nat->Prop}{w':World}:∀(x:AV K)(v:Value),iM x=false->Rep D ρ S w x v->Rep D ρ S' w' x v
 |.any,v,_,h=>.any _
 |.int _ _,v,_,h=>by rw[fQ h];exact .int _ _
 |.bool _,v,_,h=>by rw[kE h];exact .bool _
 |.str _,v,_,h=>by rw[iD h];exact .str _
 |.dA,v,_,h=>by cases h;exact .dA
 |.dn,v,_,h=>by cases h;exact .dn
 |.ptr _ _,v,_,h=>by cases h with|ptr hp=>exact .ptr hp
 |.np _,v,_,h=>by
   cases h with
   |kF=>exact .kF
   |np hp=>exact .np hp
 |.sl _,v,_,h=>by cases h with|sl hp=>exact .sl hp
 |.ep _ _ _ _,v,_,h=>by cases h with|ep hp hi=>exact .ep hp hi
 |.vw _ _ _ _,v,_,h=>by cases h with|vw hp h1 h2 ha=>exact .vw hp h1 h2 ha
 |.opt _ _ _,v,_,h=>by cases h
 |.fn f l,v,hr,h=>by
   cases h with
   |fn hl hh=>
    have:=y8 (S':=S') (w':=w') l _ (by simpa [iM]using hr) ⟨hl,hh⟩;exact .fn this.1 this.2
 |.agg l,v,hr,h=>by
   cases h with
   |agg hl hh=>
    have:=y8 (S':=S') (w':=w') l _ (by simpa [iM]using hr) ⟨hl,hh⟩;exact .agg this.1 this.2
 |.bD l,v,hr,h=>by
   cases h with
   |bD hl hh=>
    have:=y8 (S':=S') (w':=w') l _ (by simpa [iM]using hr) ⟨hl,hh⟩;exact .bD this.1 this.2
 |.an _ _,v,hr,_|.rp _ _ _,v,hr,_=>by simp[iM]at hr
theorem y8{S':Nat->Prop}{w':World}:∀(l:List (AV K))(vs:List Value),eN l=false->bc D ρ S w l vs->bc D ρ S' w' l vs
 |[],vs,_,h=>by rw[h.nk];exact .nil
 |x::r,vs,hr,h=>by
  simp only[eN,ox]at hr;obtain⟨u,t,rfl,h1,h2⟩:=h.gB;exact .cons (Ix x u hr.1 h1) (y8 r t hr.2 h2)
end
theorem Qv{P:Program}{H:List (Ob K)}(hD:bQ D)(hs:aT D ρ S w H){t:TypeId}{p v:AV K}{X:Value}(h:DN P D H t p=some v)(hp:Rep D ρ S w p X):
 ∃u,(Instr.loadAt t X).run P w=.ok u w/\Rep D ρ S w v u:=by
 unfold DN at h;split at h
 ·rename_i hh off;split at h
  ·rename_i cs hob;obtain⟨b,rfl,hb⟩:=rG hp;obtain⟨b',vs,T,e,hblk,Ee,-⟩:=hs.ob _ _ _ hob hb;simp only[Value.pointer.injEq,ay,Addr.mk.injEq]at e;obtain⟨rfl,-,-⟩:=e;obtain⟨u,hu,hr⟩:=wR (o:=0) (b:=b) h (by have:=rF hblk 0 vs.size;rwa [afo]at this) Ee;exact⟨u,by simpa [Instr.loadAt,Instr.sureAddr]using hu,hr⟩
  ·cases h
 ·rename_i c x off;obtain⟨b,o,vs,rfl,hl,hc,hr⟩:=Qn hp;obtain⟨u,hu,hr⟩:=wR (o:=o) (b:=b) h hc ⟨hl.symm,hr⟩;exact⟨u,by simpa [Instr.loadAt,Instr.sureAddr]using hu,hr⟩
 ·rename_i hh st i off;split at h
  ·rename_i c l hob;split at h
   ·rename_i hst;subst hst;obtain⟨b,o,n,cp,rfl,hb,hi⟩:=oq hp;rcases rH hs hob hb with⟨e,-⟩|⟨b',o',cap,vs,T,fr,e,hblk,⟨hcap,ef⟩,hsz,hfr,hall⟩
    ·cases e
    ·simp only[Value.slice.injEq,ay,Addr.mk.injEq]at e;obtain⟨⟨rfl,rfl,-⟩,rfl,rfl⟩:=e;have hx:=hall i _ (getD_some (K.zero c) hi);obtain⟨u,hu,hr⟩:=wR (o:=o+i*K.sz c) (b:=b) h (rF hblk _ _) hx;exact⟨u,by simpa [Instr.loadAt,Instr.sureAddr]using hu,hr⟩
   ·cases h
  ·rename_i c l hob;split at h
   ·rename_i hst;subst hst;split at h
    ·rename_i v' htk;split at h
     ·cases h
     ·rename_i hnr;simp only[ay]at h;subst h;obtain⟨b,o,n,cp,rfl,hb,hi⟩:=oq hp;have hT:Tree D w c l (.slice (some ⟨b,o,none⟩) n cp):=hs.ob _ _ _ hob hb;have hR:Rep D ρ (fun k=>S k\/dz D w c l (.slice (some ⟨b,o,none⟩) n cp) k) w (.an c l) (.slice (some ⟨b,o,none⟩) n cp):=hT.rep fun k hk=>.inr hk
      cases hR with
      |fj a cap=>omega
      |an val hS hcap hl hca hr=>
       have hg:=getD_some (K.zero c) hi;obtain⟨u,hu,hr'⟩:=wR (o:=o+i*K.sz c) (b:=b) htk (hca i hi) ⟨(hl i _ hg).symm,hr i _ hg⟩;exact⟨u,by simpa [Instr.loadAt,Instr.sureAddr]using hu,Ix v' u (by simpa using hnr) hr'⟩
    ·cases h
   ·cases h
  ·cases h
 ·cases h
theorem afp{P:Program}{H:List (Ob K)}(hD:bQ D)(hs:aT D ρ S w H){t:TypeId}{p v:AV K}{X:Value}(h:I7 P H t p=some (v,true))(hp:Rep D ρ S w p X):
 ∃u,(Instr.loadAt t X).run P w=.ok u w/\Rep D ρ S w v u:=by unfold I7 at h;cases h
theorem fc{P:Program}{t:TypeId}{d:TypeDesc}(h:P.underlying t=some d):(underlying t).run P w=.ok d w:=by simp[underlying,h]
theorem afq{P:Program}{s:TypeId}{f:Nat}{x v:AV K}{X:Value}(h:I8 P s f x=some v)(hx:Rep D ρ S w x X):
 ∃u,(Instr.fieldAt s X f).run P w=.ok u w/\Rep D ρ S w v u:=by
 unfold I8 at h;split at h
 ·rename_i fd hf;unfold DL at hf;split at hf
  ·rename_i fs hu;split at h
   ·rename_i n hn;have key:∀a:Addr,a.spot=none->(Instr.fieldAt s (.pointer (some a)) f).run P w=.ok (.pointer (some (a.add fd.offset))) w:=fun a ha=>by
     simp[Instr.fieldAt,fc hu,hf,Instr.sureAddr,fieldPlace,jL hn]
    split at h
    ·simp only[ay]at h;subst h;obtain⟨b,rfl,hb⟩:=rG hx;exact⟨_,key _ rfl,by rw[add_plain];exact .ptr hb⟩
    ·simp only[ay]at h;subst h;cases hx with
     |rp vs hS hl hc hr=>exact⟨_,key _ rfl,by rw[add_plain,ql];exact .rp vs hS hl hc hr⟩
    ·simp only[ay]at h;subst h;obtain⟨b,o,n,cp,rfl,hb,hi⟩:=oq hx;exact⟨_,key _ rfl,by rw[add_plain,ql];exact .ep hb hi⟩
    ·cases h
   ·cases h
  ·cases hf
 ·cases h
theorem zQ{n:Int}{len:Nat}(h:inB n len=true):0<=n/\n<len/\n.toNat<len:=by
 simp[inB]at h;omega
theorem afr{P:Program}{H:List (Ob K)}(hD:bQ D)(hs:aT D ρ S w H){t:TypeId}{x i v:AV K}{c:Bool}{X I:Value}(h:I9 P H t x i=some (v,c))(hc:c=true)
 (hx:Rep D ρ S w x X) (hi:Rep D ρ S w i I):∃u,(Instr.indexAt t X I).run P w=.ok u w/\Rep D ρ S w v u:=by
 unfold I9 at h;split at h
 ·rename_i e k n he;obtain rfl:=fQ hi;unfold elemOf? at he;split at he
  ·rename_i e' hu;simp only[ay]at he;subst he;have key:∀(a:Addr)(len cap sz:Nat),dC P e'=some sz->inB n len=true->(Instr.indexAt t (.slice (some a) len cap) (.int k n)).run P w=.ok (.pointer (some (a.add (n.toNat*sz)))) w:=fun a len cap sz hsz hb=>by
    obtain⟨h1,h2,-⟩:=zQ hb;simp[Instr.indexAt,asIntOf,fc hu,jL hsz,h1,h2]
   split at h
   ·rename_i cc l;split at h
    ·rename_i hsz;simp only[ay,aR]at h;obtain⟨rfl,rfl⟩:=h;obtain⟨-,-,hlt⟩:=zQ hc;cases hx with
     |fj a cap=>simp at hlt
     |an val hS hcap hl hca hr=>
      have hg:=getD_some (K.zero cc) hlt;exact⟨_,key _ _ _ _ hsz hc,by rw[add_plain];exact .rp (off:=0) (val n.toNat) hS (hl _ _ hg) (hca _ hlt) (hr _ _ hg)⟩
    ·cases h
   ·rename_i hh;split at h
    ·rename_i cc l hob;split at h
     ·rename_i hsz;simp only[ay,aR]at h;obtain⟨rfl,rfl⟩:=h;obtain⟨-,-,hlt⟩:=zQ hc;obtain⟨hb,-⟩:=jJ hx;rcases rH hs hob hb with⟨rfl,rfl⟩|⟨b,o,cap,vs,T,fr,rfl,hblk,⟨hcap,ef⟩,hsz',hfr,hall⟩
      ·simp at hlt
      ·exact⟨_,key _ _ _ _ hsz hc,by rw[add_plain];exact .ep (off:=0) hb hlt⟩
     ·cases h
    ·rename_i cc l hob;split at h
     ·rename_i hsz;simp only[ay,aR]at h;obtain⟨rfl,rfl⟩:=h;obtain⟨-,-,hlt⟩:=zQ hc;obtain⟨hb,-⟩:=jJ hx;have hT:Tree D w cc l X:=hs.ob _ _ _ hob hb;cases hT with
      |nil=>simp at hlt
      |mk=>exact⟨_,key _ _ _ _ hsz hc,by rw[add_plain];exact .ep (off:=0) hb hlt⟩
     ·cases h
    ·cases h
   ·cases h
  ·cases he
 ·cases h
theorem se{lo hi:Int}{len:Nat}(h:bS lo hi len=true):0<=lo/\lo<=hi/\hi<=len:=by
 simp[bS]at h;omega
inductive qy (D:bF K) (ρ:List Value) (S:Nat->Prop) (w:World):Option (AV K)->Option Value->Prop
 |none:qy D ρ S w none none
 |some {x:AV K} {X:Value} (h:Rep D ρ S w x X):qy D ρ S w (some x) (some X)
theorem Ej{P:Program}{k:IntKind}{n:Int}{y:Nat}{code:BoundsCode}(h:0<=n)(h':n<=y):(Instr.sliceBound (.int k n) y code).run P w=.ok n.toNat w:=by
 simp[Instr.sliceBound,asIntOf,h,h']
theorem Ko{d:Int}{x:AV K}{n:Int}{X:Value}(h:jO d (some x)=some n)(hx:Rep D ρ S w x X):∃k,X=.int k n:=by
 cases x<;>simp[jO]at h;subst h;exact⟨_,fQ hx⟩
theorem nF{P:Program}{isS:Bool}{len cap:Nat}{lo hi:Option (AV K)}{LO HI:Option Value}{l h:Int}
 (hl:jO 0 lo=some l) (hh:jO len hi=some h) (hlo:qy D ρ S w lo LO) (hhi:qy D ρ S w hi HI) (h1:0<=l) (h2:l<=h) (h3:h<=len) (hcap:len<=cap):
 (Instr.sliceBounds isS len cap LO HI none).run P w=.ok (l.toNat,h.toNat,cap) w:=by
 have e0:(l:Int)<=(h.toNat:Nat):=by omega
 have e1:h<=(cap:Nat):=by omega
 cases hlo with
 |none=>
  simp[jO]at hl;subst hl;cases hhi with
  |none=>simp[jO]at hh;subst hh;simp[Instr.sliceBounds]
  |some hx=>
   obtain⟨k,rfl⟩:=Ko hh hx;simp[Instr.sliceBounds,Ej (by omega:0<=h) e1]
 |some hy=>
  obtain⟨k',rfl⟩:=Ko hl hy;cases hhi with
  |none=>
   simp[jO]at hh;subst hh;have:=Ej (P:=P) (w:=w) (k:=k') (code:=.sliceB) h1 (by omega:l<=(len:Nat));simp[Instr.sliceBounds,this]
  |some hx=>
   obtain⟨k,rfl⟩:=Ko hh hx;simp[Instr.sliceBounds,Ej (by omega:0<=h) e1,Ej h1 e0]
theorem P5(s:List UInt8)(a b:Nat):(ByteArray.mk s.toArray).extract a b=⟨((s.take b).drop a).toArray⟩:=by
 rw[Lib.extract_eq];simp[List.drop_take]
theorem N1{c:K.U}{l:List (K.El c)}{a a':Option Addr}{n cp lo hi c':Nat}(h:Rep D ρ S w (.an c l) (.slice a n cp))(h1:lo<=hi)(h2:hi<=n)(ha:hi-lo=0\/∃b o,a=some ⟨b,o,none⟩/\a'=some ⟨b,o+lo*K.sz c,none⟩/\hi-lo<=c'):
 Rep D ρ S w (.an c ((l.take hi).drop lo)) (.slice a' (hi-lo) c'):=by
 rcases ha with h0|⟨b,o,rfl,rfl,hc⟩
 ·have:(l.take hi).drop lo=[]:=dS (by simp;omega);rw[this,h0];exact .fj _ _
 ·by_cases h0:hi-lo=0
  ·have:(l.take hi).drop lo=[]:=dS (by simp;omega);rw[this,h0];exact .fj _ _
  ·cases h with
   |fj=>omega
   |an val hS hcap hl' hca hr=>
    have hlen:((l.take hi).drop lo).length=hi-lo:=by simp;omega
    have hget:∀i x,((l.take hi).drop lo)[i]?=some x->l[lo+i]?=some x:=fun i x hi=>by
     simp only[ej,dE]at hi;split at hi
     ·exact hi
     ·simp at hi
    rw[<-hlen];exact .an (fun i=>val (lo+i)) hS (by rw[hlen];omega) (fun i x hi=>hl' _ _ (hget i x hi))
     (fun i hi=>by
       have:=hca (lo+i) (by rw[hlen]at hi;omega)
       rwa [kJ,<-ql]at this)
     (fun i x hi=>hr _ _ (hget i x hi))
theorem afs{P:Program}{H:List (Ob K)}(hs:aT D ρ S w H){t:TypeId}{x v:AV K}{lo hi:Option (AV K)}{c:Bool}{X:Value}{LO HI:Option Value}
 (h:Jb P H t x lo hi=some (v,c)) (hc:c=true) (hx:Rep D ρ S w x X) (hlo:qy D ρ S w lo LO) (hhi:qy D ρ S w hi HI):
 ∃u,(Instr.sliceAt t X LO HI none).run P w=.ok u w/\Rep D ρ S w v u:=by unfold Jb at h;cases h
theorem aft{P:Program}{H:List (Ob K)}(hD:bQ D)(hs:aT D ρ S w H){t:TypeId}{x v:AV K}{lo hi:Option (AV K)}{c:Bool}{X:Value}{LO HI:Option Value}
 (h:Ja P t x lo hi=some (v,c)) (hc:c=true) (hx:Rep D ρ S w x X) (hlo:qy D ρ S w lo LO) (hhi:qy D ρ S w hi HI):
 ∃u,(Instr.sliceAt t X LO HI none).run P w=.ok u w/\Rep D ρ S w v u:=by
 unfold Ja at h;split at h
 ·rename_i s hu;obtain rfl:=iD hx;split at h
  ·rename_i l hh' hl hh;simp only[ay,aR]at h;obtain⟨rfl,rfl⟩:=h;obtain⟨h1,h2,h3⟩:=se hc;refine⟨_,?_,.str _⟩;have:=nF (P:=P) (isS:=false) (len:=s.length) (cap:=s.length) hl hh hlo hhi h1 h2 h3 (cw _);simp[Instr.sliceAt,Instr.slice,fc hu,wA,this,P5]
  ·cases h
 ·rename_i e cc s hu;split at h
  ·rename_i hsz;split at h
   ·rename_i l hh' hl hh;simp only[ay,aR]at h;obtain⟨rfl,rfl⟩:=h;obtain⟨h1,h2,h3⟩:=se hc;have hlen:((s.take hh'.toNat).drop l.toNat).length=hh'.toNat-l.toNat:=by simp;omega
    cases hx with
    |fj a cap=>
     have:=nF (P:=P) (isS:=true) (len:=0) (cap:=cap) hl hh hlo hhi h1 h2 h3 (jr _);refine⟨_,by simp[Instr.sliceAt,Instr.slice,fc hu,jL hsz,this];rfl,?_⟩;have:hh'.toNat-l.toNat=0:=by simp at h3;omega
     simp only[List.take_nil,List.drop_nil];rw[this];exact .fj _ _
    |an val hS hcap hl' hca hr=>
     rename_i b o cap;have hb:=nF (P:=P) (isS:=true) (len:=s.length) (cap:=cap) hl hh hlo hhi h1 h2 h3 hcap;refine⟨.slice (if cap=l.toNat then some ⟨b,o,none⟩else some ⟨b,o+l.toNat*K.sz cc,none⟩) (hh'.toNat-l.toNat) (cap-l.toNat),?_,?_⟩
     ·simp[Instr.sliceAt,Instr.slice,fc hu,jL hsz,hb]
     ·rw[<-hlen];by_cases h0:(s.take hh'.toNat).drop l.toNat=[]
      ·rw[h0];exact .fj _ _
      ·have hne:0<hh'.toNat-l.toNat:=by rw[<-hlen];exact List.length_pos_iff.2 h0
       rw[gq (by omega)];have hget:∀i x,((s.take hh'.toNat).drop l.toNat)[i]?=some x->s[l.toNat+i]?=some x:=fun i x hi=>by
        simp only[ej,dE]at hi;split at hi
        ·exact hi
        ·simp at hi
       exact .an (fun i=>val (l.toNat+i)) hS (by rw[hlen];omega) (fun i x hi=>hl' _ _ (hget i x hi))
        (fun i hi=>by
          have:=hca (l.toNat+i) (by rw[hlen]at hi;omega)
          rwa [kJ,<-ql]at this)
        (fun i x hi=>hr _ _ (hget i x hi))
   ·cases h
  ·cases h
 ·cases h
def SliceAt(D:bF K)(ρ:List Value)(S:Nat->Prop)(w:World)(c:K.U)(l:List (K.El c))(X:Value):Prop:=
 ∃a cap,X=.slice a l.length cap/\(l≠[]->∃b o,a=some ⟨b,o,none⟩/\∀i x,l[i]?=some x->∃vs,vs.length=K.sz c/\iF w b (o+i*K.sz c) vs/\bc D ρ S w (D.cells c x) vs)
theorem Qw(hD:bQ D){c:K.U}{l:List (K.El c)}{X:Value}(h:Rep D ρ S w (.an c l) X):SliceAt D ρ S w c l X:=by
 cases h with
 |fj a cap=>exact⟨a,cap,rfl,fun h=>absurd rfl h⟩
 |an val hS hcap hl hc hr=>
  exact⟨_,_,rfl,fun _=>⟨_,_,rfl,fun i x hx=>⟨val i,by rw[hl i x hx,hD.len],hc i (bg.1 hx).1,(hl i x hx).symm,hr i x hx⟩⟩⟩
theorem Qx(hD:bQ D){H:List (Ob K)}(hs:aT D ρ S w H){h:Nat}{c:K.U}{l:List (K.El c)}{X:Value}(ho:H[h]?=some (.arr c l))(hp:ρ[h]?=some X):SliceAt D ρ S w c l X:=by
 rcases rH hs ho hp with⟨rfl,rfl⟩|⟨b,o,cap,vs,T,fr,rfl,hblk,⟨hcap,ef⟩,hsz,hfr,hall⟩
 ·exact⟨none,0,rfl,fun h=>absurd rfl h⟩
 ·refine⟨_,_,rfl,fun _=>⟨b,o,rfl,fun i x hx=>⟨cD vs (o+i*K.sz c) (K.sz c),?_,rF hblk _ _,hall i x hx⟩⟩⟩;rw[<-(hall i x hx).1,hD.len]
theorem P6(hD:bQ D){H:List (Ob K)}(hs:aT D ρ S w H){c:K.U}{x:AV K}{l:List (K.El c)}{X:Value}(h:elems H c x=some l)(hx:Rep D ρ S w x X):SliceAt D ρ S w c l X:=by
 unfold elems at h;split at h
 ·simp only[ay]at h;subst h;cases hx;exact⟨none,0,rfl,fun h=>absurd rfl h⟩
 ·rename_i c' l';cases hd:K.jI c' c with
  |isFalse hn=>simp[hd]at h
  |isTrue he=>subst he;simp[hd]at h;subst h;exact Qw hD hx
 ·rename_i hh;split at h
  ·rename_i c' l' hob;cases hd:K.jI c' c with
   |isFalse hn=>simp[hd]at h
   |isTrue he=>subst he;simp[hd]at h;subst h;exact Qx hD hs hob (jJ hx).1
  ·cases h
 ·cases h
theorem Qy{P:Program}{t ty e:TypeId}(ht:P.underlying t=some (.slice e)){c:K.U}{l:List (K.El c)}{X:Value}(h:SliceAt D ρ S w c l X):
 (Builtin.len_ #[t] ty #[X]).run P w=.ok (.int .i64 (l.length:Int)) w:=by
 obtain⟨a,cap,rfl,-⟩:=h;simp[Builtin.len_,fc ht,goInt]
theorem bytes_at(hD:bQ D){c:K.U}{f:K.El c->UInt8}{g:UInt8->K.El c}(hb:D.byte c=some (f,g)){l:List (K.El c)}{a:Option Addr}{n cap:Nat}(h:SliceAt D ρ S w c l (.slice a n cap))(hne:l≠[]):
 n=l.length/\∃b o,a=some ⟨b,o,none⟩/\∀i,i<l.length->w.cell? ⟨b,o+i,none⟩=some (.int .u8 (((l.map f).map fun b=>(b.toNat:Int)).getD i 0)):=by
 obtain⟨a',cap',e,h⟩:=h;simp only[Value.slice.injEq]at e;obtain⟨rfl,rfl,rfl⟩:=e;obtain⟨b,o,rfl,h2⟩:=h hne;refine⟨rfl,b,o,rfl,fun i hi=>?_⟩;obtain⟨vs,hlen,hc,hr⟩:=h2 i l[i] (bB hi);have h1:K.sz c=1:=by rw[<-hD.len c l[i],(hD.byte c f g hb).1];rfl
 rw[h1,lA]at hc;rw[(hD.byte c f g hb).1]at hr;obtain⟨x,r,rfl,hx,-⟩:=hr.gB;have:=hc 0 x rfl;rw[Nat.add_zero]at this;rw[this,fQ hx];simp[List.getD,hi]
theorem afu{P:Program}(hD:bQ D){src dst e:TypeId}(h1:P.underlying src=some (.slice e))(h2:P.underlying dst=some .string)(h3:P.underlying e=some (.int .u8))
 {c:K.U} {f:K.El c->UInt8} {g:UInt8->K.El c} (hb:D.byte c=some (f,g)) {l:List (K.El c)} {X:Value} (h:SliceAt D ρ S w c l X):
 (convert src dst X).run P w=.ok (.string ⟨(l.map f).toArray⟩) w:=by
 obtain⟨a,cap,rfl,h'⟩:=h;by_cases hne:l=[]
 ·subst hne;cases a with
  |none=>rw[Go.run_convert_bytes_nil w src e h1 h3 _ _ dst h2];rfl
  |some a=>rw[run_convert_bytes_string w src dst e _ _ _ h1 h3 h2];simp[Conv.bytesToString,loadCells,loadCellsFrom,ByteArray.empty,ByteArray.emptyWithCapacity];rfl
 ·obtain⟨-,b,o,rfl,hc⟩:=bytes_at hD hb ⟨a,cap,rfl,h'⟩ hne;rw[run_convert_bytes_arg w src e h1 h3 b o l.length cap ((l.map f).map fun b=>(b.toNat:Int)) (by simp) hc dst h2];congr 2;apply ByteArray.ext;simp[strOfNums,List.map_map]
theorem Qz{P:Program}{k:IntKind}{a b:Int}{ats:Array TypeId}{ty:TypeId}:
 (Builtin.min_ ats ty #[.int k a,.int k b]).run P w=.ok (.int k (cond (decide (b<a)) b a)) w/\(Builtin.max_ ats ty #[.int k a,.int k b]).run P w=.ok (.int k (cond (decide (a<b)) b a)) w:=by
 constructor
 ·simp[Builtin.min_,Builtin.min2,List.foldlM]
 ·simp[Builtin.max_,Builtin.max2,List.foldlM]
theorem QA{ev:Operand->AV K}{ρe:Operand->Value}(h:∀x,Rep D ρ S w (ev x) (ρe x))(l:List Operand):bc D ρ S w (l.map ev) (l.map ρe):=
 ⟨by simp,fun i v x hv hx=>by
   simp only[fU,fu]at hv hx;obtain⟨o,ho,rfl⟩:=hv;obtain⟨o',ho',rfl⟩:=hx;rw[ho]at ho';simp at ho';subst ho';exact h o⟩
theorem Ek{ev:Operand->AV K}{ρe:Operand->Value}(h:∀x,Rep D ρ S w (ev x) (ρe x))(o:Option Operand):qy D ρ S w (o.map ev) (o.map ρe):=by
 cases o with
 |none=>exact .none
 |some x=>exact .some (h x)
theorem kO{α:Type}{P:Program}{x:Sem α}{f:α->Next}{a:α}(h:x.run P w=.ok a w):(do pure (f (<-x)):Sem Next).run P w=.ok (f a) w:=by simp[h]
end Go.V
namespace Go.V
open Go
variable {K :dh}{ρ:List Value}{S:Nat->Prop}{w:World}
theorem Oq{cx:Cx K}{H:List (Ob K)}(hD:bQ cx.D)(hs:aT cx.D ρ S w H){ev:Operand->AV K}{ρe:Operand->Value}(hev:∀x,Rep cx.D ρ S w (ev x) (ρe x)){o:Oper}{v:AV K}{c:Bool}
 (h:uI cx ev H o.op=some (v,c)) (hc:c=true):∃u,(execOp ρe o).run cx.P w=.ok (.value u) w/\Rep cx.D ρ S w v u:=by
 unfold uI at h;unfold execOp;split at h
 all_goals first|(cases h;done)|(rename_i hop;rw[hop];dsimp only)
 ·
  simp only[ay,aR]at h;obtain⟨rfl,rfl⟩:=h;exact⟨_,rfl,hev _⟩
 ·simp only[ay,aR]at h;obtain⟨rfl,rfl⟩:=h;exact⟨_,rfl,hev _⟩
 ·
  obtain⟨u,hu,hr⟩:=afm h hc (hev _) (hev _);exact⟨u,kO (f:=.value) hu,hr⟩
 ·
  obtain⟨u,hu,hr⟩:=afn (P:=cx.P) h (hev _);exact⟨u,kO (f:=.value) hu,hr⟩
 ·
  rename_i src dst x;have hx:=hev x;split at h
  ·rename_i d k k' n hsrc hd he;rw[he]at hx;simp only[ay,aR]at h;obtain⟨rfl,rfl⟩:=h;rw[fQ hx];refine⟨_,kO (f:=.value) (a:=.int k (k.wrap n)) ?_,.int _ _⟩;simp[convert,fc hd,fc hsrc,Conv.intToInt]
  ·rename_i d s hsrc hd he;rw[he]at hx;simp only[ay,aR]at h;obtain⟨rfl,rfl⟩:=h;rw[iD hx];refine⟨_,kO (f:=.value) (a:=.string ⟨s.toArray⟩) ?_,.str _⟩;simp[convert,fc hd,fc hsrc]
  ·rename_i e h1 h2 hns;split at h
   ·rename_i cc h3 hty;split at h
    ·rename_i f g l hb hl;simp only[ay,aR]at h;obtain⟨rfl,rfl⟩:=h;exact⟨_,kO (f:=.value) (afu hD h1 h2 h3 hb (P6 hD hs hl hx)),.str _⟩
    ·cases h
   ·cases h
  ·cases h
 ·
  rename_i t i;have hx:=hev t;split at h
  ·rename_i l he;rw[he]at hx;simp only[fu,aR]at h;obtain⟨y,hy,rfl,rfl⟩:=h;generalize ρe t=X at hx⊢;cases hx with
   |bD hl hr=>
    rename_i vs;have hi:i<vs.length:=by rw[<-hl];exact(bg.1 hy).1
    refine⟨vs[i],kO (f:=.value) ?_,hr i y _ hy (bB hi)⟩;simp[Instr.extract,hi]
  ·cases h
 ·
  rename_i s x f;simp only[fu,aR]at h;obtain⟨y,hy,rfl,rfl⟩:=h;obtain⟨u,hu,hr⟩:=afq hy (hev x);exact⟨u,kO (f:=.value) hu,hr⟩
 ·
  rename_i s x f;split at h
  ·rename_i fd cs hf he;simp only[fu,aR]at h;obtain⟨y,hy,rfl,rfl⟩:=h;have hx:=hev x;rw[he]at hx;generalize ρe x=X at hx⊢;cases hx with
   |agg hl hr=>
    rename_i vs;obtain⟨u,hu,hr'⟩:=J8 (P:=cx.P) (vs:=vs.toArray) hy ⟨by simpa using hl,by simpa using hr⟩;refine⟨u,kO (f:=.value) ?_,hr'⟩;unfold DL at hf;split at hf
    ·rename_i fs hu';simp[Instr.field,fc hu',hf,asAgg,hu]
    ·cases hf
  ·cases h
 ·
  rename_i t p;split at h
  ·rename_i y hy;simp only[ay,aR]at h;obtain⟨rfl,rfl⟩:=h;obtain⟨u,hu,hr⟩:=Qv hD hs hy (hev p);exact⟨u,kO (f:=.value) hu,hr⟩
  ·subst hc;obtain⟨u,hu,hr⟩:=afp hD hs h (hev p);exact⟨u,kO (f:=.value) hu,hr⟩
 ·
  rename_i t x i;obtain⟨u,hu,hr⟩:=afr hD hs h hc (hev x) (hev i);exact⟨u,kO (f:=.value) hu,hr⟩
 ·
  rename_i t x i;have hx:=hev x;have hi:=hev i;split at h
  ·rename_i s k n hu he hi';rw[he]at hx;rw[hi']at hi;simp only[ay,aR]at h;obtain⟨rfl,rfl⟩:=h;rw[iD hx,fQ hi];obtain⟨h1,h2,h3⟩:=zQ hc;refine⟨_,kO (f:=.value) (a:=.int .u8 ((s.getD n.toNat 0).toNat:Int)) ?_,.int _ _⟩;have hg:(ByteArray.mk s.toArray)[n.toNat]?=some (s.getD n.toNat 0):=by
    rw[getElem?_pos (c:=ByteArray.mk s.toArray) (i:=n.toNat) (h:=by simpa [ByteArray.size]using h3)];simp[List.getD,h3,ByteArray.getElem_eq_getElem_data]
   simp[Instr.index,asIntOf,fc hu,h1,hg]
  ·cases h
 ·
  rename_i t x lo hi;split at h
  ·rename_i r hr0;simp only[ay]at h;subst h;obtain⟨u,hu,hr⟩:=aft hD hs hr0 hc (hev x) (Ek hev lo) (Ek hev hi);exact⟨u,kO (f:=.value) hu,hr⟩
  ·split at h
   ·obtain⟨u,hu,hr⟩:=afs hs h hc (hev x) (Ek hev lo) (Ek hev hi);exact⟨u,kO (f:=.value) hu,hr⟩
   ·cases h
 ·
  rename_i x;have hx:=hev x;split at h
  ·rename_i hh o he;simp only[ay,aR]at h;obtain⟨rfl,rfl⟩:=h;rw[he]at hx;obtain⟨b,e,hb⟩:=rG hx;rw[e];exact⟨_,rfl,.ptr hb⟩
  ·rename_i c' y o he;simp only[ay,aR]at h;obtain⟨rfl,rfl⟩:=h;rw[he]at hx;obtain⟨b,o',vs,e,-⟩:=Qn hx;rw[e]at hx⊢;exact⟨_,rfl,hx⟩
  ·rename_i hh s i o he;simp only[ay,aR]at h;obtain⟨rfl,rfl⟩:=h;rw[he]at hx;obtain⟨b,o',n,cp,e,hb,hi⟩:=oq hx;rw[e]at hx⊢;exact⟨_,rfl,hx⟩
  ·cases h
 ·
  rename_i f first caps
  split at h
  ·rename_i hf;simp only[ay,aR]at h;obtain⟨rfl,rfl⟩:=h;have h0:first= #[]:=by simpa using hf
   subst h0;have:=QA hev caps.toList;refine⟨_,kO (f:=.value) (a:=.func (.func f) #[] (caps.toList.map ρe).toArray) ?_,.fn this.1 this.2⟩;simp[Instr.makeFunc];cases caps;simp
  ·cases h
 ·
  rename_i args argTypes;split at h
  ·rename_i x t hx ht;have hxx:=hev x;have ea:args= #[x]:=by rw[<-Array.toArray_toList (xs:=args),hx]
   have et:argTypes= #[t]:=by rw[<-Array.toArray_toList (xs:=argTypes),ht]
   subst ea;subst et;have key:∀(n:Nat),(Builtin.len_ #[t] o.type #[ρe x]).run cx.P w=.ok (.int .i64 (n:Int)) w->
    ((do let d<-resolve ρe {callee:=.builtin .len,args:= #[x],argTypes:= #[t]} o.type;invoke d.target d.args:Sem Next)).run cx.P w=.ok (.value (.int .i64 (n:Int))) w:=fun n hn=>by
    simp[resolve,invoke,builtin,hn]
   split at h
   ·rename_i s hu he;rw[he]at hxx;simp only[ay,aR]at h;obtain⟨rfl,rfl⟩:=h;exact⟨_,key _ (by rw[iD hxx];simp[Builtin.len_,fc hu,goInt,wA]),.int _ _⟩
   ·rename_i e hu he;rw[he]at hxx;simp only[ay,aR]at h;obtain⟨rfl,rfl⟩:=h;refine⟨_,key 0 ?_,.int _ _⟩;generalize ρe x=X at hxx⊢;cases hxx;simp[Builtin.len_,fc hu,goInt]
   ·rename_i e c' l hu he;rw[he]at hxx;simp only[ay,aR]at h;obtain⟨rfl,rfl⟩:=h;exact⟨_,key _ (Qy hu (Qw hD hxx)),.int _ _⟩
   ·rename_i e v1 v2 v3 v4 hu he;rw[he]at hxx;simp only[ay,aR]at h;obtain⟨rfl,rfl⟩:=h;refine⟨_,key (v4-v3) ?_,.int _ _⟩;generalize ρe x=X at hxx⊢;cases hxx;simp[Builtin.len_,fc hu,goInt]
   ·rename_i e hh hu he;rw[he]at hxx;split at h
    ·rename_i c' l hob;simp only[ay,aR]at h;obtain⟨rfl,rfl⟩:=h;exact⟨_,key _ (Qy hu (Qx hD hs hob (jJ hxx).1)),.int _ _⟩
    ·rename_i c' l hob;simp only[ay,aR]at h;obtain⟨rfl,rfl⟩:=h;have hT:Tree cx.D w c' l (ρe x):=hs.ob _ _ _ hob (jJ hxx).1;obtain⟨a,cp,e⟩:=Dv hT;exact⟨_,key _ (by rw[e];simp[Builtin.len_,fc hu,goInt]),.int _ _⟩
    ·cases h
   ·cases h
  ·cases h
 all_goals
  rename_i args argTypes;split at h
  ·rename_i x y hxy;have hxx:=hev x;have Kp:=hev y;have ea:args= #[x,y]:=by rw[<-Array.toArray_toList (xs:=args),hxy]
   subst ea;split at h
   ·rename_i k a k' b he1 he2;rw[he1]at hxx;rw[he2]at Kp;split at h
    ·rename_i hk;subst hk;simp only[ay,aR]at h;obtain⟨rfl,rfl⟩:=h
     first
      |(refine⟨_,?_,.int _ _⟩;simp[resolve,invoke,builtin,fQ hxx,fQ Kp,Qz.1];done)
      |(refine⟨_,?_,.int _ _⟩;simp[resolve,invoke,builtin,fQ hxx,fQ Kp,Qz.2];done)
    ·cases h
   ·cases h
  ·cases h
end Go.V
