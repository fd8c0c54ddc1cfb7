/-
  OPERATIONS THAT LEAVE THE WORLD AS IT IS: what the value-level reading yields is what the machine computes.
-/
import Derived.Test.YtghkckfhaljjjaaGreatDoorXWtreeA
import Derived.Lib.Strings
import Derived.Laws.BytesArg
import Derived.Laws.StructEq
set_option linter.unusedVariables false
namespace Go.V
open Go
variable {K :dh}{D:bH K}{ρ:List Value}{S:Nat->Prop}{w:World}
theorem gQ{k:IntKind}{n:Int}{X:Value}(h:Rep D ρ S w (.int k n) X):X=.int k n:=by cases h;rfl
theorem ky{b:Bool}{X:Value}(h:Rep D ρ S w (.bool b) X):X=.bool b:=by cases h;rfl
theorem iD{s:List UInt8}{X:Value}(h:Rep D ρ S w (.str s) X):X=.string ⟨s.toArray⟩:=by cases h;rfl
theorem Qy{c:K.U}{x:K.El c}{off:Nat}{X:Value}(h:Rep D ρ S w (.rp c x off) X):∃b o vs,X=.pointer (some ⟨b,o+off,none⟩)/\vs.length=(D.cells c x).length/\iE w b o vs/\
 ∀(j:Nat) v y,(D.cells c x)[j]?=some v->vs[j]?=some y->Rep D ρ S w v y:=by
 cases h with|rp vs hS hl hc hr=>exact⟨_,_,vs,rfl,hl,hc,hr⟩
theorem rm{h off:Nat}{X:Value}(hp:Rep D ρ S w (.ptr h off) X):∃b,X=.pointer (some ⟨b,off,none⟩)/\ρ[h]?=some (.pointer (some ⟨b,0,none⟩)):=by
 cases hp with|ptr hp=>exact⟨_,rfl,hp⟩
theorem lO{h:Nat}{X:Value}(hp:Rep D ρ S w (.sl h) X):ρ[h]?=some X/\∃a n c,X=.slice a n c:=by
 cases hp with|sl hp=>exact⟨hp,_,_,_,rfl⟩
theorem tX{h st i off:Nat}{X:Value}(hp:Rep D ρ S w (.ep h st i off) X):∃b o n c,X=.pointer (some ⟨b,o+i*st+off,none⟩)/\ρ[h]?=some (.slice (some ⟨b,o,none⟩) n c)/\i<n:=by
 cases hp with|ep hp hi=>exact⟨_,_,_,_,rfl,hp,hi⟩
theorem wO{H:List (Ob K)}(hs:aS D ρ S w H){h:Nat}{c:K.U}{l:List (K.El c)}{X:Value}(ho:H[h]?=some (.arr c l))(hp:ρ[h]?=some X):
 (X=.slice none 0 0/\l=[])\/∃b o cap vs T fr,X=.slice (some ⟨b,o,none⟩) l.length cap/\w.heap[b]?=some (.cells vs T fr)/\(l.length<=cap/\im D c T o)/\o+cap*K.sz c<=vs.size/\
   (∀k,o<=k->k<o+cap*K.sz c->¬(fr.1<=k/\k<fr.2))/\∀i x,l[i]?=some x->bh D ρ S w (D.cells c x) (db vs (o+i*K.sz c) (K.sz c)):=hs.ob _ _ _ ho hp
theorem getD_some{α:Type}{l:List α}{i:Nat}(d:α)(h:i<l.length):l[i]?=some (l.getD i d):=by simp[List.getD,h]
theorem Qz(s:List UInt8):(ByteArray.mk s.toArray).toList=s:=by rw[ByteArray.toList_eq]
theorem zn(s:List UInt8):(ByteArray.mk s.toArray).size=s.length:=by simp[ByteArray.size]
theorem afN(s t:List UInt8):(ByteArray.mk s.toArray)++(ByteArray.mk t.toArray)=⟨(s++t).toArray⟩:=by
 apply ByteArray.ext;simp
theorem afO{P:Program}{op:BinOp}{t:TypeId}{a b:List UInt8}{v:AV K}{c:Bool}(h:I8 op a b=some (v,c))(hc:c=true):
 ∃u,(binOp op t (.string ⟨a.toArray⟩) (.string ⟨b.toArray⟩)).run P w=.ok u w/\Rep D ρ S w v u:=by
 cases op<;>simp only[I8]at h<;>first
  |(cases h;done)
  |(simp only[av,aZ]at h;obtain⟨rfl,rfl⟩:=h)
 case add=>
  refine⟨.string ⟨(a++b).toArray⟩,?_,.str _⟩;have hc':a.length+b.length<=4611686018427387904:=by simpa [aw]using hc
  simp only[binOp,Op.stringOp,zn];rw[aT (by simp[IntKind.max,IntKind.signed,IntKind.bits];omega)];simp[afN]
 all_goals
  refine⟨_,?_,.bool _⟩;simp[binOp,Op.stringOp,yT]
theorem afP{P:Program}{op:BinOp}{t:TypeId}{k:IntKind}{a b:Int}{v:AV K}{c:Bool}(h:I7 op k a b=some (v,c))(hc:c=true):
 ∃u,(binOp op t (.int k a) (.int k b)).run P w=.ok u w/\Rep D ρ S w v u:=by
 cases op<;>simp only[I7]at h<;>first
  |(cases h;done)
  |(simp only[av,aZ]at h;obtain⟨rfl,rfl⟩:=h)
 case quo=>
  refine⟨_,?_,.int _ _⟩;have hb:b≠0:=by simpa using hc
  simp[binOp,Op.intDiv,hb]
 case rem=>
  refine⟨_,?_,.int _ _⟩;have hb:b≠0:=by simpa using hc
  simp[binOp,Op.intDiv,hb]
 case and=>exact⟨_,by simp[binOp,Op.intBits,uf],.int _ _⟩
 case or=>exact⟨_,by simp[binOp,Op.intBits,uf],.int _ _⟩
 case xor=>exact⟨_,by simp[binOp,Op.intBits,uf],.int _ _⟩
 case andNot=>exact⟨_,by simp[binOp,Op.intBits,uf],.int _ _⟩
 all_goals first
  |(refine⟨_,?_,.int _ _⟩;simp[binOp,Op.intArith];done)
  |(refine⟨_,?_,.bool _⟩;simp[binOp,Op.intCmp];done)
theorem QA{P:Program}{t:TypeId}(h:I9 P t=true)(a b:Bool):(Op.equal t (.bool a) (.bool b)).run P w=.ok (a==b) w:=by
 have hu:P.underlying t=some .bool:=by
  unfold I9 at h;split at h
  ·assumption
  ·cases h
 show(Op.equalIn (9999+1) t (.bool a) (.bool b)).run P w=_
 rw[Op.equalIn];simp[underlying,hu,program,Sem.run]
theorem Kt{P:Program}{op:BinOp}{t:TypeId}{x y:Operand}{X Y:Value}(h:(∃k n,X=.int k n)\/(∃b,X=.bool b)\/(∃s,X=.string s)):
 (eqGuard op t x y X Y).run P w=.ok () w:=by
 rcases h with⟨k,n,rfl⟩|⟨b,rfl⟩|⟨s,rfl⟩<;>simp[eqGuard]
theorem D9{P:Program}{t:TypeId}{g:Bool}(h:Jb P t=some g):(isAgg t).run P w=.ok g w:=by
 unfold Jb at h;split at h<;>first|(cases h;done)|skip
 ·rename_i d hu;simp only[av]at h;subst h;simp[isAgg,underlying,hu]
 ·rename_i d e hu;simp only[av]at h;subst h;simp[isAgg,underlying,hu]
 ·rename_i d h1 h2 hu;simp only[av]at h;subst h;have:(underlying t).run P w=.ok d w:=by simp[underlying,hu]
  simp only[isAgg,Sem.run_bind,this,Result.andThen_ok];cases d<;>first|rfl|(exact absurd rfl (h1 _))|(exact absurd rfl (h2 _ _))
theorem pQ{P:Program}{t:TypeId}{n:Nat}(h:fm P t=some n):(sizeOf t).run P w=.ok n w:=by
 unfold fm at h;cases hi:P.info? t with
 |none=>simp[hi]at h
 |some i=>simp[hi]at h;simp[sizeOf,typeInfo,hi,h]
theorem Ku{P:Program}{t:TypeId}{cs:List (AV K)}{vs:Array Value}{off:Nat}{v:AV K}(h:nj P t cs off=some v)(hr:bh D ρ S w cs vs.toList):
 ∃u,(part t vs off).run P w=.ok u w/\Rep D ρ S w v u:=by
 unfold nj at h;split at h
 ·rename_i n hg hn;split at h
  ·rename_i hle;simp only[av]at h;subst h;have hr':=(hr.drop off).take n;refine⟨.agg ((vs.toList.drop off).take n).toArray,?_,.agg hr'.1 hr'.2⟩;simp only[part,Sem.run_bind,D9 hg,Result.andThen_ok,pW,pQ hn,Sem.run_pure];congr 2;apply Array.toList_inj.1;simp[List.extract]
  ·cases h
 ·rename_i n hg hn;obtain⟨x,hx,hrep⟩:=hr.get h;refine⟨x,?_,hrep⟩;have hx':vs[off]?=some x:=by simpa using hx
  simp only[part,Sem.run_bind,D9 hg,Result.andThen_ok,oj,oq,hx',Sem.run_pure]
 ·cases h
theorem Ea{l:List (AV K)}{X:Value}(h:Rep D ρ S w (.agg l) X):∃vs:Array Value,X=.agg vs/\bh D ρ S w l vs.toList:=by
 cases h with|agg hl hr=>exact⟨_,rfl,by simpa using⟨hl,hr⟩⟩
theorem QB{P:Program}{d:Nat}{rec:TypeId->AV K->AV K->Option Bool}
 (hrec:∀t x y e X Y,rec t x y=some e->Rep D ρ S w x X->Rep D ρ S w y Y->(Op.equalIn d t X Y).run P w=.ok e w)
 {xs ys:List (AV K)} {vs us:Array Value} (hx:bh D ρ S w xs vs.toList) (hy:bh D ρ S w ys us.toList):
 ∀(fs:List Field)(e:Bool),yU P rec xs ys fs=some e->(Op.eqFields d vs us fs).run P w=.ok e w
 |[],e,h=>by simp only[yU,av]at h;subst h;simp[Op.eqFields]
 |f::fs,e,h=>by
  unfold yU at h;split at h
  ·cases h
  ·rename_i hn;split at h
   ·rename_i a b ha hb;split at h
    ·rename_i p q hp hq;simp only[av]at h;subst h;obtain⟨u,hu,hru⟩:=Ku (P:=P) ha hx;obtain⟨u',hu',afR⟩:=Ku (P:=P) hb hy;have h3:=hrec _ _ _ _ _ _ hp hru afR;have h4:=QB hrec hx hy fs q hq;simp only[Op.eqFields,ne_eq,hn,not_false_eq_true,pW,Sem.run_bind,hu,hu',h3,Result.andThen_ok];cases p
     ·simp
     ·simpa using h4
    ·cases h
   ·cases h
theorem afS{P:Program}{t:TypeId}{fs:Array Field}{d:Nat}{vs us:Array Value}(hu:P.underlying t=some (.struct fs))(hst:P.stoodInHeld t=false):
 (Op.equalIn (d+1) t (.agg vs) (.agg us)).run P w=(Op.eqFields d vs us fs.toList).run P w:=by
 have hf:P.fieldsOf t=fs:=by simp[Program.fieldsOf,hu]
 rw[run_equalIn_struct w d t vs us (by rw[hf];exact hu) hst,hf]
theorem Kv{P:Program}(k:Nat):∀(n:Nat)(t:TypeId)(x y:AV K)(e:Bool)(X Y:Value),wv P n t x y=some e->Rep D ρ S w x X->Rep D ρ S w y Y->(Op.equalIn (n+k) t X Y).run P w=.ok e w
 |0,t,x,y,e,X,Y,h,hx,hy=>by simp[wv]at h
 |n+1,t,x,y,e,X,Y,h,hx,hy=>by
  rw[show n+1+k=(n+k)+1 by omega];unfold wv at h;split at h
  ·cases h
  ·rename_i heq;cases heq;split at h
   ·rename_i hk;subst hk;split at h
    ·rename_i hu;simp only[av]at h;subst h;cases gQ hx;cases gQ hy;exact run_equalIn_int w _ _ _ _ _ _ hu
    ·cases h
   ·cases h
  ·rename_i heq;cases heq;split at h
   ·rename_i hu;simp only[av]at h;subst h;cases ky hx;cases ky hy;exact run_equalIn_bool' w _ _ _ _ hu
   ·cases h
  ·rename_i heq;cases heq;split at h
   ·rename_i hu;simp only[av]at h;subst h;cases iD hx;cases iD hy;rw[run_equalIn_string w _ _ _ _ hu,Qz,Qz]
   ·cases h
  ·rename_i heq;cases heq;obtain⟨vs,rfl,hvs⟩:=Ea hx;obtain⟨us,rfl,hus⟩:=Ea hy;split at h
   ·rename_i fs hu;split at h
    ·cases h
    ·rename_i hst;rw[afS hu (by simpa using hst)];exact QB (fun t x y e X Y=>Kv k n t x y e X Y) hvs hus fs.toList e h
   ·cases h
  ·cases h
theorem QC{P:Program}{t:TypeId}(h:Jc P t=true)(a:Option Addr):(Op.equal t (.pointer a) (.pointer none)).run P w=.ok a.isNone w:=by
 obtain⟨e,hu⟩:∃e,P.underlying t=some (.pointer e):=by
  unfold Jc at h;split at h
  ·rename_i e hu;exact⟨e,hu⟩
  ·cases h
 show(Op.equalIn (9999+1) t (.pointer a) (.pointer none)).run P w=_
 rw[Op.equalIn];cases a<;>simp[underlying,hu,program,Sem.run]
theorem Eb{P:Program}{op:BinOp}{t:TypeId}{ex ey:Operand}{a:Option Addr}{v:AV K}{c:Bool}
 (h:wx P op t a.isNone=some (v,c)):∃u,(do eqGuard op t ex ey (.pointer a) (.pointer none);binOp op t (.pointer a) (.pointer none):Sem Value).run P w=.ok u w/\Rep D ρ S w v u:=by
 unfold wx at h;have hg:(eqGuard op t ex ey (.pointer a) (.pointer none)).run P w=.ok () w:=by simp[eqGuard]
 rw[Sem.run_bind,hg,Result.andThen_ok];split at h
 ·rename_i hp;split at h
  ·simp only[av,aZ]at h;obtain⟨rfl,rfl⟩:=h;exact⟨_,by simp[binOp,QC hp],.bool _⟩
  ·simp only[av,aZ]at h;obtain⟨rfl,rfl⟩:=h;exact⟨_,by simp[binOp,QC hp],.bool _⟩
  ·cases h
 ·cases h
theorem afT{P:Program}{op:BinOp}{t:TypeId}{x y:AV K}{ex ey:Operand}{X Y:Value}{v:AV K}{c:Bool}
 (h:Jd P op t x y=some (v,c)) (hc:c=true) (hx:Rep D ρ S w x X) (hy:Rep D ρ S w y Y):
 ∃u,(do eqGuard op t ex ey X Y;binOp op t X Y:Sem Value).run P w=.ok u w/\Rep D ρ S w v u:=by
 unfold Jd at h;split at h
 ·rename_i k a k' b;obtain rfl:=gQ hx;obtain rfl:=gQ hy;rw[Sem.run_bind,Kt (.inl ⟨_,_,rfl⟩),Result.andThen_ok];split at h
  ·simp only[av,aZ]at h;obtain⟨rfl,rfl⟩:=h;have hb:¬b<0:=by simp at hc;omega
   exact⟨_,by simp[binOp,Op.shift,hb,OO],.int _ _⟩
  ·simp only[av,aZ]at h;obtain⟨rfl,rfl⟩:=h;have hb:¬b<0:=by simp at hc;omega
   exact⟨_,by simp[binOp,Op.shift,hb,OP],.int _ _⟩
  ·split at h
   ·rename_i hk;subst hk;exact afP h hc
   ·cases h
 ·rename_i a b;obtain rfl:=ky hx;obtain rfl:=ky hy;rw[Sem.run_bind,Kt (.inr (.inl ⟨_,rfl⟩)),Result.andThen_ok];split at h
  ·rename_i hb;split at h
   ·simp only[av,aZ]at h;obtain⟨rfl,rfl⟩:=h;exact⟨_,by simp[binOp,QA hb],.bool _⟩
   ·simp only[av,aZ]at h;obtain⟨rfl,rfl⟩:=h;exact⟨_,by simp[binOp,QA hb],.bool _⟩
   ·cases h
  ·cases h
 ·rename_i a b;obtain rfl:=iD hx;obtain rfl:=iD hy;rw[Sem.run_bind,Kt (.inr (.inr ⟨_,rfl⟩)),Result.andThen_ok];exact afO h hc
 ·rename_i a b;obtain⟨vs,rfl,hvs⟩:=Ea hx;obtain⟨us,rfl,hus⟩:=Ea hy;split at h
  ·split at h
   ·cases h
   ·rename_i hg;simp only[dy,aZ]at h;obtain⟨e,he,rfl,rfl⟩:=h;have:=Kv 9994 6 t _ _ e _ _ he hx hy;refine⟨.bool e,?_,.bool _⟩;rw[Sem.run_bind,run_eqGuard_agg w _ t ex ey vs us (by simpa using hg),Result.andThen_ok,run_eql_struct,this];rfl
  ·split at h
   ·cases h
   ·rename_i hg;simp only[dy,aZ]at h;obtain⟨e,he,rfl,rfl⟩:=h;have:=Kv 9994 6 t _ _ e _ _ he hx hy;refine⟨.bool (!e),?_,.bool _⟩;rw[Sem.run_bind,run_eqGuard_agg w _ t ex ey vs us (by simpa using hg),Result.andThen_ok,run_neq_struct,this];rfl
  ·cases h
 ·cases hx;cases hy;exact Eb (a:=none) h
 ·cases hx;cases hy;exact Eb (a:=some _) h
 ·cases hx;cases hy;exact Eb (a:=some _) h
 ·cases hx;cases hy;exact Eb (a:=some _) h
 ·cases h
theorem afU{P:Program}{op:UnOp}{x:AV K}{X:Value}{v:AV K}{c:Bool}(h:Ja op x=some (v,c))(hx:Rep D ρ S w x X):
 ∃u,(Op.unary op X).run P w=.ok u w/\Rep D ρ S w v u:=by
 unfold Ja at h;split at h
 ·obtain rfl:=ky hx;split at h
  ·simp only[av,aZ]at h;obtain⟨rfl,rfl⟩:=h;exact⟨_,by simp[Op.unary],.bool _⟩
  ·cases h
 ·obtain rfl:=gQ hx;split at h
  ·simp only[av,aZ]at h;obtain⟨rfl,rfl⟩:=h;exact⟨_,by simp[Op.unary,Op.intArith],.int _ _⟩
  ·simp only[av,aZ]at h;obtain⟨rfl,rfl⟩:=h;exact⟨_,by simp[Op.unary,Op.intBits,uf],.int _ _⟩
  ·cases h
 ·cases h
mutual
theorem v7:∀(v:Value)(x:AV K),lN v=some x->Rep D ρ S w x v
 |.bool b,x,h=>by simp[lN]at h;subst h;exact .bool b
 |.int k n,x,h=>by simp[lN]at h;subst h;exact .int k n
 |.string s,x,h=>by simp[lN]at h;subst h;have:=Rep.str (D:=D) (ρ:=ρ) (S:=S) (w:=w) s.data.toList;simpa using this
 |.pointer none,x,h=>by simp[lN]at h;subst h;exact .dx
 |.slice none 0 0,x,h=>by simp[lN]at h;subst h;exact .dn
 |.agg ⟨cs⟩,x,h=>by
   simp only[lN,dy]at h;obtain⟨l,hl,rfl⟩:=h;have:=QD cs l hl;exact .agg this.1 this.2
 |.pointer (some _),x,h|.slice (some _) _ _,x,h|.slice none (_+1) _,x,h|.slice none 0 (_+1),x,h|.float _ _,x,h|.complex _ _ _,x,h|.map _,x,h|.chan _,x,h|.func _ _ _,x,h
 |.nilFunc,x,h|.iface _ _,x,h|.nilIface,x,h|.tuple _,x,h=>by simp[lN]at h
theorem QD:∀(vs:List Value)(l:List (AV K)),yS vs=some l->bh D ρ S w l vs
 |[],l,h=>by simp[yS]at h;subst h;exact .nil
 |v::r,l,h=>by
  simp only[yS]at h;split at h
  ·rename_i x m hx hm;simp at h;subst h;exact .cons (v7 v x hx) (QD r m hm)
  ·cases h
end
@[simp] theorem add_plain (b k i:Nat):(⟨b,k,none⟩:Addr).add i=⟨b,k+i,none⟩:=by
  unfold Addr.add;split
  ·rename_i h;subst h;rfl
  ·rfl
theorem QE{P:Program}{b k:Nat}:∀(vs:List Value)(i:Nat)(acc:Array Value),iE w b (k+i) vs->
 (loadCellsFrom ⟨b,k,none⟩ i vs.length acc).run P w=.ok (acc++vs.toArray) w
 |[],i,acc,_=>by simp[loadCellsFrom]
 |v::r,i,acc,h=>by
  have h0:w.cell? ⟨b,k+i,none⟩=some v:=by simpa using h 0 v rfl
  have ih:=QE (P:=P) (b:=b) (k:=k) r (i+1) (acc.push v) (fun j x hx=>by have:=h (j+1) x (by simpa using hx);rw[show k+(i+1)+j=k+i+(j+1) by omega];exact this);simp only[ak,loadCellsFrom,Sem.run_bind,run_load,add_plain,h0];rw[Result.andThen_ok,ih];simp
theorem Dm{P:Program}{b k:Nat}{vs:List Value}(h:iE w b k vs):(loadCells ⟨b,k,none⟩ vs.length).run P w=.ok vs.toArray w:=by
 have:=QE (P:=P) vs 0 #[] (k:=k) (by simpa using h);simpa [loadCells]using this
theorem iE.db{b k:Nat}{vs:List Value}(h:iE w b k vs)(off n:Nat):iE w b (k+off) ((vs.drop off).take n):=fun j v hv=>by
 simp only[fa]at hv;split at hv
 ·rw[oh];exact h (off+j) v (by simpa using hv)
 ·simp at hv
theorem Ec{P:Program}{t:TypeId}{cs:List (AV K)}{vs:List Value}{b o off:Nat}{v:AV K}(h:nj P t cs off=some v)(hc:iE w b o vs)(hr:bh D ρ S w cs vs):
 ∃u,(loadVar t ⟨b,o+off,none⟩).run P w=.ok u w/\Rep D ρ S w v u:=by
 unfold nj at h;split at h
 ·rename_i n hg hn;split at h
  ·rename_i hle;simp only[av]at h;subst h;have hr':=(hr.drop off).take n;have hlen:((vs.drop off).take n).length=n:=by simp;rw[<-hr.1];omega
   have:=Dm (P:=P) (hc.db off n);rw[hlen]at this;refine⟨.agg ((vs.drop off).take n).toArray,?_,.agg hr'.1 hr'.2⟩;simp[loadVar,D9 hg,pQ hn,this]
  ·cases h
 ·rename_i n hg hn;obtain⟨x,hx,hrep⟩:=hr.get h;refine⟨x,?_,hrep⟩;have:=hc off x hx;simp[loadVar,D9 hg,this]
 ·cases h
theorem v8{b:Nat}{vs:Array Value}{T:TypeId}{fr:Nat×Nat}(h:w.heap[b]?=some (.cells vs T fr))(k n:Nat):iE w b k (db vs k n):=fun j v hv=>by
 simp only[db,fa]at hv;split at hv
 ·simp only[iY]at hv;simp[World.cell?,h];simpa using hv
 ·simp at hv
theorem afV(vs:Array Value):db vs 0 vs.size=vs.toList:=by simp only[db,lR];rw[yO (by simp)]
mutual
theorem IA{S':Nat->Prop}{w':World}:∀(x:AV K)(v:Value),iL x=false->Rep D ρ S w x v->Rep D ρ S' w' x v
 |.any,v,_,h=>.any _
 |.int _ _,v,_,h=>by rw[gQ h];exact .int _ _
 |.bool _,v,_,h=>by rw[ky h];exact .bool _
 |.str _,v,_,h=>by rw[iD h];exact .str _
 |.dx,v,_,h=>by cases h;exact .dx
 |.dn,v,_,h=>by cases h;exact .dn
 |.ptr _ _,v,_,h=>by cases h with|ptr hp=>exact .ptr hp
 |.np _,v,_,h=>by
   cases h with
   |kz=>exact .kz
   |np hp=>exact .np hp
 |.sl _,v,_,h=>by cases h with|sl hp=>exact .sl hp
 |.ep _ _ _ _,v,_,h=>by cases h with|ep hp hi=>exact .ep hp hi
 |.vw _ _ _ _,v,_,h=>by cases h with|vw hp h1 h2 ha=>exact .vw hp h1 h2 ha
 |.opt _ _ _,v,_,h=>by cases h
 |.fn f l,v,hr,h=>by
   cases h with
   |fn hl hh=>
    have:=yE (S':=S') (w':=w') l _ (by simpa [iL]using hr) ⟨hl,hh⟩;exact .fn this.1 this.2
 |.agg l,v,hr,h=>by
   cases h with
   |agg hl hh=>
    have:=yE (S':=S') (w':=w') l _ (by simpa [iL]using hr) ⟨hl,hh⟩;exact .agg this.1 this.2
 |.bC l,v,hr,h=>by
   cases h with
   |bC hl hh=>
    have:=yE (S':=S') (w':=w') l _ (by simpa [iL]using hr) ⟨hl,hh⟩;exact .bC this.1 this.2
 |.an _ _,v,hr,_|.rp _ _ _,v,hr,_=>by simp[iL]at hr
theorem yE{S':Nat->Prop}{w':World}:∀(l:List (AV K))(vs:List Value),eI l=false->bh D ρ S w l vs->bh D ρ S' w' l vs
 |[],vs,_,h=>by rw[h.m9];exact .nil
 |x::r,vs,hr,h=>by
  simp only[eI,jU]at hr;obtain⟨u,t,rfl,h1,h2⟩:=h.gp;exact .cons (IA x u hr.1 h1) (yE r t hr.2 h2)
end
theorem QF{P:Program}{H:List (Ob K)}(hD:bR D)(hs:aS D ρ S w H){t:TypeId}{p v:AV K}{X:Value}(h:Dz P D H t p=some v)(hp:Rep D ρ S w p X):
 ∃u,(Instr.loadAt t X).run P w=.ok u w/\Rep D ρ S w v u:=by
 unfold Dz at h;split at h
 ·rename_i hh off;split at h
  ·rename_i cs hob;obtain⟨b,rfl,hb⟩:=rm hp;obtain⟨b',vs,T,e,hblk,D7,-⟩:=hs.ob _ _ _ hob hb;simp only[Value.pointer.injEq,av,Addr.mk.injEq]at e;obtain⟨rfl,-,-⟩:=e;obtain⟨u,hu,hr⟩:=Ec (o:=0) (b:=b) h (by have:=v8 hblk 0 vs.size;rwa [afV]at this) D7;exact⟨u,by simpa [Instr.loadAt,Instr.sureAddr]using hu,hr⟩
  ·cases h
 ·rename_i c x off;obtain⟨b,o,vs,rfl,hl,hc,hr⟩:=Qy hp;obtain⟨u,hu,hr⟩:=Ec (o:=o) (b:=b) h hc ⟨hl.symm,hr⟩;exact⟨u,by simpa [Instr.loadAt,Instr.sureAddr]using hu,hr⟩
 ·rename_i hh st i off;split at h
  ·rename_i c l hob;split at h
   ·rename_i hst;subst hst;obtain⟨b,o,n,cp,rfl,hb,hi⟩:=tX hp;rcases wO hs hob hb with⟨e,-⟩|⟨b',o',cap,vs,T,fr,e,hblk,⟨hcap,fU⟩,hsz,hfr,hall⟩
    ·cases e
    ·simp only[Value.slice.injEq,av,Addr.mk.injEq]at e;obtain⟨⟨rfl,rfl,-⟩,rfl,rfl⟩:=e;have hx:=hall i _ (getD_some (K.zero c) hi);obtain⟨u,hu,hr⟩:=Ec (o:=o+i*K.sz c) (b:=b) h (v8 hblk _ _) hx;exact⟨u,by simpa [Instr.loadAt,Instr.sureAddr]using hu,hr⟩
   ·cases h
  ·rename_i c l hob;split at h
   ·rename_i hst;subst hst;split at h
    ·rename_i v' htk;split at h
     ·cases h
     ·rename_i hnr;simp only[av]at h;subst h;obtain⟨b,o,n,cp,rfl,hb,hi⟩:=tX hp;have hT:Tree D w c l (.slice (some ⟨b,o,none⟩) n cp):=hs.ob _ _ _ hob hb;have hR:Rep D ρ (fun k=>S k\/dS D w c l (.slice (some ⟨b,o,none⟩) n cp) k) w (.an c l) (.slice (some ⟨b,o,none⟩) n cp):=hT.rep fun k hk=>.inr hk
      cases hR with
      |fc a cap=>omega
      |an val hS hcap hl hca hr=>
       have hg:=getD_some (K.zero c) hi;obtain⟨u,hu,hr'⟩:=Ec (o:=o+i*K.sz c) (b:=b) htk (hca i hi) ⟨(hl i _ hg).symm,hr i _ hg⟩;exact⟨u,by simpa [Instr.loadAt,Instr.sureAddr]using hu,IA v' u (by simpa using hnr) hr'⟩
    ·cases h
   ·cases h
  ·cases h
 ·cases h
theorem afW{P:Program}{H:List (Ob K)}(hD:bR D)(hs:aS D ρ S w H){t:TypeId}{p v:AV K}{X:Value}(h:Je P H t p=some (v,true))(hp:Rep D ρ S w p X):
 ∃u,(Instr.loadAt t X).run P w=.ok u w/\Rep D ρ S w v u:=by unfold Je at h;cases h
theorem gh{P:Program}{t:TypeId}{d:TypeDesc}(h:P.underlying t=some d):(underlying t).run P w=.ok d w:=by simp[underlying,h]
theorem afX{P:Program}{s:TypeId}{f:Nat}{x v:AV K}{X:Value}(h:Jf P s f x=some v)(hx:Rep D ρ S w x X):
 ∃u,(Instr.fieldAt s X f).run P w=.ok u w/\Rep D ρ S w v u:=by
 unfold Jf at h;split at h
 ·rename_i fd hf;unfold Dy at hf;split at hf
  ·rename_i fs hu;split at h
   ·rename_i n hn;have key:∀a:Addr,a.spot=none->(Instr.fieldAt s (.pointer (some a)) f).run P w=.ok (.pointer (some (a.add fd.offset))) w:=fun a ha=>by
     simp[Instr.fieldAt,gh hu,hf,Instr.sureAddr,fieldPlace,pQ hn]
    split at h
    ·simp only[av]at h;subst h;obtain⟨b,rfl,hb⟩:=rm hx;exact⟨_,key _ rfl,by rw[add_plain];exact .ptr hb⟩
    ·simp only[av]at h;subst h;cases hx with
     |rp vs hS hl hc hr=>exact⟨_,key _ rfl,by rw[add_plain,oh];exact .rp vs hS hl hc hr⟩
    ·simp only[av]at h;subst h;obtain⟨b,o,n,cp,rfl,hb,hi⟩:=tX hx;exact⟨_,key _ rfl,by rw[add_plain,oh];exact .ep hb hi⟩
    ·cases h
   ·cases h
  ·cases hf
 ·cases h
theorem zp{n:Int}{len:Nat}(h:inB n len=true):0<=n/\n<len/\n.toNat<len:=by
 simp[inB]at h;omega
theorem afY{P:Program}{H:List (Ob K)}(hD:bR D)(hs:aS D ρ S w H){t:TypeId}{x i v:AV K}{c:Bool}{X I:Value}(h:Jg P H t x i=some (v,c))(hc:c=true)
 (hx:Rep D ρ S w x X) (hi:Rep D ρ S w i I):∃u,(Instr.indexAt t X I).run P w=.ok u w/\Rep D ρ S w v u:=by
 unfold Jg at h;split at h
 ·rename_i e k n he;obtain rfl:=gQ hi;unfold elemOf? at he;split at he
  ·rename_i e' hu;simp only[av]at he;subst he;have key:∀(a:Addr)(len cap sz:Nat),fm P e'=some sz->inB n len=true->(Instr.indexAt t (.slice (some a) len cap) (.int k n)).run P w=.ok (.pointer (some (a.add (n.toNat*sz)))) w:=fun a len cap sz hsz hb=>by
    obtain⟨h1,h2,-⟩:=zp hb;simp[Instr.indexAt,asIntOf,gh hu,pQ hsz,h1,h2]
   split at h
   ·rename_i cc l;split at h
    ·rename_i hsz;simp only[av,aZ]at h;obtain⟨rfl,rfl⟩:=h;obtain⟨-,-,hlt⟩:=zp hc;cases hx with
     |fc a cap=>simp at hlt
     |an val hS hcap hl hca hr=>
      have hg:=getD_some (K.zero cc) hlt;exact⟨_,key _ _ _ _ hsz hc,by rw[add_plain];exact .rp (off:=0) (val n.toNat) hS (hl _ _ hg) (hca _ hlt) (hr _ _ hg)⟩
    ·cases h
   ·rename_i hh;split at h
    ·rename_i cc l hob;split at h
     ·rename_i hsz;simp only[av,aZ]at h;obtain⟨rfl,rfl⟩:=h;obtain⟨-,-,hlt⟩:=zp hc;obtain⟨hb,-⟩:=lO hx;rcases wO hs hob hb with⟨rfl,rfl⟩|⟨b,o,cap,vs,T,fr,rfl,hblk,⟨hcap,fU⟩,hsz',hfr,hall⟩
      ·simp at hlt
      ·exact⟨_,key _ _ _ _ hsz hc,by rw[add_plain];exact .ep (off:=0) hb hlt⟩
     ·cases h
    ·rename_i cc l hob;split at h
     ·rename_i hsz;simp only[av,aZ]at h;obtain⟨rfl,rfl⟩:=h;obtain⟨-,-,hlt⟩:=zp hc;obtain⟨hb,-⟩:=lO hx;have hT:Tree D w cc l X:=hs.ob _ _ _ hob hb;cases hT with
      |nil=>simp at hlt
      |mk=>exact⟨_,key _ _ _ _ hsz hc,by rw[add_plain];exact .ep (off:=0) hb hlt⟩
     ·cases h
    ·cases h
   ·cases h
  ·cases he
 ·cases h
theorem QG{lo hi:Int}{len:Nat}(h:cg lo hi len=true):0<=lo/\lo<=hi/\hi<=len:=by
 simp[cg]at h;omega
inductive qg (D:bH K) (ρ:List Value) (S:Nat->Prop) (w:World):Option (AV K)->Option Value->Prop
 |none:qg D ρ S w none none
 |some {x:AV K} {X:Value} (h:Rep D ρ S w x X):qg D ρ S w (some x) (some X)
theorem Ed{P:Program}{k:IntKind}{n:Int}{y:Nat}{code:BoundsCode}(h:0<=n)(h':n<=y):(Instr.sliceBound (.int k n) y code).run P w=.ok n.toNat w:=by
 simp[Instr.sliceBound,asIntOf,h,h']
theorem Kw{d:Int}{x:AV K}{n:Int}{X:Value}(h:nk d (some x)=some n)(hx:Rep D ρ S w x X):∃k,X=.int k n:=by
 cases x<;>simp[nk]at h;subst h;exact⟨_,gQ hx⟩
theorem Kx{P:Program}{isS:Bool}{len cap:Nat}{lo hi:Option (AV K)}{LO HI:Option Value}{l h:Int}
 (hl:nk 0 lo=some l) (hh:nk len hi=some h) (hlo:qg D ρ S w lo LO) (hhi:qg D ρ S w hi HI) (h1:0<=l) (h2:l<=h) (h3:h<=len) (hcap:len<=cap):
 (Instr.sliceBounds isS len cap LO HI none).run P w=.ok (l.toNat,h.toNat,cap) w:=by
 have e0:(l:Int)<=(h.toNat:Nat):=by omega
 have e1:h<=(cap:Nat):=by omega
 cases hlo with
 |none=>
  simp[nk]at hl;subst hl;cases hhi with
  |none=>simp[nk]at hh;subst hh;simp[Instr.sliceBounds]
  |some hx=>
   obtain⟨k,rfl⟩:=Kw hh hx;simp[Instr.sliceBounds,Ed (by omega:0<=h) e1]
 |some hy=>
  obtain⟨k',rfl⟩:=Kw hl hy;cases hhi with
  |none=>
   simp[nk]at hh;subst hh;have:=Ed (P:=P) (w:=w) (k:=k') (code:=.sliceB) h1 (by omega:l<=(len:Nat));simp[Instr.sliceBounds,this]
  |some hx=>
   obtain⟨k,rfl⟩:=Kw hh hx;simp[Instr.sliceBounds,Ed (by omega:0<=h) e1,Ed h1 e0]
theorem Qj(s:List UInt8)(a b:Nat):(ByteArray.mk s.toArray).extract a b=⟨((s.take b).drop a).toArray⟩:=by
 rw[Lib.extract_eq];simp[List.drop_take]
theorem Oe{c:K.U}{l:List (K.El c)}{a a':Option Addr}{n cp lo hi c':Nat}(h:Rep D ρ S w (.an c l) (.slice a n cp))(h1:lo<=hi)(h2:hi<=n)(ha:hi-lo=0\/∃b o,a=some ⟨b,o,none⟩/\a'=some ⟨b,o+lo*K.sz c,none⟩/\hi-lo<=c'):
 Rep D ρ S w (.an c ((l.take hi).drop lo)) (.slice a' (hi-lo) c'):=by
 rcases ha with h0|⟨b,o,rfl,rfl,hc⟩
 ·have:(l.take hi).drop lo=[]:=lS (by simp;omega);rw[this,h0];exact .fc _ _
 ·by_cases h0:hi-lo=0
  ·have:(l.take hi).drop lo=[]:=lS (by simp;omega);rw[this,h0];exact .fc _ _
  ·cases h with
   |fc=>omega
   |an val hS hcap hl' hca hr=>
    have hlen:((l.take hi).drop lo).length=hi-lo:=by simp;omega
    have hget:∀i x,((l.take hi).drop lo)[i]?=some x->l[lo+i]?=some x:=fun i x hi=>by
     simp only[iY,fa]at hi;split at hi
     ·exact hi
     ·simp at hi
    rw[<-hlen];exact .an (fun i=>val (lo+i)) hS (by rw[hlen];omega) (fun i x hi=>hl' _ _ (hget i x hi))
     (fun i hi=>by
       have:=hca (lo+i) (by rw[hlen]at hi;omega)
       rwa [gP,<-oh]at this)
     (fun i x hi=>hr _ _ (hget i x hi))
theorem afZ{P:Program}{H:List (Ob K)}(hs:aS D ρ S w H){t:TypeId}{x v:AV K}{lo hi:Option (AV K)}{c:Bool}{X:Value}{LO HI:Option Value}
 (h:Ji P H t x lo hi=some (v,c)) (hc:c=true) (hx:Rep D ρ S w x X) (hlo:qg D ρ S w lo LO) (hhi:qg D ρ S w hi HI):
 ∃u,(Instr.sliceAt t X LO HI none).run P w=.ok u w/\Rep D ρ S w v u:=by unfold Ji at h;cases h
theorem af0{P:Program}{H:List (Ob K)}(hD:bR D)(hs:aS D ρ S w H){t:TypeId}{x v:AV K}{lo hi:Option (AV K)}{c:Bool}{X:Value}{LO HI:Option Value}
 (h:Jh P t x lo hi=some (v,c)) (hc:c=true) (hx:Rep D ρ S w x X) (hlo:qg D ρ S w lo LO) (hhi:qg D ρ S w hi HI):
 ∃u,(Instr.sliceAt t X LO HI none).run P w=.ok u w/\Rep D ρ S w v u:=by
 unfold Jh at h;split at h
 ·rename_i s hu;obtain rfl:=iD hx;split at h
  ·rename_i l hh' hl hh;simp only[av,aZ]at h;obtain⟨rfl,rfl⟩:=h;obtain⟨h1,h2,h3⟩:=QG hc;refine⟨_,?_,.str _⟩;have:=Kx (P:=P) (isS:=false) (len:=s.length) (cap:=s.length) hl hh hlo hhi h1 h2 h3 (fh _);simp[Instr.sliceAt,Instr.slice,gh hu,zn,this,Qj]
  ·cases h
 ·rename_i e cc s hu;split at h
  ·rename_i hsz;split at h
   ·rename_i l hh' hl hh;simp only[av,aZ]at h;obtain⟨rfl,rfl⟩:=h;obtain⟨h1,h2,h3⟩:=QG hc;have hlen:((s.take hh'.toNat).drop l.toNat).length=hh'.toNat-l.toNat:=by simp;omega
    cases hx with
    |fc a cap=>
     have:=Kx (P:=P) (isS:=true) (len:=0) (cap:=cap) hl hh hlo hhi h1 h2 h3 (dN _);refine⟨_,by simp[Instr.sliceAt,Instr.slice,gh hu,pQ hsz,this];rfl,?_⟩;have:hh'.toNat-l.toNat=0:=by simp at h3;omega
     simp only[List.take_nil,List.drop_nil];rw[this];exact .fc _ _
    |an val hS hcap hl' hca hr=>
     rename_i b o cap;have hb:=Kx (P:=P) (isS:=true) (len:=s.length) (cap:=cap) hl hh hlo hhi h1 h2 h3 hcap;refine⟨.slice (if cap=l.toNat then some ⟨b,o,none⟩else some ⟨b,o+l.toNat*K.sz cc,none⟩) (hh'.toNat-l.toNat) (cap-l.toNat),?_,?_⟩
     ·simp[Instr.sliceAt,Instr.slice,gh hu,pQ hsz,hb]
     ·rw[<-hlen];by_cases h0:(s.take hh'.toNat).drop l.toNat=[]
      ·rw[h0];exact .fc _ _
      ·have hne:0<hh'.toNat-l.toNat:=by rw[<-hlen];exact List.length_pos_iff.2 h0
       rw[aT (by omega)];have hget:∀i x,((s.take hh'.toNat).drop l.toNat)[i]?=some x->s[l.toNat+i]?=some x:=fun i x hi=>by
        simp only[iY,fa]at hi;split at hi
        ·exact hi
        ·simp at hi
       exact .an (fun i=>val (l.toNat+i)) hS (by rw[hlen];omega) (fun i x hi=>hl' _ _ (hget i x hi))
        (fun i hi=>by
          have:=hca (l.toNat+i) (by rw[hlen]at hi;omega)
          rwa [gP,<-oh]at this)
        (fun i x hi=>hr _ _ (hget i x hi))
   ·cases h
  ·cases h
 ·cases h
def SliceAt(D:bH K)(ρ:List Value)(S:Nat->Prop)(w:World)(c:K.U)(l:List (K.El c))(X:Value):Prop:=
 ∃a cap,X=.slice a l.length cap/\(l≠[]->∃b o,a=some ⟨b,o,none⟩/\∀i x,l[i]?=some x->∃vs,vs.length=K.sz c/\iE w b (o+i*K.sz c) vs/\bh D ρ S w (D.cells c x) vs)
theorem QH(hD:bR D){c:K.U}{l:List (K.El c)}{X:Value}(h:Rep D ρ S w (.an c l) X):SliceAt D ρ S w c l X:=by
 cases h with
 |fc a cap=>exact⟨a,cap,rfl,fun h=>absurd rfl h⟩
 |an val hS hcap hl hc hr=>
  exact⟨_,_,rfl,fun _=>⟨_,_,rfl,fun i x hx=>⟨val i,by rw[hl i x hx,hD.len],hc i (bD.1 hx).1,(hl i x hx).symm,hr i x hx⟩⟩⟩
theorem QI(hD:bR D){H:List (Ob K)}(hs:aS D ρ S w H){h:Nat}{c:K.U}{l:List (K.El c)}{X:Value}(ho:H[h]?=some (.arr c l))(hp:ρ[h]?=some X):SliceAt D ρ S w c l X:=by
 rcases wO hs ho hp with⟨rfl,rfl⟩|⟨b,o,cap,vs,T,fr,rfl,hblk,⟨hcap,fU⟩,hsz,hfr,hall⟩
 ·exact⟨none,0,rfl,fun h=>absurd rfl h⟩
 ·refine⟨_,_,rfl,fun _=>⟨b,o,rfl,fun i x hx=>⟨db vs (o+i*K.sz c) (K.sz c),?_,v8 hblk _ _,hall i x hx⟩⟩⟩;rw[<-(hall i x hx).1,hD.len]
theorem Qk(hD:bR D){H:List (Ob K)}(hs:aS D ρ S w H){c:K.U}{x:AV K}{l:List (K.El c)}{X:Value}(h:elems H c x=some l)(hx:Rep D ρ S w x X):SliceAt D ρ S w c l X:=by
 unfold elems at h;split at h
 ·simp only[av]at h;subst h;cases hx;exact⟨none,0,rfl,fun h=>absurd rfl h⟩
 ·rename_i c' l';cases hd:K.jS c' c with
  |isFalse hn=>simp[hd]at h
  |isTrue he=>subst he;simp[hd]at h;subst h;exact QH hD hx
 ·rename_i hh;split at h
  ·rename_i c' l' hob;cases hd:K.jS c' c with
   |isFalse hn=>simp[hd]at h
   |isTrue he=>subst he;simp[hd]at h;subst h;exact QI hD hs hob (lO hx).1
  ·cases h
 ·cases h
theorem QJ{P:Program}{t ty e:TypeId}(ht:P.underlying t=some (.slice e)){c:K.U}{l:List (K.El c)}{X:Value}(h:SliceAt D ρ S w c l X):
 (Builtin.len_ #[t] ty #[X]).run P w=.ok (.int .i64 (l.length:Int)) w:=by
 obtain⟨a,cap,rfl,-⟩:=h;simp[Builtin.len_,gh ht,goInt]
theorem bytes_at(hD:bR D){c:K.U}{f:K.El c->UInt8}{g:UInt8->K.El c}(hb:D.byte c=some (f,g)){l:List (K.El c)}{a:Option Addr}{n cap:Nat}(h:SliceAt D ρ S w c l (.slice a n cap))(hne:l≠[]):
 n=l.length/\∃b o,a=some ⟨b,o,none⟩/\∀i,i<l.length->w.cell? ⟨b,o+i,none⟩=some (.int .u8 (((l.map f).map fun b=>(b.toNat:Int)).getD i 0)):=by
 obtain⟨a',cap',e,h⟩:=h;simp only[Value.slice.injEq]at e;obtain⟨rfl,rfl,rfl⟩:=e;obtain⟨b,o,rfl,h2⟩:=h hne;refine⟨rfl,b,o,rfl,fun i hi=>?_⟩;obtain⟨vs,hlen,hc,hr⟩:=h2 i l[i] (cH hi);have h1:K.sz c=1:=by rw[<-hD.len c l[i],(hD.byte c f g hb).1];rfl
 rw[h1,rG]at hc;rw[(hD.byte c f g hb).1]at hr;obtain⟨x,r,rfl,hx,-⟩:=hr.gp;have:=hc 0 x rfl;rw[Nat.add_zero]at this;rw[this,gQ hx];simp[List.getD,hi]
theorem af1{P:Program}(hD:bR D){src dst e:TypeId}(h1:P.underlying src=some (.slice e))(h2:P.underlying dst=some .string)(h3:P.underlying e=some (.int .u8))
 {c:K.U} {f:K.El c->UInt8} {g:UInt8->K.El c} (hb:D.byte c=some (f,g)) {l:List (K.El c)} {X:Value} (h:SliceAt D ρ S w c l X):
 (convert src dst X).run P w=.ok (.string ⟨(l.map f).toArray⟩) w:=by
 obtain⟨a,cap,rfl,h'⟩:=h;by_cases hne:l=[]
 ·subst hne;cases a with
  |none=>rw[Go.run_convert_bytes_nil w src e h1 h3 _ _ dst h2];rfl
  |some a=>rw[run_convert_bytes_string w src dst e _ _ _ h1 h3 h2];simp[Conv.bytesToString,loadCells,loadCellsFrom,ByteArray.empty,ByteArray.emptyWithCapacity];rfl
 ·obtain⟨-,b,o,rfl,hc⟩:=bytes_at hD hb ⟨a,cap,rfl,h'⟩ hne;rw[run_convert_bytes_arg w src e h1 h3 b o l.length cap ((l.map f).map fun b=>(b.toNat:Int)) (by simp) hc dst h2];congr 2;apply ByteArray.ext;simp[strOfNums,List.map_map]
theorem QK{P:Program}{k:IntKind}{a b:Int}{ats:Array TypeId}{ty:TypeId}:
 (Builtin.min_ ats ty #[.int k a,.int k b]).run P w=.ok (.int k (cond (decide (b<a)) b a)) w/\(Builtin.max_ ats ty #[.int k a,.int k b]).run P w=.ok (.int k (cond (decide (a<b)) b a)) w:=by
 constructor
 ·simp[Builtin.min_,Builtin.min2,List.foldlM]
 ·simp[Builtin.max_,Builtin.max2,List.foldlM]
theorem QL{ev:Operand->AV K}{ρe:Operand->Value}(h:∀x,Rep D ρ S w (ev x) (ρe x))(l:List Operand):bh D ρ S w (l.map ev) (l.map ρe):=
 ⟨by simp,fun i v x hv hx=>by
   simp only[ik,dy]at hv hx;obtain⟨o,ho,rfl⟩:=hv;obtain⟨o',ho',rfl⟩:=hx;rw[ho]at ho';simp at ho';subst ho';exact h o⟩
theorem Ee{ev:Operand->AV K}{ρe:Operand->Value}(h:∀x,Rep D ρ S w (ev x) (ρe x))(o:Option Operand):qg D ρ S w (o.map ev) (o.map ρe):=by
 cases o with
 |none=>exact .none
 |some x=>exact .some (h x)
theorem kK{α:Type}{P:Program}{x:Sem α}{f:α->Next}{a:α}(h:x.run P w=.ok a w):(do pure (f (<-x)):Sem Next).run P w=.ok (f a) w:=by simp[h]
end Go.V
namespace Go.V
open Go
variable {K :dh}{ρ:List Value}{S:Nat->Prop}{w:World}
theorem OL{cx:Cx K}{H:List (Ob K)}(hD:bR cx.D)(hs:aS cx.D ρ S w H){ev:Operand->AV K}{ρe:Operand->Value}(hev:∀x,Rep cx.D ρ S w (ev x) (ρe x)){o:Oper}{v:AV K}{c:Bool}
 (h:uh cx ev H o.op=some (v,c)) (hc:c=true):∃u,(execOp ρe o).run cx.P w=.ok (.value u) w/\Rep cx.D ρ S w v u:=by
 unfold uh at h;unfold execOp;split at h
 all_goals first|(cases h;done)|(rename_i hop;rw[hop];dsimp only)
 ·
  simp only[av,aZ]at h;obtain⟨rfl,rfl⟩:=h;exact⟨_,rfl,hev _⟩
 ·simp only[av,aZ]at h;obtain⟨rfl,rfl⟩:=h;exact⟨_,rfl,hev _⟩
 ·
  obtain⟨u,hu,hr⟩:=afT h hc (hev _) (hev _);exact⟨u,kK (f:=.value) hu,hr⟩
 ·
  obtain⟨u,hu,hr⟩:=afU (P:=cx.P) h (hev _);exact⟨u,kK (f:=.value) hu,hr⟩
 ·
  rename_i src dst x;have hx:=hev x;split at h
  ·rename_i d k k' n hsrc hd he;rw[he]at hx;simp only[av,aZ]at h;obtain⟨rfl,rfl⟩:=h;rw[gQ hx];refine⟨_,kK (f:=.value) (a:=.int k (k.wrap n)) ?_,.int _ _⟩;simp[convert,gh hd,gh hsrc,Conv.intToInt]
  ·rename_i d s hsrc hd he;rw[he]at hx;simp only[av,aZ]at h;obtain⟨rfl,rfl⟩:=h;rw[iD hx];refine⟨_,kK (f:=.value) (a:=.string ⟨s.toArray⟩) ?_,.str _⟩;simp[convert,gh hd,gh hsrc]
  ·rename_i e h1 h2 hns;split at h
   ·rename_i cc h3 hty;split at h
    ·rename_i f g l hb hl;simp only[av,aZ]at h;obtain⟨rfl,rfl⟩:=h;exact⟨_,kK (f:=.value) (af1 hD h1 h2 h3 hb (Qk hD hs hl hx)),.str _⟩
    ·cases h
   ·cases h
  ·cases h
 ·
  rename_i t i;have hx:=hev t;split at h
  ·rename_i l he;rw[he]at hx;simp only[dy,aZ]at h;obtain⟨y,hy,rfl,rfl⟩:=h;generalize ρe t=X at hx⊢;cases hx with
   |bC hl hr=>
    rename_i vs;have hi:i<vs.length:=by rw[<-hl];exact(bD.1 hy).1
    refine⟨vs[i],kK (f:=.value) ?_,hr i y _ hy (cH hi)⟩;simp[Instr.extract,hi]
  ·cases h
 ·
  rename_i s x f;simp only[dy,aZ]at h;obtain⟨y,hy,rfl,rfl⟩:=h;obtain⟨u,hu,hr⟩:=afX hy (hev x);exact⟨u,kK (f:=.value) hu,hr⟩
 ·
  rename_i s x f;split at h
  ·rename_i fd cs hf he;simp only[dy,aZ]at h;obtain⟨y,hy,rfl,rfl⟩:=h;have hx:=hev x;rw[he]at hx;generalize ρe x=X at hx⊢;cases hx with
   |agg hl hr=>
    rename_i vs;obtain⟨u,hu,hr'⟩:=Ku (P:=cx.P) (vs:=vs.toArray) hy ⟨by simpa using hl,by simpa using hr⟩;refine⟨u,kK (f:=.value) ?_,hr'⟩;unfold Dy at hf;split at hf
    ·rename_i fs hu';simp[Instr.field,gh hu',hf,asAgg,hu]
    ·cases hf
  ·cases h
 ·
  rename_i t p;split at h
  ·rename_i y hy;simp only[av,aZ]at h;obtain⟨rfl,rfl⟩:=h;obtain⟨u,hu,hr⟩:=QF hD hs hy (hev p);exact⟨u,kK (f:=.value) hu,hr⟩
  ·subst hc;obtain⟨u,hu,hr⟩:=afW hD hs h (hev p);exact⟨u,kK (f:=.value) hu,hr⟩
 ·
  rename_i t x i;obtain⟨u,hu,hr⟩:=afY hD hs h hc (hev x) (hev i);exact⟨u,kK (f:=.value) hu,hr⟩
 ·
  rename_i t x i;have hx:=hev x;have hi:=hev i;split at h
  ·rename_i s k n hu he hi';rw[he]at hx;rw[hi']at hi;simp only[av,aZ]at h;obtain⟨rfl,rfl⟩:=h;rw[iD hx,gQ hi];obtain⟨h1,h2,h3⟩:=zp hc;refine⟨_,kK (f:=.value) (a:=.int .u8 ((s.getD n.toNat 0).toNat:Int)) ?_,.int _ _⟩;have hg:(ByteArray.mk s.toArray)[n.toNat]?=some (s.getD n.toNat 0):=by
    rw[getElem?_pos (c:=ByteArray.mk s.toArray) (i:=n.toNat) (h:=by simpa [ByteArray.size]using h3)];simp[List.getD,h3,ByteArray.getElem_eq_getElem_data]
   simp[Instr.index,asIntOf,gh hu,h1,hg]
  ·cases h
 ·
  rename_i t x lo hi;split at h
  ·rename_i r hr0;simp only[av]at h;subst h;obtain⟨u,hu,hr⟩:=af0 hD hs hr0 hc (hev x) (Ee hev lo) (Ee hev hi);exact⟨u,kK (f:=.value) hu,hr⟩
  ·split at h
   ·obtain⟨u,hu,hr⟩:=afZ hs h hc (hev x) (Ee hev lo) (Ee hev hi);exact⟨u,kK (f:=.value) hu,hr⟩
   ·cases h
 ·
  rename_i x;have hx:=hev x;split at h
  ·rename_i hh o he;simp only[av,aZ]at h;obtain⟨rfl,rfl⟩:=h;rw[he]at hx;obtain⟨b,e,hb⟩:=rm hx;rw[e];exact⟨_,rfl,.ptr hb⟩
  ·rename_i c' y o he;simp only[av,aZ]at h;obtain⟨rfl,rfl⟩:=h;rw[he]at hx;obtain⟨b,o',vs,e,-⟩:=Qy hx;rw[e]at hx⊢;exact⟨_,rfl,hx⟩
  ·rename_i hh s i o he;simp only[av,aZ]at h;obtain⟨rfl,rfl⟩:=h;rw[he]at hx;obtain⟨b,o',n,cp,e,hb,hi⟩:=tX hx;rw[e]at hx⊢;exact⟨_,rfl,hx⟩
  ·cases h
 ·
  rename_i f first caps
  split at h
  ·rename_i hf;simp only[av,aZ]at h;obtain⟨rfl,rfl⟩:=h;have h0:first= #[]:=by simpa using hf
   subst h0;have:=QL hev caps.toList;refine⟨_,kK (f:=.value) (a:=.func (.func f) #[] (caps.toList.map ρe).toArray) ?_,.fn this.1 this.2⟩;simp[Instr.makeFunc];cases caps;simp
  ·cases h
 ·
  rename_i args argTypes;split at h
  ·rename_i x t hx ht;have hxx:=hev x;have ea:args= #[x]:=by rw[<-Array.toArray_toList (xs:=args),hx]
   have et:argTypes= #[t]:=by rw[<-Array.toArray_toList (xs:=argTypes),ht]
   subst ea;subst et;have key:∀(n:Nat),(Builtin.len_ #[t] o.type #[ρe x]).run cx.P w=.ok (.int .i64 (n:Int)) w->
    ((do let d<-resolve ρe {callee:=.builtin .len,args:= #[x],argTypes:= #[t]} o.type;invoke d.target d.args:Sem Next)).run cx.P w=.ok (.value (.int .i64 (n:Int))) w:=fun n hn=>by
    simp[resolve,invoke,builtin,hn]
   split at h
   ·rename_i s hu he;rw[he]at hxx;simp only[av,aZ]at h;obtain⟨rfl,rfl⟩:=h;exact⟨_,key _ (by rw[iD hxx];simp[Builtin.len_,gh hu,goInt,zn]),.int _ _⟩
   ·rename_i e hu he;rw[he]at hxx;simp only[av,aZ]at h;obtain⟨rfl,rfl⟩:=h;refine⟨_,key 0 ?_,.int _ _⟩;generalize ρe x=X at hxx⊢;cases hxx;simp[Builtin.len_,gh hu,goInt]
   ·rename_i e c' l hu he;rw[he]at hxx;simp only[av,aZ]at h;obtain⟨rfl,rfl⟩:=h;exact⟨_,key _ (QJ hu (QH hD hxx)),.int _ _⟩
   ·rename_i e v1 v2 v3 v4 hu he;rw[he]at hxx;simp only[av,aZ]at h;obtain⟨rfl,rfl⟩:=h;refine⟨_,key (v4-v3) ?_,.int _ _⟩;generalize ρe x=X at hxx⊢;cases hxx;simp[Builtin.len_,gh hu,goInt]
   ·rename_i e hh hu he;rw[he]at hxx;split at h
    ·rename_i c' l hob;simp only[av,aZ]at h;obtain⟨rfl,rfl⟩:=h;exact⟨_,key _ (QJ hu (QI hD hs hob (lO hxx).1)),.int _ _⟩
    ·rename_i c' l hob;simp only[av,aZ]at h;obtain⟨rfl,rfl⟩:=h;have hT:Tree cx.D w c' l (ρe x):=hs.ob _ _ _ hob (lO hxx).1;obtain⟨a,cp,e⟩:=OD hT;exact⟨_,key _ (by rw[e];simp[Builtin.len_,gh hu,goInt]),.int _ _⟩
    ·cases h
   ·cases h
  ·cases h
 all_goals
  rename_i args argTypes;split at h
  ·rename_i x y hxy;have hxx:=hev x;have Ky:=hev y;have ea:args= #[x,y]:=by rw[<-Array.toArray_toList (xs:=args),hxy]
   subst ea;split at h
   ·rename_i k a k' b he1 he2;rw[he1]at hxx;rw[he2]at Ky;split at h
    ·rename_i hk;subst hk;simp only[av,aZ]at h;obtain⟨rfl,rfl⟩:=h
     first
      |(refine⟨_,?_,.int _ _⟩;simp[resolve,invoke,builtin,gQ hxx,gQ Ky,QK.1];done)
      |(refine⟨_,?_,.int _ _⟩;simp[resolve,invoke,builtin,gQ hxx,gQ Ky,QK.2];done)
    ·cases h
   ·cases h
  ·cases h
end Go.V
