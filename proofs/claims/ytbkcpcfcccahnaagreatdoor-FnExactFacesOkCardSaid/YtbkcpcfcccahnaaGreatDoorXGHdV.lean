/-
  The contracts of the program's decimals and of strings.Split at a dot.
-/
import Derived.Test.YtbkcpcfcccahnaaGreatDoorXGhand4
import Derived.Shelf.Abstract
import Derived.Shelf.Strconv.Itoa4
import Derived.Shelf.Strconv.ParseIntPublic10
import Derived.Shelf.Strings.Split
import Derived.Lib.AppendIntMem
import Derived.Lib.ParseIntBTie
import Derived.Lib.LaidTab
import Derived.Stop.IfaceNil
import Derived.WalkKit
import Derived.BigCall
import Derived.Ground.NamesProg
import Derived.Test.YtbkcpcfcccahnaaGreatDoorProg
set_option linter.unusedVariables false
noncomputable def con_i_decimal (m : Int → Option (List UInt8)) : Go.V.ConD Go.V.K := { f := 129, sh := ⟨[.int .i64], []⟩, R := List UInt8, run := fun x => m x.1.1, dflt := default, out := fun r => (Go.V.Sh.enc Go.V.D (.str) r, Go.V.OSh.encs Go.V.D [] ()) }
noncomputable def con_i_readDecimal (m : List UInt8 → Option (Int × Bool)) : Go.V.ConD Go.V.K := { f := 106, sh := ⟨[.str], []⟩, R := Int × Bool, run := fun x => m x.1.1, dflt := default, out := fun r => (Go.V.Sh.enc Go.V.D (.tup [.int .i64, .bool]) (r.1, (r.2, ())), Go.V.OSh.encs Go.V.D [] ()) }
noncomputable def con_strings_Split (m : List UInt8 → List UInt8 → Option (List (List UInt8))) : Go.V.ConD Go.V.K := { f := 105, sh := ⟨[.str, .str], []⟩, R := List (List UInt8), run := fun x => m x.1.1 x.1.2.1, dflt := default, out := fun r => (Go.V.Sh.enc Go.V.D (.dsl Go.V.U.str) r, Go.V.OSh.encs Go.V.D [] ()) }
namespace Go.Proofs
open Go.RowKit Go.Shelf Go.V Go.Lib Go.Sort
theorem Tryz_laysFIF {a : Option Func} {x y : Func} (h : a = some x) (k : x = y) : a = some y := h.trans (congrArg some k)
def Tryz.laysFI_ren : Go.Shelf.Ren := ⟨fun | 173 => 147 | 246 => 161 | 283 => 175 | 284 => 176 | 285 => 177 | 286 => 178 | 129 => 189 | 317 => 193 | 318 => 194 | 319 => 195 | 320 => 196 | 337 => 203 | 338 => 204 | n => n, fun | 171 => 184 | 53 => 169 | 37 => 82 | 173 => 187 | 212 => 210 | 51 => 199 | 213 => 211 | 46 => 105 | 232 => 222 | 233 => 223 | n => n, fun | 17 => 5 | 18 => 6 | 19 => 7 | n => n⟩
theorem Tryz.laysFI : Go.Proofs.LaysM.n173 Tryz.prog Tryz.laysFI_ren := {
  mixed := by kernel_rfl
  f129 := Tryz_laysFIF Tryz.func189 (by kernel_rfl)
  f173 := Tryz_laysFIF Tryz.func147 (by kernel_rfl)
  f246 := Tryz_laysFIF Tryz.func161 (by kernel_rfl)
  f283 := Tryz_laysFIF Tryz.func175 (by kernel_rfl)
  f284 := Tryz_laysFIF Tryz.func176 (by kernel_rfl)
  f285 := Tryz_laysFIF Tryz.func177 (by kernel_rfl)
  f286 := Tryz_laysFIF Tryz.func178 (by kernel_rfl)
  f317 := Tryz_laysFIF Tryz.func193 (by kernel_rfl)
  f318 := Tryz_laysFIF Tryz.func194 (by kernel_rfl)
  f319 := Tryz_laysFIF Tryz.func195 (by kernel_rfl)
  f320 := Tryz_laysFIF Tryz.func196 (by kernel_rfl)
  f337 := Tryz_laysFIF Tryz.func203 (by kernel_rfl)
  f338 := Tryz_laysFIF Tryz.func204 (by kernel_rfl)
  t0 := Tryz.underlying0
  a0 := Tryz.isAgg0
  z0 := Tryz.sizeOf0
  v0 := Tryz.zeroValue0
  t2 := Tryz.underlying2
  a2 := Tryz.isAgg2
  z2 := Tryz.sizeOf2
  v2 := Tryz.zeroValue2
  t3 := Tryz.underlying3
  a3 := Tryz.isAgg3
  z3 := Tryz.sizeOf3
  v3 := Tryz.zeroValue3
  t4 := Tryz.underlying4
  a4 := Tryz.isAgg4
  z4 := Tryz.sizeOf4
  v4 := Tryz.zeroValue4
  t5 := Tryz.underlying5
  a5 := Tryz.isAgg5
  z5 := Tryz.sizeOf5
  v5 := Tryz.zeroValue5
  t9 := Tryz.underlying9
  a9 := Tryz.isAgg9
  z9 := Tryz.sizeOf9
  v9 := Tryz.zeroValue9
  t20 := Tryz.underlying20
  a20 := Tryz.isAgg20
  z20 := Tryz.sizeOf20
  v20 := Tryz.zeroValue20
  t37 := Tryz.underlying82
  a37 := Tryz.isAgg82
  z37 := Tryz.sizeOf82
  v37 := Tryz.zeroValue82
  t46 := Tryz.underlying105
  a46 := Tryz.isAgg105
  z46 := Tryz.sizeOf105
  v46 := Tryz.zeroValue105
  t51 := Tryz.underlying199
  a51 := Tryz.isAgg199
  z51 := Tryz.sizeOf199
  v51 := Tryz.zeroValue199
  t53 := Tryz.underlying169
  a53 := Tryz.isAgg169
  z53 := Tryz.sizeOf169
  v53 := Tryz.zeroValue169
  t171 := Tryz.underlying184
  a171 := Tryz.isAgg184
  z171 := Tryz.sizeOf184
  v171 := Tryz.zeroValue184
  t173 := Tryz.underlying187
  a173 := Tryz.isAgg187
  z173 := Tryz.sizeOf187
  v173 := Tryz.zeroValue187
  t212 := Tryz.underlying210
  a212 := Tryz.isAgg210
  z212 := Tryz.sizeOf210
  v212 := Tryz.zeroValue210
  t213 := Tryz.underlying211
  a213 := Tryz.isAgg211
  z213 := Tryz.sizeOf211
  t232 := Tryz.underlying222
  a232 := Tryz.isAgg222
  z232 := Tryz.sizeOf222
  v232 := Tryz.zeroValue222
  t233 := Tryz.underlying223
  a233 := Tryz.isAgg223
  z233 := Tryz.sizeOf223
  v233 := Tryz.zeroValue223
  g17 := by kernel_rfl
  g18 := by kernel_rfl
  g19 := by kernel_rfl
  i0 := by kernel_rfl
  i2 := by kernel_rfl
  i3 := by kernel_rfl
  i4 := by kernel_rfl
  i5 := by kernel_rfl
  i9 := by kernel_rfl
  i20 := by kernel_rfl
  i37 := by kernel_rfl
  i46 := by kernel_rfl
  i51 := by kernel_rfl
  i53 := by kernel_rfl
  i171 := by kernel_rfl
  i173 := by kernel_rfl
  i212 := by kernel_rfl
  i232 := by kernel_rfl
  i233 := by kernel_rfl
  m17 := by kernel_rfl
  m18 := by kernel_rfl
  m19 := by kernel_rfl }
theorem Tryz_laysPIF {a : Option Func} {x y : Func} (h : a = some x) (k : x = y) : a = some y := h.trans (congrArg some k)
def Tryz.laysPI_ren : Go.Shelf.Ren := ⟨fun | 174 => 128 | 247 => 145 | 245 => 146 | 287 => 156 | 279 => 157 | 280 => 158 | 281 => 159 | 282 => 160 | 321 => 170 | 322 => 171 | 316 => 172 | 171 => 174 | 205 => 173 | 243 => 192 | 246 => 161 | 283 => 175 | 284 => 176 | 285 => 177 | 286 => 178 | 129 => 189 | 317 => 193 | 318 => 194 | 319 => 195 | 320 => 196 | 337 => 203 | 338 => 204 | n => n, fun | 75 => 112 | 85 => 147 | 167 => 168 | 53 => 169 | 175 => 170 | 46 => 105 | 168 => 172 | 37 => 82 | 210 => 181 | 127 => 136 | 145 => 208 | 143 => 206 | 171 => 184 | 173 => 187 | 212 => 210 | 51 => 199 | 213 => 211 | 232 => 222 | 233 => 223 | 80 => 116 | n => n, fun | 15 => 1 | 16 => 2 | 17 => 5 | 18 => 6 | 19 => 7 | n => n⟩
theorem Tryz.laysPI : Go.Proofs.LaysC.n174 Tryz.prog Tryz.laysPI_ren := {
  mixed := by kernel_rfl
  f129 := Tryz_laysPIF Tryz.func189 (by kernel_rfl)
  f171 := Tryz_laysPIF Tryz.func174 (by kernel_rfl)
  f174 := Tryz_laysPIF Tryz.func128 (by kernel_rfl)
  f205 := Tryz_laysPIF Tryz.func173 (by kernel_rfl)
  f243 := Tryz_laysPIF Tryz.func192 (by kernel_rfl)
  f245 := Tryz_laysPIF Tryz.func146 (by kernel_rfl)
  f246 := Tryz_laysPIF Tryz.func161 (by kernel_rfl)
  f247 := Tryz_laysPIF Tryz.func145 (by kernel_rfl)
  f279 := Tryz_laysPIF Tryz.func157 (by kernel_rfl)
  f280 := Tryz_laysPIF Tryz.func158 (by kernel_rfl)
  f281 := Tryz_laysPIF Tryz.func159 (by kernel_rfl)
  f282 := Tryz_laysPIF Tryz.func160 (by kernel_rfl)
  f283 := Tryz_laysPIF Tryz.func175 (by kernel_rfl)
  f284 := Tryz_laysPIF Tryz.func176 (by kernel_rfl)
  f285 := Tryz_laysPIF Tryz.func177 (by kernel_rfl)
  f286 := Tryz_laysPIF Tryz.func178 (by kernel_rfl)
  f287 := Tryz_laysPIF Tryz.func156 (by kernel_rfl)
  f316 := Tryz_laysPIF Tryz.func172 (by kernel_rfl)
  f317 := Tryz_laysPIF Tryz.func193 (by kernel_rfl)
  f318 := Tryz_laysPIF Tryz.func194 (by kernel_rfl)
  f319 := Tryz_laysPIF Tryz.func195 (by kernel_rfl)
  f320 := Tryz_laysPIF Tryz.func196 (by kernel_rfl)
  f321 := Tryz_laysPIF Tryz.func170 (by kernel_rfl)
  f322 := Tryz_laysPIF Tryz.func171 (by kernel_rfl)
  f337 := Tryz_laysPIF Tryz.func203 (by kernel_rfl)
  f338 := Tryz_laysPIF Tryz.func204 (by kernel_rfl)
  t0 := Tryz.underlying0
  a0 := Tryz.isAgg0
  z0 := Tryz.sizeOf0
  v0 := Tryz.zeroValue0
  t2 := Tryz.underlying2
  a2 := Tryz.isAgg2
  z2 := Tryz.sizeOf2
  v2 := Tryz.zeroValue2
  t3 := Tryz.underlying3
  a3 := Tryz.isAgg3
  z3 := Tryz.sizeOf3
  v3 := Tryz.zeroValue3
  t4 := Tryz.underlying4
  a4 := Tryz.isAgg4
  z4 := Tryz.sizeOf4
  v4 := Tryz.zeroValue4
  t5 := Tryz.underlying5
  a5 := Tryz.isAgg5
  z5 := Tryz.sizeOf5
  v5 := Tryz.zeroValue5
  t9 := Tryz.underlying9
  a9 := Tryz.isAgg9
  z9 := Tryz.sizeOf9
  v9 := Tryz.zeroValue9
  t20 := Tryz.underlying20
  a20 := Tryz.isAgg20
  z20 := Tryz.sizeOf20
  v20 := Tryz.zeroValue20
  t21 := Tryz.underlying21
  a21 := Tryz.isAgg21
  z21 := Tryz.sizeOf21
  v21 := Tryz.zeroValue21
  t37 := Tryz.underlying82
  a37 := Tryz.isAgg82
  z37 := Tryz.sizeOf82
  v37 := Tryz.zeroValue82
  t46 := Tryz.underlying105
  a46 := Tryz.isAgg105
  z46 := Tryz.sizeOf105
  v46 := Tryz.zeroValue105
  t51 := Tryz.underlying199
  a51 := Tryz.isAgg199
  z51 := Tryz.sizeOf199
  v51 := Tryz.zeroValue199
  t53 := Tryz.underlying169
  a53 := Tryz.isAgg169
  z53 := Tryz.sizeOf169
  v53 := Tryz.zeroValue169
  t75 := Tryz.underlying112
  a75 := Tryz.isAgg112
  z75 := Tryz.sizeOf112
  v75 := Tryz.zeroValue112
  t85 := Tryz.underlying147
  a85 := Tryz.isAgg147
  z85 := Tryz.sizeOf147
  v85 := Tryz.zeroValue147
  t127 := Tryz.underlying136
  a127 := Tryz.isAgg136
  z127 := Tryz.sizeOf136
  v127 := Tryz.zeroValue136
  t143 := Tryz.underlying206
  a143 := Tryz.isAgg206
  z143 := Tryz.sizeOf206
  v143 := Tryz.zeroValue206
  t145 := Tryz.underlying208
  a145 := Tryz.isAgg208
  z145 := Tryz.sizeOf208
  v145 := Tryz.zeroValue208
  t167 := Tryz.underlying168
  a167 := Tryz.isAgg168
  z167 := Tryz.sizeOf168
  v167 := Tryz.zeroValue168
  t168 := Tryz.underlying172
  a168 := Tryz.isAgg172
  z168 := Tryz.sizeOf172
  v168 := Tryz.zeroValue172
  t171 := Tryz.underlying184
  a171 := Tryz.isAgg184
  z171 := Tryz.sizeOf184
  v171 := Tryz.zeroValue184
  t173 := Tryz.underlying187
  a173 := Tryz.isAgg187
  z173 := Tryz.sizeOf187
  v173 := Tryz.zeroValue187
  t175 := Tryz.underlying170
  a175 := Tryz.isAgg170
  z175 := Tryz.sizeOf170
  v175 := Tryz.zeroValue170
  t210 := Tryz.underlying181
  a210 := Tryz.isAgg181
  z210 := Tryz.sizeOf181
  v210 := Tryz.zeroValue181
  t212 := Tryz.underlying210
  a212 := Tryz.isAgg210
  z212 := Tryz.sizeOf210
  v212 := Tryz.zeroValue210
  t213 := Tryz.underlying211
  a213 := Tryz.isAgg211
  z213 := Tryz.sizeOf211
  t232 := Tryz.underlying222
  a232 := Tryz.isAgg222
  z232 := Tryz.sizeOf222
  v232 := Tryz.zeroValue222
  t233 := Tryz.underlying223
  a233 := Tryz.isAgg223
  z233 := Tryz.sizeOf223
  v233 := Tryz.zeroValue223
  g15 := by kernel_rfl
  g16 := by kernel_rfl
  g17 := by kernel_rfl
  g18 := by kernel_rfl
  g19 := by kernel_rfl
  t80 := Tryz.underlying116
  a80 := Tryz.isAgg116
  z80 := Tryz.sizeOf116
  v80 := Tryz.zeroValue116
  i0 := by kernel_rfl
  i2 := by kernel_rfl
  i3 := by kernel_rfl
  i4 := by kernel_rfl
  i5 := by kernel_rfl
  i9 := by kernel_rfl
  i20 := by kernel_rfl
  i21 := by kernel_rfl
  i37 := by kernel_rfl
  i46 := by kernel_rfl
  i51 := by kernel_rfl
  i53 := by kernel_rfl
  i75 := by kernel_rfl
  i80 := by kernel_rfl
  i85 := by kernel_rfl
  i127 := by kernel_rfl
  i143 := by kernel_rfl
  i145 := by kernel_rfl
  i167 := by kernel_rfl
  i168 := by kernel_rfl
  i171 := by kernel_rfl
  i173 := by kernel_rfl
  i175 := by kernel_rfl
  i210 := by kernel_rfl
  i212 := by kernel_rfl
  i232 := by kernel_rfl
  i233 := by kernel_rfl
  m15 := by kernel_rfl
  m16 := by kernel_rfl
  m17 := by kernel_rfl
  m18 := by kernel_rfl
  m19 := by kernel_rfl
  c0 := by kernel_rfl
  c2 := by kernel_rfl
  c3 := by kernel_rfl
  c4 := by kernel_rfl
  c5 := by kernel_rfl
  c9 := by kernel_rfl
  c20 := by kernel_rfl
  c21 := by kernel_rfl
  c37 := by kernel_rfl
  c46 := by kernel_rfl
  c51 := by kernel_rfl
  c53 := by kernel_rfl
  c75 := by kernel_rfl
  c80 := by kernel_rfl
  c85 := by kernel_rfl
  c127 := by kernel_rfl
  c143 := by kernel_rfl
  c145 := by kernel_rfl
  c167 := by kernel_rfl
  c168 := by kernel_rfl
  c171 := by kernel_rfl
  c173 := by kernel_rfl
  c175 := by kernel_rfl
  c210 := by kernel_rfl
  c212 := by kernel_rfl
  c213 := by kernel_rfl
  c232 := by kernel_rfl
  c233 := by kernel_rfl }
theorem Tryz_laysSplitF {a : Option Func} {x y : Func} (h : a = some x) (k : x = y) : a = some y := h.trans (congrArg some k)
def Tryz.laysSplit_ren : Go.Shelf.Ren := ⟨fun | 146 => 105 | 221 => 127 | 268 => 142 | 138 => 143 | 143 => 144 | 195 => 152 | 197 => 153 | 218 => 154 | 219 => 155 | 260 => 165 | 217 => 166 | 225 => 167 | 224 => 168 | 267 => 169 | 266 => 190 | 314 => 191 | n => n, fun | 31 => 22 | 105 => 165 | 46 => 105 | 119 => 200 | 139 => 203 | 138 => 202 | 146 => 204 | 51 => 199 | n => n, fun | 1 => 0 | n => n⟩
theorem Tryz.laysSplit : Go.Proofs.Lays.n146 Tryz.prog Tryz.laysSplit_ren := {
  mixed := by kernel_rfl
  f138 := Tryz_laysSplitF Tryz.func143 (by kernel_rfl)
  f143 := Tryz_laysSplitF Tryz.func144 (by kernel_rfl)
  f146 := Tryz_laysSplitF Tryz.func105 (by kernel_rfl)
  f195 := Tryz_laysSplitF Tryz.func152 (by kernel_rfl)
  f197 := Tryz_laysSplitF Tryz.func153 (by kernel_rfl)
  f217 := Tryz_laysSplitF Tryz.func166 (by kernel_rfl)
  f218 := Tryz_laysSplitF Tryz.func154 (by kernel_rfl)
  f219 := Tryz_laysSplitF Tryz.func155 (by kernel_rfl)
  f221 := Tryz_laysSplitF Tryz.func127 (by kernel_rfl)
  f224 := Tryz_laysSplitF Tryz.func168 (by kernel_rfl)
  f225 := Tryz_laysSplitF Tryz.func167 (by kernel_rfl)
  f260 := Tryz_laysSplitF Tryz.func165 (by kernel_rfl)
  f266 := Tryz_laysSplitF Tryz.func190 (by kernel_rfl)
  f267 := Tryz_laysSplitF Tryz.func169 (by kernel_rfl)
  f268 := Tryz_laysSplitF Tryz.func142 (by kernel_rfl)
  f314 := Tryz_laysSplitF Tryz.func191 (by kernel_rfl)
  t0 := Tryz.underlying0
  a0 := Tryz.isAgg0
  z0 := Tryz.sizeOf0
  v0 := Tryz.zeroValue0
  t3 := Tryz.underlying3
  a3 := Tryz.isAgg3
  z3 := Tryz.sizeOf3
  v3 := Tryz.zeroValue3
  t4 := Tryz.underlying4
  a4 := Tryz.isAgg4
  z4 := Tryz.sizeOf4
  v4 := Tryz.zeroValue4
  t5 := Tryz.underlying5
  a5 := Tryz.isAgg5
  z5 := Tryz.sizeOf5
  v5 := Tryz.zeroValue5
  t9 := Tryz.underlying9
  a9 := Tryz.isAgg9
  z9 := Tryz.sizeOf9
  v9 := Tryz.zeroValue9
  t21 := Tryz.underlying21
  a21 := Tryz.isAgg21
  z21 := Tryz.sizeOf21
  v21 := Tryz.zeroValue21
  t31 := Tryz.underlying22
  a31 := Tryz.isAgg22
  z31 := Tryz.sizeOf22
  v31 := Tryz.zeroValue22
  t46 := Tryz.underlying105
  a46 := Tryz.isAgg105
  z46 := Tryz.sizeOf105
  v46 := Tryz.zeroValue105
  t51 := Tryz.underlying199
  a51 := Tryz.isAgg199
  z51 := Tryz.sizeOf199
  v51 := Tryz.zeroValue199
  t105 := Tryz.underlying165
  a105 := Tryz.isAgg165
  z105 := Tryz.sizeOf165
  v105 := Tryz.zeroValue165
  t119 := Tryz.underlying200
  a119 := Tryz.isAgg200
  z119 := Tryz.sizeOf200
  t138 := Tryz.underlying202
  a138 := Tryz.isAgg202
  z138 := Tryz.sizeOf202
  v138 := Tryz.zeroValue202
  t139 := Tryz.underlying203
  a139 := Tryz.isAgg203
  z139 := Tryz.sizeOf203
  v139 := Tryz.zeroValue203
  t146 := Tryz.underlying204
  a146 := Tryz.isAgg204
  z146 := Tryz.sizeOf204
  v146 := Tryz.zeroValue204
  g1 := by kernel_rfl
  g3 := by kernel_rfl
  g4 := by kernel_rfl }
namespace Tryzh
theorem tab_of {S : Nat → Prop} {w : World} (hB : Go.V.D.base.inv S w) : Lib.TabIs Tryz.prog w "internal/strconv.uint64pow10" .u64 Lib.pow10Tab := by
  obtain ⟨-, -, ⟨T, fr, hT⟩, -⟩ := hB
  have hg : Tryz.prog.globalNamed "internal/strconv.uint64pow10" = some 5 := by kernel_rfl
  unfold Lib.TabIs World.var?
  rw [hg]
  simp [hT]
set_option maxRecDepth 100000 in
theorem decimal_calls (n : Int) (h0 : -9223372036854775808 ≤ n) (h1 : n ≤ 9223372036854775807) (w : World) (htab : Lib.TabIs Tryz.prog w "internal/strconv.uint64pow10" .u64 Lib.pow10Tab) :
    Calls Tryz.prog 129 #[.int .i64 n] w fun e w' => e = .returned (.string ⟨(Lib.itoa n).toArray⟩) ∧ Below w.heap.size w w' := by
  go_enter Tryz.func129, Tryz.ntmps129
  go_wp2_with (go_at_call 147; refine (Any.strconv_FormatInt_10 Tryz.laysFI n h0 h1 _ htab).mono ?_; rintro e w' ⟨rfl, k, os, rfl⟩)
  go_ret
  exact ⟨rfl, Lib.below_grow _ _ (Nat.le_refl _) _ _⟩
theorem tab_below {w w' : World} (h : Below w.heap.size w w') (htab : Lib.TabIs Tryz.prog w "internal/strconv.uint64pow10" .u64 Lib.pow10Tab) : Lib.TabIs Tryz.prog w' "internal/strconv.uint64pow10" .u64 Lib.pow10Tab :=
  Lib.tabBelow_of_tabIs htab w' h
theorem parse_range {s : List UInt8} {v : Int} (h : Lib.parseIntB 64 s = .ok v) : -9223372036854775808 ≤ v ∧ v ≤ 9223372036854775807 := by
  obtain ⟨a, b⟩ := Lib.parseIntB_bounds h
  have e : ((2 ^ (64 - 1) : Nat) : Int) = 9223372036854775808 := by decide
  rw [e] at a b
  omega
theorem str_eq_iff (a b : List UInt8) : (ByteArray.mk a.toArray = ByteArray.mk b.toArray) ↔ a = b := by
  constructor
  · intro h; have := congrArg (fun x => x.data.toList) h; simpa using this
  · intro h; rw [h]
set_option maxRecDepth 100000 in
theorem readDecimal_calls (s : List UInt8) (hl : s.length ≤ 281474976710656) (w : World) (htab : Lib.TabIs Tryz.prog w "internal/strconv.uint64pow10" .u64 Lib.pow10Tab)
    (ts tr : TypeId) (ps pr : Value) (hS : w.cell? ⟨1, 0, none⟩ = some (.iface ts ps)) (hR : w.cell? ⟨2, 0, none⟩ = some (.iface tr pr)) :
    Calls Tryz.prog 106 #[.string ⟨s.toArray⟩] w fun e w' => e = .returned (.tuple #[.int .i64 (M.readDec s).1, .bool (M.readDec s).2]) ∧ Below w.heap.size w w' := by
  have hsz : (ByteArray.mk s.toArray).size = s.length := List.size_toArray
  have hd : (ByteArray.mk s.toArray).data.toList = s := by simp
  cases hp : Lib.parseIntB 64 s with
  | ok v =>
    obtain ⟨v0, v1⟩ := parse_range hp
    by_cases he : Lib.itoa v = s
    · have hr : M.readDec s = (v, true) := by unfold M.readDec; rw [hp]; simp only; rw [if_pos he]
      rw [hr]
      go_enter Tryz.func106, Tryz.ntmps106
      go_wp2_with (go_at_call 128; refine (Any.strconv_ParseInt_10_at64_ok Tryz.laysPI ⟨s.toArray⟩ (by omega) v (by rw [hd]; exact hp) _).mono ?_; rintro e W1 ⟨rfl, hW⟩)
      have hb1 : Below w.heap.size w W1 := by
        rcases hW with rfl | ⟨t, rfl⟩
        · exact Below.refl _ _
        · exact Lib.bytesWorld_below _ _ _
      clear hW
      go_wp2_with (go_at_call 129; refine (decimal_calls v v0 v1 _ ?_).mono ?_)
      · exact tab_below hb1 htab
      rintro e W2 ⟨rfl, hb2⟩
      have hb : Below w.heap.size w W2 := hb1.trans (hb2.mono hb1.size)
      rw [he]
      go_wp2
      go_ret2
      exact ⟨rfl, hb⟩
    · have hr : M.readDec s = (0, false) := by unfold M.readDec; rw [hp]; simp only; rw [if_neg he]
      rw [hr]
      go_enter Tryz.func106, Tryz.ntmps106
      go_wp2_with (go_at_call 128; refine (Any.strconv_ParseInt_10_at64_ok Tryz.laysPI ⟨s.toArray⟩ (by omega) v (by rw [hd]; exact hp) _).mono ?_; rintro e W1 ⟨rfl, hW⟩)
      have hb1 : Below w.heap.size w W1 := by
        rcases hW with rfl | ⟨t, rfl⟩
        · exact Below.refl _ _
        · exact Lib.bytesWorld_below _ _ _
      clear hW
      go_wp2_with (go_at_call 129; refine (decimal_calls v v0 v1 _ ?_).mono ?_)
      · exact tab_below hb1 htab
      rintro e W2 ⟨rfl, hb2⟩
      have hb : Below w.heap.size w W2 := hb1.trans (hb2.mono hb1.size)
      have hne : (Lib.itoa v == s) = false := beq_eq_false_iff_ne.2 he
      go_wp2
      go_ret2
      exact ⟨rfl, hb⟩
  | range =>
    have hr : M.readDec s = (0, false) := by unfold M.readDec; rw [hp]
    rw [hr]
    go_enter Tryz.func106, Tryz.ntmps106
    go_wp2_with (go_at_call 128; refine (Any.strconv_ParseInt_10_at64_range Tryz.laysPI ⟨s.toArray⟩ (by omega) (by rw [hd]; exact hp) _ _ hR (Or.inr ⟨tr, pr, rfl⟩)).mono ?_; rintro e W1 ⟨N, rfl, -, -, hb⟩)
    go_wp2
    go_ret2
    exact ⟨rfl, hb⟩
  | _ =>
    have hr : M.readDec s = (0, false) := by unfold M.readDec; rw [hp]
    rw [hr]
    go_enter Tryz.func106, Tryz.ntmps106
    go_wp2_with (go_at_call 128; refine (Any.strconv_ParseInt_10_at64_syntax Tryz.laysPI ⟨s.toArray⟩ (by omega) (by rw [hd]; exact hp) _ _ hS (Or.inr ⟨ts, ps, rfl⟩)).mono ?_; rintro e W1 ⟨N, rfl, -, -, hb⟩)
    go_wp2
    go_ret2
    exact ⟨rfl, hb⟩
theorem rc_belowV {P : Program} {f : FuncId} {args : List (AV K)} {r : AV K} (hf : FnOk P f)
    (h : ∀ (S : Nat → Prop) (w : World) (vals : List Value), (∀ b, S b → b < w.heap.size) → Go.V.D.base.inv S w → Reps Go.V.D [] S w args vals → Calls P f vals.toArray w fun e w' => ∃ u, e = .returned u ∧ Below w.heap.size w w' ∧ ∃ S' : Nat → Prop, (∀ b, S b → S' b) ∧ (∀ b, S' b → S b ∨ (w.heap.size ≤ b ∧ b < w'.heap.size)) ∧ Rep Go.V.D [] S' w' r u) : RC Go.V.D P f args [] r [] := by
  refine ⟨hf, fun ρ S w vals hs ha => ?_⟩
  have hρ : ρ = [] := by have := hs.len; simpa using this
  subst hρ
  have own : ∀ (w : World) b, ¬ Own Go.V.D w [] ([] : List (Ob K)) b := fun w b hb => by
    obtain ⟨h, o, r, ho, _⟩ := hb
    simp at ho
  refine (h S w vals hs.slt hs.base ha).mono ?_
  rintro e w' ⟨u, rfl, hb, S', h1, h2, h3⟩
  refine ⟨u, [], S', rfl, ⟨rfl, fun h o r ho _ => by simp at ho, fun h h' o o' r r' b ho => by simp at ho, fun b hO => absurd hO (own _ b), fun b hO => ?_, Go.V.D.base.mono h1 (fun b h => hb.block b (hs.slt b h)) hs.base⟩, h3,
    ⟨hb.os, hb.tape, hb.output, hb.size, fun b hlt _ => hb.block b hlt, fun b hO => absurd hO (own _ b), h1, fun b hO => ?_, fun h hh => rfl⟩⟩
  · rcases h2 b hO with h | h
    · exact Nat.lt_of_lt_of_le (hs.slt b h) hb.size
    · exact h.2
  · rcases h2 b hO with h | h
    · exact .inl h
    · exact .inr (.inr h.1)
theorem dec_cases {n : Int} {r : List UInt8} (h : M.i_decimal n = some r) : (-9223372036854775808 ≤ n ∧ n ≤ 9223372036854775807) ∧ Lib.itoa n = r := by
  unfold M.i_decimal at h
  by_cases h1 : -9223372036854775808 ≤ n ∧ n ≤ 9223372036854775807
  · simp only [h1.1, h1.2, decide_true, Bool.and_true, cond_true] at h; exact ⟨h1, Option.some.inj h⟩
  · have : (decide (-9223372036854775808 ≤ n) && decide (n ≤ 9223372036854775807)) = false := by
      rw [Bool.and_eq_false_iff, decide_eq_false_iff_not, decide_eq_false_iff_not]
      exact Classical.not_and_iff_not_or_not.1 h1
    rw [this] at h; cases h
theorem split_cases {s sep : List UInt8} {r : List (List UInt8)} (h : M.strings_Split s sep = some r) : sep = [46] ∧ s.length < 4294967281 ∧ Ver.splitDot s = r := by
  unfold M.strings_Split at h
  by_cases h1 : sep = [46]
  · by_cases h2 : s.length < 4294967281
    · rw [h1] at h; simp only [h2, decide_true, beq_self_eq_true, Bool.and_true, cond_true] at h; exact ⟨h1, h2, Option.some.inj h⟩
    · simp [h2] at h
  · have : (sep == [46]) = false := beq_eq_false_iff_ne.2 h1
    rw [this] at h; simp at h
theorem ok_decimal : (con_i_decimal M.i_decimal).Ok Go.V.D Tryz.prog := by
  intro x r hr
  obtain ⟨hl, hv⟩ := dec_cases (n := x.1.1) hr
  subst hv
  refine rc_belowV ⟨Tryz.f129, Tryz.func129, by kernel_rfl, by kernel_rfl⟩ fun S w vals hS hB ha => ?_
  obtain ⟨X, rfl, hX⟩ := reps_single (x := .int .i64 x.1.1) ha
  rw [rep_int hX]
  refine (decimal_calls _ hl.1 hl.2 w (tab_of hB)).mono ?_
  rintro e w' ⟨rfl, hb⟩
  exact ⟨_, rfl, hb, S, fun _ h => h, fun _ h => .inl h, .str _⟩
theorem ok_readDecimal : (con_i_readDecimal M.i_readDecimal).Ok Go.V.D Tryz.prog := by
  intro x r hr
  obtain ⟨hl, hv⟩ : List.length (α := UInt8) x.1.1 ≤ 281474976710656 ∧ M.readDec x.1.1 = r := by
    change M.i_readDecimal x.1.1 = some r at hr
    unfold M.i_readDecimal at hr
    by_cases h : List.length (α := UInt8) x.1.1 ≤ 281474976710656
    · simp only [h, decide_true, cond_true] at hr; exact ⟨h, Option.some.inj hr⟩
    · simp [h] at hr
  subst hv
  refine rc_belowV ⟨Tryz.f106, Tryz.func106, by kernel_rfl, by kernel_rfl⟩ fun S w vals hS hB ha => ?_
  obtain ⟨X, rfl, hX⟩ := reps_single (x := .str x.1.1) ha
  rw [rep_str hX]
  obtain ⟨-, -, -, ⟨ts, ps, hs⟩, ⟨tr, pr, hr2⟩⟩ := id hB
  refine (readDecimal_calls _ hl w (tab_of hB) ts tr ps pr hs hr2).mono ?_
  rintro e w' ⟨rfl, hb⟩
  exact ⟨_, rfl, hb, S, fun _ h => h, fun _ h => .inl h, .tup (l := [.int .i64 _, .bool _]) (vs := [_, _]) rfl (Reps.cons (.int _ _) (.cons (.bool _) .nil)).2⟩
set_option maxRecDepth 100000 in
theorem split_calls (s : List UInt8) (hl : s.length < 4294967281) (m : Int) (w : World) (hm : w.cell? ⟨0, 0, none⟩ = some (.int .i64 m)) :
    Calls Tryz.prog 105 #[.string ⟨s.toArray⟩, .string ⟨#[46]⟩] w fun e w' => e = .returned (.slice (some ⟨w.heap.size, 0, none⟩) (Ver.splitDot s).length (Ver.splitDot s).length) ∧ w' = w.alloc (.cells ((Ver.splitDot s).map encStr).toArray 9) := by
  have h := Any.strings_Split Tryz.laysSplit (by kernel_rfl) ⟨s.toArray⟩ ⟨#[46]⟩ m w (by show s.toArray.size < _; simpa using hl) hm (by decide)
  have e1 := Ver.splitB_dot ⟨s.toArray⟩ ⟨#[46]⟩ rfl
  have e2 : (ByteArray.mk s.toArray).data.toList = s := by simp
  rw [e2] at e1
  have e3 : (Lib.splitB ⟨#[46]⟩ 0 (Lib.countB ⟨s.toArray⟩ ⟨#[46]⟩) ⟨s.toArray⟩).map Value.string = (Ver.splitDot s).map encStr := by
    rw [← e1, List.map_map]
    refine List.map_congr_left fun x _ => ?_
    show Value.string x = encStr x.data.toList
    simp [encStr]
  have e4 : Lib.countB ⟨s.toArray⟩ ⟨#[46]⟩ + 1 = (Ver.splitDot s).length := by
    rw [← e1, List.length_map, Lib.splitB_all ⟨#[46]⟩ (by decide) 0 _ ⟨s.toArray⟩ rfl]
  rw [e3, e4] at h
  exact h
theorem ok_split : (con_strings_Split M.strings_Split).Ok Go.V.D Tryz.prog := by
  intro x r hr
  obtain ⟨hsep, hl, hv⟩ := split_cases (s := x.1.1) (sep := x.1.2.1) hr
  subst hv
  refine rc_belowV ⟨Tryz.f105, Tryz.func105, by kernel_rfl, by kernel_rfl⟩ fun S w vals hS hB ha => ?_
  obtain ⟨X, r1, rfl, hX, hr1⟩ := Reps.uncons (v := .str x.1.1) (l := [.str x.1.2.1]) ha
  obtain ⟨Y, r2, rfl, hY, hr2⟩ := hr1.uncons
  rw [hr2.nil_iff, rep_str hX, rep_str hY, hsep]
  obtain ⟨-, ⟨m, hm⟩, -⟩ := id hB
  refine (split_calls _ hl m w hm).mono ?_
  rintro e w' ⟨rfl, rfl⟩
  generalize Ver.splitDot x.1.1 = zs
  refine ⟨_, rfl, (Below.refl _ w).alloc (Nat.le_refl _) _, fun b => S b ∨ b = w.heap.size, fun _ h => .inl h, fun b h => h.imp id fun e => by subst e; exact ⟨Nat.le_refl _, by simp⟩, ?_⟩
  refine Rep.dsl (D := Go.V.D) (c := U.str) (l := zs) (fun i => [encStr (zs[i]?.getD [])]) (Or.inr rfl) (Nat.le_refl _) (fun i y hy => rfl) (fun i hi j v hv => ?_) (fun i y hy j v u hv hu => ?_)
  · cases j with
    | zero =>
      simp at hv; subst hv
      have hz : zs[i]? = some zs[i] := List.getElem?_eq_getElem hi
      have : (w.alloc (.cells (zs.map encStr).toArray 9)).cell? ⟨w.heap.size, 0 + i * K.sz U.str + 0, none⟩ = some (encStr zs[i]) := by
        have e : 0 + i * K.sz U.str + 0 = i := by show 0 + i * 1 + 0 = i; omega
        rw [e]
        have hn : (w.alloc (.cells (zs.map encStr).toArray 9)).heap[w.heap.size]? = some (.cells (zs.map encStr).toArray 9 (0, 0)) := heap_push_new _ _
        simp only [World.cell?, hn]
        simp [hi]
      rw [this, hz]; rfl
    | succ j => simp at hv
  · cases j with
    | zero =>
      simp at hu; subst hu
      have : v = .str y := by have := hv; simp only [D, mkCod, Ucs, Uun, Sh.encs, List.getElem?_cons_zero, Option.some.injEq] at this; exact this.symm
      subst this
      rw [hy]; exact .str _
    | succ j => simp at hu
end Tryzh
end Go.Proofs
theorem ok_i_decimal : (con_i_decimal M.i_decimal).Ok Go.V.D Go.Proofs.Tryz.prog := Go.Proofs.Tryzh.ok_decimal
theorem ok_i_readDecimal : (con_i_readDecimal M.i_readDecimal).Ok Go.V.D Go.Proofs.Tryz.prog := Go.Proofs.Tryzh.ok_readDecimal
theorem ok_strings_Split : (con_strings_Split M.strings_Split).Ok Go.V.D Go.Proofs.Tryz.prog := Go.Proofs.Tryzh.ok_split
