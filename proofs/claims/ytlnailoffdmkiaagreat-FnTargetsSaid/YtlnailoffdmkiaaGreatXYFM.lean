/-
  Part of the proof of the claim.
-/
import Derived.Test.YtlnailoffdmkiaaGreatXYdata
import Derived.Test.YtlnailoffdmkiaaGreatXYhand3
set_option linter.unusedVariables false
set_option maxRecDepth 100000
noncomputable section
namespace M
def s_l00From (code : (List UInt8)) : Option ((List UInt8) × Int × Int) :=
 some (code, (0 : Int), (0 : Int))
def s_l00Src_next (s : M.Sl00Src) : Option (Int × M.Sl00Src) :=
 bif (decide ((Go.IntKind.wrap Go.IntKind.i64 ((M.Sl00Src.at_ s) + (1 : Int))) ≤ ((List.length (M.Sl00Src.code s)) : Int))) then
 let q0 := ((((Go.V.inB (M.Sl00Src.at_ s) (List.length (M.Sl00Src.code s))) && true) || (!(decide ((M.Sl00Src.at_ s) < ((List.length (M.Sl00Src.code s)) : Int))))) && true)
 bif q0 then
 let q1 := (bif (decide ((M.Sl00Src.at_ s) < ((List.length (M.Sl00Src.code s)) : Int))) then (Go.IntKind.wrap Go.IntKind.i64 ((UInt8.toNat (List.getD (M.Sl00Src.code s) (Int.toNat (M.Sl00Src.at_ s)) (0 : UInt8))) : Int)) else (0 : Int))
 let q2 := (Go.IntKind.wrap Go.IntKind.u64 ((Go.IntKind.wrap Go.IntKind.u64 ((Go.IntKind.wrap Go.IntKind.u64 ((M.Sl00Src.seed s) * (6364136223846793005 : Int))) + (Go.IntKind.wrap Go.IntKind.u64 q1))) + (1442695040888963407 : Int)))
 some (q1, (M.Sl00Src.mk (M.Sl00Src.code s) (Go.IntKind.wrap Go.IntKind.i64 ((M.Sl00Src.at_ s) + (1 : Int))) q2))
 else
 none
 else
 let q0 := ((((Go.V.inB (M.Sl00Src.at_ s) (List.length (M.Sl00Src.code s))) && true) || (!(decide ((M.Sl00Src.at_ s) < ((List.length (M.Sl00Src.code s)) : Int))))) && true)
 bif q0 then
 let q1 := (bif (decide ((M.Sl00Src.at_ s) < ((List.length (M.Sl00Src.code s)) : Int))) then (Go.IntKind.wrap Go.IntKind.i64 ((UInt8.toNat (List.getD (M.Sl00Src.code s) (Int.toNat (M.Sl00Src.at_ s)) (0 : UInt8))) : Int)) else (0 : Int))
 let q2 := (Go.IntKind.wrap Go.IntKind.u64 ((Go.IntKind.wrap Go.IntKind.u64 ((Go.IntKind.wrap Go.IntKind.u64 ((M.Sl00Src.seed s) * (6364136223846793005 : Int))) + (Go.IntKind.wrap Go.IntKind.u64 q1))) + (1442695040888963407 : Int)))
 some ((Go.IntKind.wrap Go.IntKind.i64 (Go.V.bitsV Go.BinOp.and Go.IntKind.u64 (Go.V.shrV Go.IntKind.u64 q2 (40 : Int)) (255 : Int))), (M.Sl00Src.mk (M.Sl00Src.code s) (Go.IntKind.wrap Go.IntKind.i64 ((M.Sl00Src.at_ s) + (1 : Int))) q2))
 else
 none
def s_l00Src_pick (n : Int) (s : M.Sl00Src) : Option (Int × M.Sl00Src) :=
 bif (decide (n ≤ (1 : Int))) then
 some ((0 : Int), s)
 else
 bif (decide ((200 : Int) < n)) then
 let q0 := (M.s_l00Src_next s)
 let q1 := (M.s_l00Src_next (Option.getD q0 default).2)
 bif ((n != (0 : Int)) && ((Option.isSome q1) && ((Option.isSome q0) && true))) then
 let q2 := (Option.getD q1 default)
 some ((Int.tmod (Go.IntKind.wrap Go.IntKind.i64 ((Go.IntKind.wrap Go.IntKind.i64 ((Option.getD q0 default).1 * (256 : Int))) + q2.1)) n), q2.2)
 else
 none
 else
 let q0 := (M.s_l00Src_next s)
 bif ((n != (0 : Int)) && ((Option.isSome q0) && true)) then
 some ((Int.tmod (Option.getD q0 default).1 n), (Option.getD q0 default).2)
 else
 none
def s_l15Digits_b (rec_s_l15Digits : Int → Option ((List UInt8))) (n : Int) : Option ((List UInt8)) :=
 bif (decide (n < (0 : Int))) then
 bif (n == (-(9223372036854775808 : Int))) then
 some [(45 : UInt8), (57 : UInt8), (50 : UInt8), (50 : UInt8), (51 : UInt8), (51 : UInt8), (55 : UInt8), (50 : UInt8), (48 : UInt8), (51 : UInt8), (54 : UInt8), (56 : UInt8), (53 : UInt8), (52 : UInt8), (55 : UInt8), (55 : UInt8), (53 : UInt8), (56 : UInt8), (48 : UInt8), (56 : UInt8)]
 else
 let q0 := (Option.getD (rec_s_l15Digits (Go.IntKind.wrap Go.IntKind.i64 ((0 : Int) - n))) default)
 bif ((Go.V.catB [(45 : UInt8)] q0) && ((Option.isSome (rec_s_l15Digits (Go.IntKind.wrap Go.IntKind.i64 ((0 : Int) - n)))) && true)) then
 some ([(45 : UInt8)] ++ q0)
 else
 none
 else
 bif (decide (n < (10 : Int))) then
 let q0 := (Go.IntKind.wrap Go.IntKind.u8 (Go.IntKind.wrap Go.IntKind.i64 ((48 : Int) + n)))
 bif (((Go.V.u8ok q0) && true) && true) then
 some (List.map (fun a => a) [(Go.V.u8of q0)])
 else
 none
 else
 let q0 := (Option.getD (rec_s_l15Digits (Go.IntKind.wrap Go.IntKind.i64 (Int.tdiv n (10 : Int)))) default)
 let q1 := (Go.IntKind.wrap Go.IntKind.u8 (Go.IntKind.wrap Go.IntKind.i64 ((48 : Int) + (Int.tmod n (10 : Int)))))
 let q2 := (List.map (fun a => a) [(Go.V.u8of q1)])
 bif ((Go.V.catB q0 q2) && (((Go.V.u8ok q1) && true) && (((10 : Int) != (0 : Int)) && ((Option.isSome (rec_s_l15Digits (Go.IntKind.wrap Go.IntKind.i64 (Int.tdiv n (10 : Int))))) && (((10 : Int) != (0 : Int)) && true))))) then
 some (q0 ++ q2)
 else
 none
def s_l15Digits_n : Nat → Int → Option ((List UInt8))
 | 0 => fun _ => none
 | n + 1 => s_l15Digits_b (s_l15Digits_n n)
def s_l15Digits : Int → Option ((List UInt8)) := s_l15Digits_n Go.V.bigN
def s_l00Src_one (n : Int) (s : M.Sl00Src) : Option (Bool × M.Sl00Src) :=
 let q0 := (M.s_l00Src_pick n s)
 bif ((Option.isSome q0) && true) then
 some (((Option.getD q0 default).1 == (0 : Int)), (Option.getD q0 default).2)
 else
 none
def s_l00Src_among (list : (List Int)) (s : M.Sl00Src) : Option (Int × M.Sl00Src) :=
 let q0 := (M.s_l00Src_pick ((List.length list) : Int) s)
 let q1 := (Option.getD q0 default)
 let q2 := q1.1
 bif ((Go.V.inB q2 (List.length list)) && ((Option.isSome q0) && true)) then
 some ((List.getD list (Int.toNat q2) (0 : Int)), q1.2)
 else
 none
def s_l15Const (s : M.Sl00Src) : Option (Int × M.Sl00Src) :=
 let q0 := (M.s_l00Src_pick (200 : Int) s)
 let q1 := (M.s_l00Src_among [(0 : Int), (1 : Int), (2 : Int), (3 : Int), (5 : Int), (7 : Int), (10 : Int), (-(1 : Int)), (-(3 : Int)), (64 : Int), (255 : Int), (256 : Int), (1099511627776 : Int), (9223372036854775807 : Int), (-(9223372036854775808 : Int)), (Option.getD q0 default).1] (Option.getD q0 default).2)
 bif ((Option.isSome q1) && ((Option.isSome q0) && true)) then
 let q2 := (Option.getD q1 default)
 some (q2.1, q2.2)
 else
 none
def s_l15Value_b (rec_s_l15Value : Int → Int → M.Sl00Src → Option (M.Sl00Src × (List M.SIns))) (locals : Int) (deep : Int) (s : M.Sl00Src) : Option (M.Sl00Src × (List M.SIns)) :=
 bif (deep == (0 : Int)) then
 bif (decide ((0 : Int) < locals)) then
 let q0 := (M.s_l00Src_one (2 : Int) s)
 bif (Option.getD q0 default).1 then
 let q1 := (Option.getD q0 default).2
 let q2 := (M.s_l00Src_pick locals q1)
 let q3 := ((decide ((0 : Int) < locals)) == true)
 let q4 := (((deep == (0 : Int)) == true) && (((deep == (0 : Int)) == true) && (((deep == (0 : Int)) == true) && true)))
 let q5 := (q3 && (((Option.isSome q0) && q3) && (q3 && q4)))
 bif ((Option.isSome q2) && q5) then
 let q6 := (Option.getD q2 default)
 some (q6.2, [(M.SIns.mk (2 : Int) q6.1)])
 else
 none
 else
 let q1 := (Option.getD q0 default).2
 let q2 := (M.s_l15Const q1)
 let q3 := ((decide ((0 : Int) < locals)) == true)
 let q4 := (((deep == (0 : Int)) == true) && (((deep == (0 : Int)) == true) && (((deep == (0 : Int)) == true) && true)))
 let q5 := (q3 && (((Option.isSome q0) && q3) && (q3 && q4)))
 bif ((Option.isSome q2) && q5) then
 let q6 := (Option.getD q2 default)
 some (q6.2, [(M.SIns.mk (1 : Int) q6.1)])
 else
 none
 else
 let q0 := (M.s_l15Const s)
 let q1 := ((decide ((0 : Int) < locals)) == false)
 let q2 := (((deep == (0 : Int)) == true) && (((deep == (0 : Int)) == true) && (((deep == (0 : Int)) == true) && true)))
 bif ((Option.isSome q0) && (q1 && (q1 && (q1 && q2)))) then
 some ((Option.getD q0 default).2, [(M.SIns.mk (1 : Int) (Option.getD q0 default).1)])
 else
 none
 else
 let q0 := (M.s_l00Src_one (3 : Int) s)
 bif (Option.getD q0 default).1 then
 bif (decide ((0 : Int) < locals)) then
 let q1 := (Option.getD q0 default).2
 let q2 := (M.s_l00Src_one (2 : Int) q1)
 let q3 := (Option.getD q2 default)
 bif q3.1 then
 let q4 := q3.2
 let q5 := (M.s_l00Src_pick locals q4)
 let q6 := ((decide ((0 : Int) < locals)) == true)
 let q7 := (((deep == (0 : Int)) == false) && (((Option.isSome q0) && ((deep == (0 : Int)) == false)) && (((deep == (0 : Int)) == false) && true)))
 let q8 := (q6 && (((Option.isSome q2) && q6) && (q6 && q7)))
 bif ((Option.isSome q5) && q8) then
 let q9 := (Option.getD q5 default)
 some (q9.2, [(M.SIns.mk (2 : Int) q9.1)])
 else
 none
 else
 let q4 := q3.2
 let q5 := (M.s_l15Const q4)
 let q6 := ((decide ((0 : Int) < locals)) == true)
 let q7 := (((deep == (0 : Int)) == false) && (((Option.isSome q0) && ((deep == (0 : Int)) == false)) && (((deep == (0 : Int)) == false) && true)))
 let q8 := (q6 && (((Option.isSome q2) && q6) && (q6 && q7)))
 bif ((Option.isSome q5) && q8) then
 let q9 := (Option.getD q5 default)
 some (q9.2, [(M.SIns.mk (1 : Int) q9.1)])
 else
 none
 else
 let q1 := (Option.getD q0 default).2
 let q2 := (M.s_l15Const q1)
 let q3 := ((decide ((0 : Int) < locals)) == false)
 let q4 := (((deep == (0 : Int)) == false) && (((Option.isSome q0) && ((deep == (0 : Int)) == false)) && (((deep == (0 : Int)) == false) && true)))
 bif ((Option.isSome q2) && (q3 && (q3 && (q3 && q4)))) then
 let q5 := (Option.getD q2 default)
 some (q5.2, [(M.SIns.mk (1 : Int) q5.1)])
 else
 none
 else
 let q1 := (Option.getD q0 default).2
 let q2 := (Option.getD (rec_s_l15Value locals (Go.IntKind.wrap Go.IntKind.i64 (deep - (1 : Int))) q1) default)
 let q3 := (M.s_l00Src_pick (8 : Int) q2.1)
 let q4 := (Option.getD q3 default)
 let q5 := q4.1
 bif (q5 == (0 : Int)) then
 let q6 := q2.2
 let q7 := (List.length q6)
 let q8 := [(M.SIns.mk (22 : Int) (0 : Int))]
 let q9 := (((deep == (0 : Int)) == false) && (((Option.isSome q0) && ((deep == (0 : Int)) == false)) && (((deep == (0 : Int)) == false) && true)))
 let q10 := ((Option.isSome q3) && ((Option.isSome (rec_s_l15Value locals (Go.IntKind.wrap Go.IntKind.i64 (deep - (1 : Int))) q1)) && q9))
 bif ((decide ((q7 + (List.length q8)) ≤ 1073741824)) && q10) then
 let q11 := q4.2
 some (q11, (q6 ++ q8))
 else
 none
 else
 bif (q5 == (1 : Int)) then
 let q6 := q2.2
 let q7 := (List.length q6)
 let q8 := q4.2
 let q9 := (M.s_l00Src_among [(34 : Int), (35 : Int), (36 : Int)] q8)
 let q10 := (Option.getD q9 default)
 let q11 := (M.s_l00Src_pick (20 : Int) q10.2)
 let q12 := (Option.getD q11 default)
 let q13 := [(M.SIns.mk q10.1 q12.1)]
 let q14 := (((deep == (0 : Int)) == false) && (((Option.isSome q0) && ((deep == (0 : Int)) == false)) && (((deep == (0 : Int)) == false) && true)))
 let q15 := ((Option.isSome q3) && ((Option.isSome (rec_s_l15Value locals (Go.IntKind.wrap Go.IntKind.i64 (deep - (1 : Int))) q1)) && q14))
 bif ((decide ((q7 + (List.length q13)) ≤ 1073741824)) && ((Option.isSome q11) && ((Option.isSome q9) && q15))) then
 some (q12.2, (q6 ++ q13))
 else
 none
 else
 bif (q5 == (2 : Int)) then
 bif (decide ((0 : Int) < locals)) then
 let q6 := q2.2
 let q7 := (List.length q6)
 let q8 := q4.2
 let q9 := (M.s_l00Src_pick locals q8)
 let q10 := (Option.getD q9 default)
 let q11 := [(M.SIns.mk (4 : Int) q10.1)]
 let q12 := (((deep == (0 : Int)) == false) && (((Option.isSome q0) && ((deep == (0 : Int)) == false)) && (((deep == (0 : Int)) == false) && true)))
 let q13 := ((Option.isSome q3) && ((Option.isSome (rec_s_l15Value locals (Go.IntKind.wrap Go.IntKind.i64 (deep - (1 : Int))) q1)) && q12))
 bif ((decide ((q7 + (List.length q11)) ≤ 1073741824)) && ((Option.isSome q9) && q13)) then
 some (q10.2, (q6 ++ q11))
 else
 none
 else
 let q6 := q2.2
 let q7 := q4.2
 let q8 := (Option.getD (rec_s_l15Value locals (Go.IntKind.wrap Go.IntKind.i64 (deep - (1 : Int))) q7) default)
 let q9 := q8.2
 let q10 := (q6 ++ q9)
 let q11 := (List.length q10)
 let q12 := q8.1
 let q13 := (M.s_l00Src_pick (16 : Int) q12)
 let q14 := (Option.getD q13 default)
 let q15 := [(M.SIns.mk (Go.IntKind.wrap Go.IntKind.i64 ((6 : Int) + q14.1)) (0 : Int))]
 let q16 := (List.length q6)
 let q17 := (List.length q9)
 let q18 := (Option.isSome (rec_s_l15Value locals (Go.IntKind.wrap Go.IntKind.i64 (deep - (1 : Int))) q7))
 let q19 := (((deep == (0 : Int)) == false) && (((Option.isSome q0) && ((deep == (0 : Int)) == false)) && (((deep == (0 : Int)) == false) && true)))
 let q20 := ((Option.isSome q3) && ((Option.isSome (rec_s_l15Value locals (Go.IntKind.wrap Go.IntKind.i64 (deep - (1 : Int))) q1)) && q19))
 let q21 := ((decide ((q16 + q17) ≤ 1073741824)) && (q18 && q20))
 let q22 := ((decide ((q11 + (List.length q15)) ≤ 1073741824)) && ((Option.isSome q13) && q21))
 bif q22 then
 let q23 := q14.2
 let q24 := (q10 ++ q15)
 some (q23, q24)
 else
 none
 else
 bif (q5 == (3 : Int)) then
 let q6 := q2.2
 let q7 := q4.2
 let q8 := (Option.getD (rec_s_l15Value locals (Go.IntKind.wrap Go.IntKind.i64 (deep - (1 : Int))) q7) default)
 let q9 := q8.2
 let q10 := (q6 ++ q9)
 let q11 := q8.1
 let q12 := (Option.getD (rec_s_l15Value locals (Go.IntKind.wrap Go.IntKind.i64 (deep - (1 : Int))) q11) default)
 let q13 := q12.2
 let q14 := (q10 ++ q13)
 let q15 := [(M.SIns.mk (23 : Int) (0 : Int))]
 let q16 := (List.length q10)
 let q17 := (List.length q13)
 let q18 := (Option.isSome (rec_s_l15Value locals (Go.IntKind.wrap Go.IntKind.i64 (deep - (1 : Int))) q11))
 let q19 := (List.length q6)
 let q20 := (List.length q9)
 let q21 := (Option.isSome (rec_s_l15Value locals (Go.IntKind.wrap Go.IntKind.i64 (deep - (1 : Int))) q7))
 let q22 := (((deep == (0 : Int)) == false) && (((Option.isSome q0) && ((deep == (0 : Int)) == false)) && (((deep == (0 : Int)) == false) && true)))
 let q23 := ((Option.isSome q3) && ((Option.isSome (rec_s_l15Value locals (Go.IntKind.wrap Go.IntKind.i64 (deep - (1 : Int))) q1)) && q22))
 let q24 := ((decide ((q19 + q20) ≤ 1073741824)) && (q21 && q23))
 bif ((decide (((List.length q14) + (List.length q15)) ≤ 1073741824)) && ((decide ((q16 + q17) ≤ 1073741824)) && (q18 && q24))) then
 let q25 := q12.1
 some (q25, (q14 ++ q15))
 else
 none
 else
 bif (q5 == (4 : Int)) then
 let q6 := q2.2
 let q7 := [(M.SIns.mk (26 : Int) (1 : Int))]
 let q8 := (q6 ++ q7)
 let q9 := q4.2
 let q10 := (Option.getD (rec_s_l15Value locals (Go.IntKind.wrap Go.IntKind.i64 (deep - (1 : Int))) q9) default)
 let q11 := q10.2
 let q12 := (q8 ++ q11)
 let q13 := [(M.SIns.mk (27 : Int) (0 : Int))]
 let q14 := (q12 ++ q13)
 let q15 := q10.1
 let q16 := (Option.getD (rec_s_l15Value locals (Go.IntKind.wrap Go.IntKind.i64 (deep - (1 : Int))) q15) default)
 let q17 := q16.2
 let q18 := (q14 ++ q17)
 let q19 := [(M.SIns.mk (28 : Int) (0 : Int))]
 let q20 := (List.length q17)
 let q21 := (Option.isSome (rec_s_l15Value locals (Go.IntKind.wrap Go.IntKind.i64 (deep - (1 : Int))) q15))
 let q22 := (List.length q11)
 let q23 := (Option.isSome (rec_s_l15Value locals (Go.IntKind.wrap Go.IntKind.i64 (deep - (1 : Int))) q9))
 let q24 := (List.length q6)
 let q25 := (((deep == (0 : Int)) == false) && (((Option.isSome q0) && ((deep == (0 : Int)) == false)) && (((deep == (0 : Int)) == false) && true)))
 let q26 := ((Option.isSome q3) && ((Option.isSome (rec_s_l15Value locals (Go.IntKind.wrap Go.IntKind.i64 (deep - (1 : Int))) q1)) && q25))
 bif ((decide (((List.length q18) + (List.length q19)) ≤ 1073741824)) && ((decide (((List.length q14) + q20) ≤ 1073741824)) && (q21 && ((decide (((List.length q12) + (List.length q13)) ≤ 1073741824)) && ((decide (((List.length q8) + q22) ≤ 1073741824)) && (q23 && ((decide ((q24 + (List.length q7)) ≤ 1073741824)) && q26))))))) then
 let q27 := q16.1
 some (q27, (q18 ++ q19))
 else
 none
 else
 let q6 := q2.2
 let q7 := q4.2
 let q8 := (Option.getD (rec_s_l15Value locals (Go.IntKind.wrap Go.IntKind.i64 (deep - (1 : Int))) q7) default)
 let q9 := q8.2
 let q10 := (q6 ++ q9)
 let q11 := (List.length q10)
 let q12 := q8.1
 let q13 := (M.s_l00Src_pick (16 : Int) q12)
 let q14 := (Option.getD q13 default)
 let q15 := [(M.SIns.mk (Go.IntKind.wrap Go.IntKind.i64 ((6 : Int) + q14.1)) (0 : Int))]
 let q16 := (List.length q6)
 let q17 := (List.length q9)
 let q18 := (Option.isSome (rec_s_l15Value locals (Go.IntKind.wrap Go.IntKind.i64 (deep - (1 : Int))) q7))
 let q19 := (((deep == (0 : Int)) == false) && (((Option.isSome q0) && ((deep == (0 : Int)) == false)) && (((deep == (0 : Int)) == false) && true)))
 let q20 := ((Option.isSome q3) && ((Option.isSome (rec_s_l15Value locals (Go.IntKind.wrap Go.IntKind.i64 (deep - (1 : Int))) q1)) && q19))
 let q21 := ((decide ((q16 + q17) ≤ 1073741824)) && (q18 && q20))
 let q22 := ((decide ((q11 + (List.length q15)) ≤ 1073741824)) && ((Option.isSome q13) && q21))
 bif q22 then
 let q23 := q14.2
 let q24 := (q10 ++ q15)
 some (q23, q24)
 else
 none
def s_l15Value_n : Nat → Int → Int → M.Sl00Src → Option (M.Sl00Src × (List M.SIns))
 | 0 => fun _ _ _ => none
 | n + 1 => s_l15Value_b (s_l15Value_n n)
def s_l15Value : Int → Int → M.Sl00Src → Option (M.Sl00Src × (List M.SIns)) := s_l15Value_n Go.V.bigN
def s_l15Calls_l0 (locals : Int) (n : Int) (with_ : Bool) (i : M.SIns) : Nat → Int → M.Sl00Src → (List M.SIns) → Option (Bool × (List UInt8) × Int × Int × M.SIns × (List M.SIns))
 | 0, _, _, _ => none
 | fuel + 1, k, s, a =>
 bif (decide (k < n)) then
 let q0 := (M.s_l15Value locals (1 : Int) s)
 let q1 := (Option.getD q0 default).2
 bif ((decide (((List.length a) + (List.length q1)) ≤ 1073741824)) && ((Option.isSome q0) && true)) then
 M.s_l15Calls_l0 locals n with_ i fuel (Go.IntKind.wrap Go.IntKind.i64 (k + (1 : Int))) (Option.getD q0 default).1 (a ++ q1)
 else
 none
 else
 some ((with_, (M.Sl00Src.code s), (M.Sl00Src.at_ s), (M.Sl00Src.seed s), i, a))
def s_l15Calls (m : Int) (locals : Int) (s : M.Sl00Src) (o1 : (List M.SImport)) (o2 : (List M.SCore)) : Option (M.Sl00Src × (List M.SImport) × (List M.SCore) × (List M.SIns)) :=
 bif (decide ((0 : Int) < ((List.length o1) : Int))) then
 let q0 := (M.s_l00Src_one (2 : Int) s)
 bif (Option.getD q0 default).1 then
 let q1 := (Option.getD q0 default).2
 let q2 := (M.s_l00Src_pick ((List.length o1) : Int) q1)
 let q3 := (Option.getD q2 default)
 let q4 := q3.1
 let q5 := (List.getD o1 (Int.toNat q4) M.SImport.zero)
 match (M.s_l15Calls_l0 locals (M.SImport.Params q5) (M.SImport.Result q5) (M.SIns.mk (33 : Int) q4) Go.V.bigN (0 : Int) q3.2 []) with
 | none => none
 | some y6 =>
 bif y6.1 then
 let q7 := y6.2.2
 let q8 := q7.2
 let q9 := q8.2
 let q10 := q9.2
 let q11 := [q9.1]
 let q12 := (q10 ++ q11)
 let q13 := [(M.SIns.mk (5 : Int) (0 : Int))]
 let q14 := (List.length q13)
 let q15 := (Go.V.inB q4 (List.length o1))
 let q16 := ((decide ((0 : Int) < ((List.length o1) : Int))) == true)
 let q17 := (q16 && (((Option.isSome q0) && q16) && (q16 && true)))
 let q18 := ((decide (((List.length q10) + (List.length q11)) ≤ 1073741824)) && (q15 && (q15 && ((Option.isSome q2) && q17))))
 bif ((decide (((List.length q12) + q14) ≤ 1073741824)) && q18) then
 some ((M.Sl00Src.mk y6.2.1 q7.1 q8.1), o1, o2, (q12 ++ q13))
 else
 none
 else
 let q7 := y6.2.2
 let q8 := q7.2
 let q9 := q8.2
 let q10 := q9.2
 let q11 := [q9.1]
 let q12 := (Go.V.inB q4 (List.length o1))
 let q13 := ((decide ((0 : Int) < ((List.length o1) : Int))) == true)
 let q14 := (q13 && (((Option.isSome q0) && q13) && (q13 && true)))
 let q15 := ((decide (((List.length q10) + (List.length q11)) ≤ 1073741824)) && (q12 && (q12 && ((Option.isSome q2) && q14))))
 bif q15 then
 let q16 := (q10 ++ q11)
 some ((M.Sl00Src.mk y6.2.1 q7.1 q8.1), o1, o2, q16)
 else
 none
 else
 let q1 := (Option.getD q0 default).2
 let q2 := (M.s_l00Src_pick ((List.length o2) : Int) q1)
 let q3 := (Option.getD q2 default)
 let q4 := q3.1
 let q5 := (List.getD o2 (Int.toNat q4) M.SCore.zero)
 match (M.s_l15Calls_l0 locals (M.SCore.Params q5) (M.SCore.Result q5) (M.SIns.mk (32 : Int) q4) Go.V.bigN (0 : Int) q3.2 []) with
 | none => none
 | some y6 =>
 bif y6.1 then
 let q7 := y6.2.2
 let q8 := q7.2
 let q9 := q8.2
 let q10 := q9.2
 let q11 := [q9.1]
 let q12 := (q10 ++ q11)
 let q13 := [(M.SIns.mk (5 : Int) (0 : Int))]
 let q14 := (List.length q13)
 let q15 := (Go.V.inB q4 (List.length o2))
 let q16 := ((decide ((0 : Int) < ((List.length o1) : Int))) == true)
 let q17 := (q16 && (((Option.isSome q0) && q16) && (q16 && true)))
 let q18 := ((decide (((List.length q10) + (List.length q11)) ≤ 1073741824)) && (q15 && (q15 && ((Option.isSome q2) && q17))))
 bif ((decide (((List.length q12) + q14) ≤ 1073741824)) && q18) then
 some ((M.Sl00Src.mk y6.2.1 q7.1 q8.1), o1, o2, (q12 ++ q13))
 else
 none
 else
 let q7 := y6.2.2
 let q8 := q7.2
 let q9 := q8.2
 let q10 := q9.2
 let q11 := [q9.1]
 let q12 := (Go.V.inB q4 (List.length o2))
 let q13 := ((decide ((0 : Int) < ((List.length o1) : Int))) == true)
 let q14 := (q13 && (((Option.isSome q0) && q13) && (q13 && true)))
 let q15 := ((decide (((List.length q10) + (List.length q11)) ≤ 1073741824)) && (q12 && (q12 && ((Option.isSome q2) && q14))))
 bif q15 then
 let q16 := (q10 ++ q11)
 some ((M.Sl00Src.mk y6.2.1 q7.1 q8.1), o1, o2, q16)
 else
 none
 else
 let q0 := (M.s_l00Src_pick ((List.length o2) : Int) s)
 let q1 := (Option.getD q0 default)
 let q2 := q1.1
 let q3 := (List.getD o2 (Int.toNat q2) M.SCore.zero)
 match (M.s_l15Calls_l0 locals (M.SCore.Params q3) (M.SCore.Result q3) (M.SIns.mk (32 : Int) q2) Go.V.bigN (0 : Int) q1.2 []) with
 | none => none
 | some y4 =>
 bif y4.1 then
 let q5 := y4.2.2
 let q6 := q5.2
 let q7 := q6.2
 let q8 := q7.2
 let q9 := [q7.1]
 let q10 := (q8 ++ q9)
 let q11 := [(M.SIns.mk (5 : Int) (0 : Int))]
 let q12 := (List.length q11)
 let q13 := (Go.V.inB q2 (List.length o2))
 let q14 := ((decide ((0 : Int) < ((List.length o1) : Int))) == false)
 let q15 := ((decide (((List.length q8) + (List.length q9)) ≤ 1073741824)) && (q13 && (q13 && ((Option.isSome q0) && (q14 && (q14 && (q14 && true)))))))
 bif ((decide (((List.length q10) + q12) ≤ 1073741824)) && q15) then
 some ((M.Sl00Src.mk y4.2.1 q5.1 q6.1), o1, o2, (q10 ++ q11))
 else
 none
 else
 let q5 := y4.2.2
 let q6 := q5.2
 let q7 := q6.2
 let q8 := q7.2
 let q9 := [q7.1]
 let q10 := (Go.V.inB q2 (List.length o2))
 let q11 := ((decide ((0 : Int) < ((List.length o1) : Int))) == false)
 let q12 := ((decide (((List.length q8) + (List.length q9)) ≤ 1073741824)) && (q10 && (q10 && ((Option.isSome q0) && (q11 && (q11 && (q11 && true)))))))
 bif q12 then
 let q13 := (q8 ++ q9)
 some ((M.Sl00Src.mk y4.2.1 q5.1 q6.1), o1, o2, q13)
 else
 none
def s_l15Deed_b (rec_s_l15Deed : Int → Int → Int → M.Sl00Src → (List M.SImport) → (List M.SCore) → Option (M.Sl00Src × (List M.SImport) × (List M.SCore) × (List M.SIns))) (m : Int) (locals : Int) (deep : Int) (s : M.Sl00Src) (o1 : (List M.SImport)) (o2 : (List M.SCore)) : Option (M.Sl00Src × (List M.SImport) × (List M.SCore) × (List M.SIns)) :=
 let q0 := (M.s_l00Src_pick (9 : Int) s)
 let q1 := (Option.getD q0 default).1
 let q2 := (q1 == (0 : Int))
 bif (bif q2 then q2 else (q1 == (1 : Int))) then
 bif (decide ((0 : Int) < locals)) then
 let q3 := (Option.getD q0 default).2
 let q4 := (M.s_l15Value locals (2 : Int) q3)
 let q5 := (Option.getD q4 default)
 let q6 := q5.2
 let q7 := (List.length q6)
 let q8 := q5.1
 let q9 := (M.s_l00Src_pick locals q8)
 let q10 := (Option.getD q9 default)
 let q11 := [(M.SIns.mk (3 : Int) q10.1)]
 let q12 := ((Option.isSome q0) && true)
 let q13 := ((q12 || (!q2)) && (q12 || q2))
 let q14 := ((Option.isSome q4) && q13)
 bif ((decide ((q7 + (List.length q11)) ≤ 1073741824)) && ((Option.isSome q9) && q14)) then
 some (q10.2, o1, o2, (q6 ++ q11))
 else
 none
 else
 let q3 := (Option.getD q0 default).2
 let q4 := (M.s_l15Value locals (2 : Int) q3)
 let q5 := (Option.getD q4 default)
 let q6 := q5.2
 let q7 := (List.length q6)
 let q8 := [(M.SIns.mk (5 : Int) (0 : Int))]
 let q9 := ((Option.isSome q0) && true)
 let q10 := ((q9 || (!q2)) && (q9 || q2))
 let q11 := ((Option.isSome q4) && q10)
 let q12 := ((decide ((q7 + (List.length q8)) ≤ 1073741824)) && q11)
 bif q12 then
 let q13 := q5.1
 let q14 := (q6 ++ q8)
 some (q13, o1, o2, q14)
 else
 none
 else
 bif (q1 == (2 : Int)) then
 let q3 := (Option.getD q0 default).2
 let q4 := (M.s_l00Src_pick (250 : Int) q3)
 let q5 := (Option.getD q4 default)
 let q6 := [(M.SIns.mk (1 : Int) q5.1)]
 let q7 := (M.s_l15Value locals (2 : Int) q5.2)
 let q8 := (Option.getD q7 default)
 let q9 := q8.2
 let q10 := (q6 ++ q9)
 let q11 := (M.s_l00Src_among [(37 : Int), (38 : Int), (39 : Int)] q8.1)
 let q12 := (Option.getD q11 default)
 let q13 := (M.s_l00Src_pick (9 : Int) q12.2)
 let q14 := (Option.getD q13 default)
 let q15 := [(M.SIns.mk q12.1 q14.1)]
 let q16 := ((Option.isSome q0) && true)
 let q17 := ((q16 || (!q2)) && (q16 || q2))
 bif ((decide (((List.length q10) + (List.length q15)) ≤ 1073741824)) && ((Option.isSome q13) && ((Option.isSome q11) && ((decide (((List.length q6) + (List.length q9)) ≤ 1073741824)) && ((Option.isSome q7) && ((Option.isSome q4) && q17)))))) then
 some (q14.2, o1, o2, (q10 ++ q15))
 else
 none
 else
 bif (q1 == (3 : Int)) then
 bif (decide ((0 : Int) < deep)) then
 let q3 := (Option.getD q0 default).2
 let q4 := (M.s_l15Value locals (1 : Int) q3)
 let q5 := (Option.getD q4 default)
 let q6 := q5.2
 let q7 := [(M.SIns.mk (26 : Int) (0 : Int))]
 let q8 := (q6 ++ q7)
 let q9 := default
 let q10 := (Option.getD (rec_s_l15Deed m locals (Go.IntKind.wrap Go.IntKind.i64 (deep - (1 : Int))) q5.1 o1 o2) q9)
 let q11 := q10.2
 let q12 := q11.2
 let q13 := q12.2
 let q14 := (q8 ++ q13)
 let q15 := [(M.SIns.mk (28 : Int) (0 : Int))]
 let q16 := (List.length q15)
 let q17 := (List.length q13)
 let q18 := (Option.isSome (rec_s_l15Deed m locals (Go.IntKind.wrap Go.IntKind.i64 (deep - (1 : Int))) q5.1 o1 o2))
 let q19 := (List.length q6)
 let q20 := ((Option.isSome q0) && true)
 let q21 := ((q20 || (!q2)) && (q20 || q2))
 let q22 := ((Option.isSome q4) && q21)
 bif ((decide (((List.length q14) + q16) ≤ 1073741824)) && ((decide (((List.length q8) + q17) ≤ 1073741824)) && (q18 && ((decide ((q19 + (List.length q7)) ≤ 1073741824)) && q22)))) then
 let q23 := q10.1
 let q24 := q11.1
 let q25 := q12.1
 some (q23, q24, q25, (q14 ++ q15))
 else
 none
 else
 let q3 := (Option.getD q0 default).2
 let q4 := (M.s_l15Value locals (2 : Int) q3)
 let q5 := (Option.getD q4 default)
 let q6 := q5.2
 let q7 := (List.length q6)
 let q8 := [(M.SIns.mk (5 : Int) (0 : Int))]
 let q9 := ((Option.isSome q0) && true)
 let q10 := ((q9 || (!q2)) && (q9 || q2))
 let q11 := ((Option.isSome q4) && q10)
 let q12 := ((decide ((q7 + (List.length q8)) ≤ 1073741824)) && q11)
 bif q12 then
 let q13 := q5.1
 let q14 := (q6 ++ q8)
 some (q13, o1, o2, q14)
 else
 none
 else
 bif (q1 == (4 : Int)) then
 bif ((decide ((0 : Int) < deep)) && (decide ((0 : Int) < locals))) then
 let q3 := (Option.getD q0 default).2
 let q4 := (M.s_l00Src_pick locals q3)
 let q5 := (Option.getD q4 default)
 let q6 := (M.s_l00Src_pick (3 : Int) q5.2)
 let q7 := (Option.getD q6 default)
 let q8 := q5.1
 let q9 := [(M.SIns.mk (1 : Int) (Go.IntKind.wrap Go.IntKind.i64 ((1 : Int) + q7.1))), (M.SIns.mk (3 : Int) q8), (M.SIns.mk (25 : Int) (0 : Int))]
 let q10 := default
 let q11 := (Option.getD (rec_s_l15Deed m locals (Go.IntKind.wrap Go.IntKind.i64 (deep - (1 : Int))) q7.2 o1 o2) q10)
 let q12 := q11.2
 let q13 := q12.2
 let q14 := q13.2
 let q15 := (q9 ++ q14)
 let q16 := [(M.SIns.mk (28 : Int) (0 : Int))]
 let q17 := [(M.SIns.mk (2 : Int) q8), (M.SIns.mk (1 : Int) (1 : Int)), (M.SIns.mk (7 : Int) (0 : Int)), (M.SIns.mk (4 : Int) q8), (M.SIns.mk (30 : Int) (0 : Int)), (M.SIns.mk (28 : Int) (0 : Int))]
 let q18 := ((Option.isSome q0) && true)
 let q19 := ((q18 || (!q2)) && (q18 || q2))
 bif ((decide (((List.length q15) + (List.length q17)) ≤ 1073741824)) && ((decide (((List.length q9) + (List.length q14)) ≤ 1073741824)) && ((Option.isSome (rec_s_l15Deed m locals (Go.IntKind.wrap Go.IntKind.i64 (deep - (1 : Int))) q7.2 o1 o2)) && ((Option.isSome q6) && ((Option.isSome q4) && q19))))) then
 some (q11.1, q12.1, q13.1, (q15 ++ q17))
 else
 none
 else
 let q3 := (Option.getD q0 default).2
 let q4 := (M.s_l15Value locals (2 : Int) q3)
 let q5 := (Option.getD q4 default)
 let q6 := q5.2
 let q7 := (List.length q6)
 let q8 := [(M.SIns.mk (5 : Int) (0 : Int))]
 let q9 := ((Option.isSome q0) && true)
 let q10 := ((q9 || (!q2)) && (q9 || q2))
 let q11 := ((Option.isSome q4) && q10)
 let q12 := ((decide ((q7 + (List.length q8)) ≤ 1073741824)) && q11)
 bif q12 then
 let q13 := q5.1
 let q14 := (q6 ++ q8)
 some (q13, o1, o2, q14)
 else
 none
 else
 bif (q1 == (5 : Int)) then
 bif (decide ((0 : Int) < deep)) then
 let q3 := [(M.SIns.mk (24 : Int) (0 : Int))]
 let q4 := (Option.getD q0 default).2
 let q5 := (M.s_l15Value locals (1 : Int) q4)
 let q6 := (Option.getD q5 default)
 let q7 := q6.2
 let q8 := (q3 ++ q7)
 let q9 := [(M.SIns.mk (30 : Int) (0 : Int))]
 let q10 := (q8 ++ q9)
 let q11 := default
 let q12 := (Option.getD (rec_s_l15Deed m locals (Go.IntKind.wrap Go.IntKind.i64 (deep - (1 : Int))) q6.1 o1 o2) q11)
 let q13 := q12.2
 let q14 := q13.2
 let q15 := q14.2
 let q16 := (q10 ++ q15)
 let q17 := [(M.SIns.mk (28 : Int) (0 : Int))]
 let q18 := (List.length q17)
 let q19 := (List.length q15)
 let q20 := (Option.isSome (rec_s_l15Deed m locals (Go.IntKind.wrap Go.IntKind.i64 (deep - (1 : Int))) q6.1 o1 o2))
 let q21 := (List.length q7)
 let q22 := ((Option.isSome q0) && true)
 let q23 := ((q22 || (!q2)) && (q22 || q2))
 let q24 := ((Option.isSome q5) && q23)
 bif ((decide (((List.length q16) + q18) ≤ 1073741824)) && ((decide (((List.length q10) + q19) ≤ 1073741824)) && (q20 && ((decide (((List.length q8) + (List.length q9)) ≤ 1073741824)) && ((decide (((List.length q3) + q21) ≤ 1073741824)) && q24))))) then
 let q25 := q12.1
 let q26 := q13.1
 let q27 := q14.1
 some (q25, q26, q27, (q16 ++ q17))
 else
 none
 else
 let q3 := (Option.getD q0 default).2
 let q4 := (M.s_l15Value locals (2 : Int) q3)
 let q5 := (Option.getD q4 default)
 let q6 := q5.2
 let q7 := (List.length q6)
 let q8 := [(M.SIns.mk (5 : Int) (0 : Int))]
 let q9 := ((Option.isSome q0) && true)
 let q10 := ((q9 || (!q2)) && (q9 || q2))
 let q11 := ((Option.isSome q4) && q10)
 let q12 := ((decide ((q7 + (List.length q8)) ≤ 1073741824)) && q11)
 bif q12 then
 let q13 := q5.1
 let q14 := (q6 ++ q8)
 some (q13, o1, o2, q14)
 else
 none
 else
 bif (q1 == (6 : Int)) then
 let q3 := (Option.getD q0 default).2
 let q4 := (M.s_l15Calls m locals q3 o1 o2)
 let q5 := ((Option.isSome q0) && true)
 let q6 := ((q5 || (!q2)) && (q5 || q2))
 bif ((Option.isSome q4) && q6) then
 let q7 := default
 let q8 := (Option.getD q4 q7)
 let q9 := q8.2
 let q10 := q9.2
 some (q8.1, q9.1, q10.1, q10.2)
 else
 none
 else
 let q3 := (Option.getD q0 default).2
 let q4 := (M.s_l15Value locals (2 : Int) q3)
 let q5 := (Option.getD q4 default)
 let q6 := q5.2
 let q7 := (List.length q6)
 let q8 := [(M.SIns.mk (5 : Int) (0 : Int))]
 let q9 := ((Option.isSome q0) && true)
 let q10 := ((q9 || (!q2)) && (q9 || q2))
 let q11 := ((Option.isSome q4) && q10)
 let q12 := ((decide ((q7 + (List.length q8)) ≤ 1073741824)) && q11)
 bif q12 then
 let q13 := q5.1
 let q14 := (q6 ++ q8)
 some (q13, o1, o2, q14)
 else
 none
def s_l15Deed_n : Nat → Int → Int → Int → M.Sl00Src → (List M.SImport) → (List M.SCore) → Option (M.Sl00Src × (List M.SImport) × (List M.SCore) × (List M.SIns))
 | 0 => fun _ _ _ _ _ _ => none
 | n + 1 => s_l15Deed_b (s_l15Deed_n n)
def s_l15Deed : Int → Int → Int → M.Sl00Src → (List M.SImport) → (List M.SCore) → Option (M.Sl00Src × (List M.SImport) × (List M.SCore) × (List M.SIns)) := s_l15Deed_n Go.V.bigN
def s_l00In (n : Int) (low : Int) (high : Int) : Option (Bool) :=
 some ((decide (low ≤ n)) && (decide (n ≤ high)))
def s_l15Word_l0 (s : (List UInt8)) : Nat → Int → Option ((Bool) ⊕ ((List UInt8)))
 | 0, _ => none
 | fuel + 1, i =>
 bif (decide (i < ((List.length s) : Int))) then
 bif (!((((((decide ((97 : Int) ≤ ((UInt8.toNat (List.getD s (Int.toNat i) (0 : UInt8))) : Int))) && (decide (((UInt8.toNat (List.getD s (Int.toNat i) (0 : UInt8))) : Int) ≤ (122 : Int)))) || ((decide ((48 : Int) ≤ ((UInt8.toNat (List.getD s (Int.toNat i) (0 : UInt8))) : Int))) && (decide (((UInt8.toNat (List.getD s (Int.toNat i) (0 : UInt8))) : Int) ≤ (57 : Int))))) || (((UInt8.toNat (List.getD s (Int.toNat i) (0 : UInt8))) : Int) == (45 : Int))) || (((UInt8.toNat (List.getD s (Int.toNat i) (0 : UInt8))) : Int) == (46 : Int))) || (((UInt8.toNat (List.getD s (Int.toNat i) (0 : UInt8))) : Int) == (47 : Int)))) then
 bif ((Go.V.inB i (List.length s)) && true) then
 some (.inl false)
 else
 none
 else
 bif ((Go.V.inB i (List.length s)) && true) then
 M.s_l15Word_l0 s fuel (Go.IntKind.wrap Go.IntKind.i64 (i + (1 : Int)))
 else
 none
 else
 some ((.inr (s)))
def s_l15Word (s : (List UInt8)) : Option (Bool) :=
 match (M.s_l15Word_l0 s Go.V.bigN (0 : Int)) with
 | none => none
 | some y0 =>
 (match y0 with
 | .inl a1 =>
 some a1
 | .inr b1 =>
 some ((decide ((1 : Int) ≤ ((List.length b1) : Int))) && (decide (((List.length b1) : Int) ≤ (40 : Int)))))
def s_l15ImportAt_l0 (list : (List M.SImport)) (name : (List UInt8)) : Nat → Int → Option ((Int) ⊕ (Unit))
 | 0, _ => none
 | fuel + 1, i =>
 bif (decide (i < ((List.length list) : Int))) then
 bif ((M.SImport.Name (List.getD list (Int.toNat i) M.SImport.zero)) == name) then
 bif ((Go.V.inB i (List.length list)) && true) then
 some (.inl i)
 else
 none
 else
 bif ((Go.V.inB i (List.length list)) && true) then
 M.s_l15ImportAt_l0 list name fuel (Go.IntKind.wrap Go.IntKind.i64 (i + (1 : Int)))
 else
 none
 else
 some ((.inr (())))
def s_l15ImportAt (list : (List M.SImport)) (name : (List UInt8)) : Option (Int) :=
 match (M.s_l15ImportAt_l0 list name Go.V.bigN (0 : Int)) with
 | none => none
 | some y0 =>
 (match y0 with
 | .inl a1 =>
 some a1
 | .inr b1 =>
 some (-(1 : Int)))
def s_l15Shape_l0 (m : M.SModule) : Nat → Int → Option ((Bool) ⊕ (M.SModule))
 | 0, _ => none
 | fuel + 1, i =>
 bif (decide (i < ((List.length (M.SModule.Imports m)) : Int))) then
 let q0 := (M.s_l15Word (M.SImport.Name (List.getD (M.SModule.Imports m) (Int.toNat i) M.SImport.zero)))
 let q1 := ((!(Option.getD q0 default)) || (!((decide ((0 : Int) ≤ (M.SImport.Params (List.getD (M.SModule.Imports m) (Int.toNat i) M.SImport.zero)))) && (decide ((M.SImport.Params (List.getD (M.SModule.Imports m) (Int.toNat i) M.SImport.zero)) ≤ (8 : Int))))))
 let q2 := (M.s_l15ImportAt (List.drop (Int.toNat (0 : Int)) (List.take (Int.toNat i) (M.SModule.Imports m))) (M.SImport.Name (List.getD (M.SModule.Imports m) (Int.toNat i) M.SImport.zero)))
 bif (q1 || (decide ((0 : Int) ≤ (Option.getD q2 default)))) then
 let q3 := (!(q1 == false))
 let q4 := (((Option.isSome q2) || q3) && (((Go.V.slB (0 : Int) i (List.length (M.SModule.Imports m))) || q3) && ((Option.isSome q0) && ((Go.V.inB i (List.length (M.SModule.Imports m))) && true))))
 bif q4 then
 some (.inl false)
 else
 none
 else
 let q3 := (!(q1 == false))
 let q4 := (((Option.isSome q2) || q3) && (((Go.V.slB (0 : Int) i (List.length (M.SModule.Imports m))) || q3) && ((Option.isSome q0) && ((Go.V.inB i (List.length (M.SModule.Imports m))) && true))))
 bif q4 then
 M.s_l15Shape_l0 m fuel (Go.IntKind.wrap Go.IntKind.i64 (i + (1 : Int)))
 else
 none
 else
 some ((.inr (m)))
def s_l15Has (op : Int) : Option (Int × Int × Bool) :=
 bif (op == (1 : Int)) then
 some ((-(9223372036854775808 : Int)), (9223372036854775807 : Int), true)
 else
 bif (bif (op == (2 : Int)) then (op == (2 : Int)) else (bif (op == (3 : Int)) then (op == (3 : Int)) else (op == (4 : Int)))) then
 some ((0 : Int), (15 : Int), true)
 else
 bif (bif (op == (24 : Int)) then (op == (24 : Int)) else (bif (op == (25 : Int)) then (op == (25 : Int)) else (op == (26 : Int)))) then
 some ((0 : Int), (1 : Int), true)
 else
 bif (bif (op == (29 : Int)) then (op == (29 : Int)) else (op == (30 : Int))) then
 some ((0 : Int), (6 : Int), true)
 else
 bif (op == (32 : Int)) then
 some ((0 : Int), (7 : Int), true)
 else
 bif (op == (33 : Int)) then
 some ((0 : Int), (11 : Int), true)
 else
 bif (bif (op == (34 : Int)) then (op == (34 : Int)) else (bif (op == (35 : Int)) then (op == (35 : Int)) else (bif (op == (36 : Int)) then (op == (36 : Int)) else (bif (op == (37 : Int)) then (op == (37 : Int)) else (bif (op == (38 : Int)) then (op == (38 : Int)) else (op == (39 : Int))))))) then
 some ((0 : Int), (4096 : Int), true)
 else
 some ((0 : Int), (0 : Int), false)
def s_l15Ins (i : M.SIns) : Option (Bool) :=
 let q0 := (M.s_l15Has (M.SIns.Op i))
 bif ((Option.isSome q0) && true) then
 some (((decide ((1 : Int) ≤ (M.SIns.Op i))) && (decide ((M.SIns.Op i) ≤ (40 : Int)))) && ((decide ((Option.getD q0 default).1 ≤ (M.SIns.A i))) && (decide ((M.SIns.A i) ≤ (Option.getD q0 default).2.1))))
 else
 none
def s_l15Core_l0 (c : M.SCore) : Nat → Int → Option ((Bool) ⊕ (Unit))
 | 0, _ => none
 | fuel + 1, i =>
 bif (decide (i < ((List.length (M.SCore.Code c)) : Int))) then
 let q0 := (M.s_l15Ins (List.getD (M.SCore.Code c) (Int.toNat i) M.SIns.zero))
 bif (!(Option.getD q0 default)) then
 let q1 := ((Option.isSome q0) && ((Go.V.inB i (List.length (M.SCore.Code c))) && true))
 bif q1 then
 some (.inl false)
 else
 none
 else
 let q1 := ((Option.isSome q0) && ((Go.V.inB i (List.length (M.SCore.Code c))) && true))
 bif q1 then
 M.s_l15Core_l0 c fuel (Go.IntKind.wrap Go.IntKind.i64 (i + (1 : Int)))
 else
 none
 else
 some ((.inr (())))
def s_l15Core (c : M.SCore) : Option (Bool) :=
 let q0 := (M.s_l15Word (M.SCore.Name c))
 bif ((((!(Option.getD q0 default)) || (!((decide ((0 : Int) ≤ (M.SCore.Params c))) && (decide ((M.SCore.Params c) ≤ (8 : Int)))))) || (!((decide ((0 : Int) ≤ (M.SCore.Locals c))) && (decide ((M.SCore.Locals c) ≤ (8 : Int)))))) || (decide ((120 : Int) < ((List.length (M.SCore.Code c)) : Int)))) then
 bif ((Option.isSome q0) && true) then
 some false
 else
 none
 else
 match (M.s_l15Core_l0 c Go.V.bigN (0 : Int)) with
 | none => none
 | some y1 =>
 (match y1 with
 | .inl a2 =>
 bif ((Option.isSome q0) && true) then
 some a2
 else
 none
 | .inr b2 =>
 bif ((Option.isSome q0) && true) then
 some true
 else
 none)
def s_l15CoreAt_l0 (list : (List M.SCore)) (name : (List UInt8)) : Nat → Int → Option ((Int) ⊕ (Unit))
 | 0, _ => none
 | fuel + 1, i =>
 bif (decide (i < ((List.length list) : Int))) then
 bif ((M.SCore.Name (List.getD list (Int.toNat i) M.SCore.zero)) == name) then
 bif ((Go.V.inB i (List.length list)) && true) then
 some (.inl i)
 else
 none
 else
 bif ((Go.V.inB i (List.length list)) && true) then
 M.s_l15CoreAt_l0 list name fuel (Go.IntKind.wrap Go.IntKind.i64 (i + (1 : Int)))
 else
 none
 else
 some ((.inr (())))
def s_l15CoreAt (list : (List M.SCore)) (name : (List UInt8)) : Option (Int) :=
 match (M.s_l15CoreAt_l0 list name Go.V.bigN (0 : Int)) with
 | none => none
 | some y0 =>
 (match y0 with
 | .inl a1 =>
 some a1
 | .inr b1 =>
 some (-(1 : Int)))
def s_l15Shape_l1 (m : M.SModule) : Nat → Int → Option ((Bool) ⊕ (Unit))
 | 0, _ => none
 | fuel + 1, i =>
 bif (decide (i < ((List.length (M.SModule.Cores m)) : Int))) then
 let q0 := (M.s_l15Core (List.getD (M.SModule.Cores m) (Int.toNat i) M.SCore.zero))
 let q1 := (!(Option.getD q0 default))
 let q2 := (M.s_l15CoreAt (List.drop (Int.toNat (0 : Int)) (List.take (Int.toNat i) (M.SModule.Cores m))) (M.SCore.Name (List.getD (M.SModule.Cores m) (Int.toNat i) M.SCore.zero)))
 bif (q1 || (decide ((0 : Int) ≤ (Option.getD q2 default)))) then
 let q3 := (!(q1 == false))
 let q4 := (((Option.isSome q2) || q3) && (((Go.V.inB i (List.length (M.SModule.Cores m))) || q3) && (((Go.V.slB (0 : Int) i (List.length (M.SModule.Cores m))) || q3) && ((Option.isSome q0) && ((Go.V.inB i (List.length (M.SModule.Cores m))) && true)))))
 bif q4 then
 some (.inl false)
 else
 none
 else
 let q3 := (!(q1 == false))
 let q4 := (((Option.isSome q2) || q3) && (((Go.V.inB i (List.length (M.SModule.Cores m))) || q3) && (((Go.V.slB (0 : Int) i (List.length (M.SModule.Cores m))) || q3) && ((Option.isSome q0) && ((Go.V.inB i (List.length (M.SModule.Cores m))) && true)))))
 bif q4 then
 M.s_l15Shape_l1 m fuel (Go.IntKind.wrap Go.IntKind.i64 (i + (1 : Int)))
 else
 none
 else
 some ((.inr (())))
def s_l15Shape (m : M.SModule) : Option (Bool) :=
 bif (((!((decide ((1 : Int) ≤ (M.SModule.Pages m))) && (decide ((M.SModule.Pages m) ≤ (16 : Int))))) || (decide ((12 : Int) < ((List.length (M.SModule.Imports m)) : Int)))) || (decide ((8 : Int) < ((List.length (M.SModule.Cores m)) : Int)))) then
 some false
 else
 match (M.s_l15Shape_l0 m Go.V.bigN (0 : Int)) with
 | none => none
 | some y0 =>
 (match y0 with
 | .inl a1 =>
 some a1
 | .inr b1 =>
 match (M.s_l15Shape_l1 b1 Go.V.bigN (0 : Int)) with
 | none => none
 | some y2 =>
 (match y2 with
 | .inl a3 =>
 some a3
 | .inr b3 =>
 some true))
def s_l16Opens (op : Int) : Option (Bool) :=
 some (((op == (24 : Int)) || (op == (25 : Int))) || (op == (26 : Int)))
def s_l16Blocks_l0 (c : M.SCore) : Nat → Int → (List M.SCodeBlock) → (List Int) → Option ((Int × Int × (List M.SCodeBlock)) ⊕ (M.SCore × (List M.SCodeBlock) × (List Int)))
 | 0, _, _, _ => none
 | fuel + 1, at_, out, open_ =>
 bif (decide (at_ < ((List.length (M.SCore.Code c)) : Int))) then
 bif ((((M.SIns.Op (List.getD (M.SCore.Code c) (Int.toNat at_) M.SIns.zero)) == (24 : Int)) || ((M.SIns.Op (List.getD (M.SCore.Code c) (Int.toNat at_) M.SIns.zero)) == (25 : Int))) || ((M.SIns.Op (List.getD (M.SCore.Code c) (Int.toNat at_) M.SIns.zero)) == (26 : Int))) then
 bif (((List.length open_) : Int) == (6 : Int)) then
 bif ((Go.V.inB at_ (List.length (M.SCore.Code c))) && true) then
 some (.inl (at_, (4 : Int), []))
 else
 none
 else
 let q0 := [(M.SCodeBlock.mk at_ (-(1 : Int)) (-(1 : Int)) (0 : Int) ((M.SIns.A (List.getD (M.SCore.Code c) (Int.toNat at_) M.SIns.zero)) == (1 : Int)))]
 let q1 := [((List.length out) : Int)]
 bif ((decide (((List.length out) + (List.length q0)) ≤ 1073741824)) && ((decide (((List.length open_) + (List.length q1)) ≤ 1073741824)) && ((Go.V.inB at_ (List.length (M.SCore.Code c))) && true))) then
 M.s_l16Blocks_l0 c fuel (Go.IntKind.wrap Go.IntKind.i64 (at_ + (1 : Int))) (out ++ q0) (open_ ++ q1)
 else
 none
 else
 bif ((M.SIns.Op (List.getD (M.SCore.Code c) (Int.toNat at_) M.SIns.zero)) == (27 : Int)) then
 let q0 := (Go.IntKind.wrap Go.IntKind.i64 (((List.length open_) : Int) - (1 : Int)))
 let q1 := (Int.toNat q0)
 let q2 := (List.getD open_ q1 (0 : Int))
 let q3 := (Int.toNat q2)
 let q4 := (List.getD out q3 M.SCodeBlock.zero)
 let q5 := ((((List.length open_) : Int) == (0 : Int)) || ((M.SIns.Op (List.getD (M.SCore.Code c) (Int.toNat (M.SCodeBlock.At q4)) M.SIns.zero)) != (26 : Int)))
 bif (q5 || (decide ((0 : Int) ≤ (M.SCodeBlock.Else q4)))) then
 let q6 := (Go.V.inB q2 (List.length out))
 let q7 := (!(q5 == false))
 let q8 := (Go.V.inB q0 (List.length open_))
 let q9 := (Go.V.inB (M.SCodeBlock.At q4) (List.length (M.SCore.Code c)))
 let q10 := (!((((List.length open_) : Int) == (0 : Int)) == false))
 let q11 := ((q6 || q7) && ((q8 || q7) && ((q9 || q10) && ((q6 || q10) && ((q8 || q10) && ((Go.V.inB at_ (List.length (M.SCore.Code c))) && true))))))
 bif q11 then
 some (.inl (at_, (5 : Int), []))
 else
 none
 else
 let q6 := (Go.V.inB q2 (List.length out))
 let q7 := (Go.V.inB q0 (List.length open_))
 let q8 := (!(q5 == false))
 let q9 := (Go.V.inB (M.SCodeBlock.At q4) (List.length (M.SCore.Code c)))
 let q10 := (!((((List.length open_) : Int) == (0 : Int)) == false))
 let q11 := ((q6 || q8) && ((q7 || q8) && ((q9 || q10) && ((q6 || q10) && ((q7 || q10) && ((Go.V.inB at_ (List.length (M.SCore.Code c))) && true))))))
 bif (q6 && (q7 && q11)) then
 M.s_l16Blocks_l0 c fuel (Go.IntKind.wrap Go.IntKind.i64 (at_ + (1 : Int))) (List.set out q3 (M.SCodeBlock.mk (M.SCodeBlock.At q4) at_ (M.SCodeBlock.End q4) (M.SCodeBlock.Height q4) (M.SCodeBlock.Result q4))) open_
 else
 none
 else
 bif ((M.SIns.Op (List.getD (M.SCore.Code c) (Int.toNat at_) M.SIns.zero)) == (28 : Int)) then
 bif (((List.length open_) : Int) == (0 : Int)) then
 bif ((Go.V.inB at_ (List.length (M.SCore.Code c))) && true) then
 some (.inl (at_, (5 : Int), []))
 else
 none
 else
 let q0 := (Go.IntKind.wrap Go.IntKind.i64 (((List.length open_) : Int) - (1 : Int)))
 let q1 := (Int.toNat q0)
 let q2 := (List.getD open_ q1 (0 : Int))
 let q3 := (Int.toNat q2)
 let q4 := (List.getD out q3 M.SCodeBlock.zero)
 bif ((((M.SIns.Op (List.getD (M.SCore.Code c) (Int.toNat (M.SCodeBlock.At q4)) M.SIns.zero)) == (26 : Int)) && (M.SCodeBlock.Result q4)) && (decide ((M.SCodeBlock.Else q4) < (0 : Int)))) then
 let q5 := (Go.V.inB (M.SCodeBlock.At q4) (List.length (M.SCore.Code c)))
 let q6 := (Go.V.inB q2 (List.length out))
 let q7 := (Go.V.inB q0 (List.length open_))
 let q8 := (q5 && (q6 && (q7 && ((Go.V.inB at_ (List.length (M.SCore.Code c))) && true))))
 bif q8 then
 some (.inl (at_, (7 : Int), []))
 else
 none
 else
 let q5 := (Go.V.inB q2 (List.length out))
 let q6 := (Go.V.inB q0 (List.length open_))
 let q7 := (Go.V.inB (M.SCodeBlock.At q4) (List.length (M.SCore.Code c)))
 let q8 := (q7 && (q5 && (q6 && ((Go.V.inB at_ (List.length (M.SCore.Code c))) && true))))
 bif ((Go.V.slB (0 : Int) q0 (List.length open_)) && (q5 && (q6 && q8))) then
 M.s_l16Blocks_l0 c fuel (Go.IntKind.wrap Go.IntKind.i64 (at_ + (1 : Int))) (List.set out q3 (M.SCodeBlock.mk (M.SCodeBlock.At q4) (M.SCodeBlock.Else q4) at_ (M.SCodeBlock.Height q4) (M.SCodeBlock.Result q4))) (List.take q1 open_)
 else
 none
 else
 bif ((Go.V.inB at_ (List.length (M.SCore.Code c))) && true) then
 M.s_l16Blocks_l0 c fuel (Go.IntKind.wrap Go.IntKind.i64 (at_ + (1 : Int))) out open_
 else
 none
 else
 some ((.inr ((c, out, open_))))
def s_l16Blocks (c : M.SCore) : Option (Int × Int × (List M.SCodeBlock)) :=
 match (M.s_l16Blocks_l0 c Go.V.bigN (0 : Int) [] []) with
 | none => none
 | some y0 =>
 (match y0 with
 | .inl a1 =>
 some (a1.1, a1.2.1, a1.2.2)
 | .inr b1 =>
 bif (decide ((0 : Int) < ((List.length b1.2.2) : Int))) then
 some (((List.length (M.SCore.Code b1.1)) : Int), (5 : Int), [])
 else
 some ((0 : Int), (0 : Int), b1.2.1))
def s_l00Own (list : (List Int)) : Option ((List Int)) :=
 bif ((decide ((0 + (List.length list)) ≤ 1073741824)) && true) then
 some ([] ++ list)
 else
 none
def s_l16R_place (r : Int) (r2 : (List M.SImport)) (r3 : (List M.SCore)) (r4 : (List UInt8)) (r5 : Int) (r6 : Int) (r7 : Bool) (r8 : (List M.SIns)) (r9 : Int) (r10 : Bool) (o1 : (List M.SCodeBlock)) (o2 : (List Int)) : Option (M.SCodePlace × Int × (List M.SImport) × (List M.SCore) × (List UInt8) × Int × Int × Bool × (List M.SIns) × Int × Bool × (List M.SCodeBlock) × (List Int)) :=
 bif r10 then
 some ((M.SCodePlace.mk false (0 : Int) []), r, r2, r3, r4, r5, r6, r7, r8, r9, r10, o1, o2)
 else
 let q0 := (M.s_l00Own o2)
 bif ((Option.isSome q0) && true) then
 some ((M.SCodePlace.mk true r9 (Option.getD q0 default)), r, r2, r3, r4, r5, r6, r7, r8, r9, r10, o1, o2)
 else
 none
def s_l16One (yes : Bool) : Option (Int) :=
 bif yes then
 some (1 : Int)
 else
 some (0 : Int)
def s_l16R_close (end_ : Bool) (r : Int) (r2 : (List M.SImport)) (r3 : (List M.SCore)) (r4 : (List UInt8)) (r5 : Int) (r6 : Int) (r7 : Bool) (r8 : (List M.SIns)) (r9 : Int) (r10 : Bool) (o1 : (List M.SCodeBlock)) (o2 : (List Int)) : Option (Bool × Int × (List M.SImport) × (List M.SCore) × (List UInt8) × Int × Int × Bool × (List M.SIns) × Int × Bool × (List M.SCodeBlock) × (List Int)) :=
 let q0 := (Go.IntKind.wrap Go.IntKind.i64 (((List.length o2) : Int) - (1 : Int)))
 let q1 := (Int.toNat q0)
 let q2 := (List.getD o2 q1 (0 : Int))
 let q3 := (List.getD o1 (Int.toNat q2) M.SCodeBlock.zero)
 let q4 := (M.s_l16One (M.SCodeBlock.Result q3))
 let q5 := (Go.IntKind.wrap Go.IntKind.i64 ((M.SCodeBlock.Height q3) + (Option.getD q4 default)))
 bif ((!r10) && (r9 != q5)) then
 let q6 := (Option.isSome q4)
 let q7 := ((q6 || (!((!r10) == true))) && ((Go.V.inB q2 (List.length o1)) && ((Go.V.inB q0 (List.length o2)) && true)))
 bif q7 then
 some (false, r, r2, r3, r4, r5, r6, r7, r8, r9, r10, o1, o2)
 else
 none
 else
 bif end_ then
 let q6 := (Option.isSome q4)
 let q7 := ((q6 || (!((!r10) == true))) && ((Go.V.inB q2 (List.length o1)) && ((Go.V.inB q0 (List.length o2)) && true)))
 bif ((Go.V.slB (0 : Int) q0 (List.length o2)) && (q6 && q7)) then
 some (true, r, r2, r3, r4, r5, r6, r7, r8, q5, false, o1, (List.take q1 o2))
 else
 none
 else
 let q6 := (Option.isSome q4)
 let q7 := ((q6 || (!((!r10) == true))) && ((Go.V.inB q2 (List.length o1)) && ((Go.V.inB q0 (List.length o2)) && true)))
 bif q7 then
 some (true, r, r2, r3, r4, r5, r6, r7, r8, (M.SCodeBlock.Height q3), false, o1, o2)
 else
 none
def s_l16There (m : M.SModule) (c : M.SCore) (i : M.SIns) (deep : Int) : Option (Bool) :=
 bif (bif ((M.SIns.Op i) == (2 : Int)) then ((M.SIns.Op i) == (2 : Int)) else (bif ((M.SIns.Op i) == (3 : Int)) then ((M.SIns.Op i) == (3 : Int)) else ((M.SIns.Op i) == (4 : Int)))) then
 some (decide ((M.SIns.A i) < (Go.IntKind.wrap Go.IntKind.i64 ((M.SCore.Params c) + (M.SCore.Locals c)))))
 else
 bif ((M.SIns.Op i) == (32 : Int)) then
 some (decide ((M.SIns.A i) < ((List.length (M.SModule.Cores m)) : Int)))
 else
 bif ((M.SIns.Op i) == (33 : Int)) then
 some (decide ((M.SIns.A i) < ((List.length (M.SModule.Imports m)) : Int)))
 else
 bif (bif ((M.SIns.Op i) == (29 : Int)) then ((M.SIns.Op i) == (29 : Int)) else ((M.SIns.Op i) == (30 : Int))) then
 some (decide ((M.SIns.A i) ≤ deep))
 else
 some true
def s_l16Take (m : M.SModule) (i : M.SIns) : Option (Int × Int) :=
 bif (((M.SIns.Op i) == (1 : Int)) || ((M.SIns.Op i) == (2 : Int))) then
 some ((0 : Int), (1 : Int))
 else
 bif (((((M.SIns.Op i) == (3 : Int)) || ((M.SIns.Op i) == (5 : Int))) || ((M.SIns.Op i) == (26 : Int))) || ((M.SIns.Op i) == (30 : Int))) then
 some ((1 : Int), (0 : Int))
 else
 bif ((((((M.SIns.Op i) == (4 : Int)) || ((M.SIns.Op i) == (22 : Int))) || ((M.SIns.Op i) == (34 : Int))) || ((M.SIns.Op i) == (35 : Int))) || ((M.SIns.Op i) == (36 : Int))) then
 some ((1 : Int), (1 : Int))
 else
 bif ((decide ((6 : Int) ≤ (M.SIns.Op i))) && (decide ((M.SIns.Op i) ≤ (21 : Int)))) then
 some ((2 : Int), (1 : Int))
 else
 bif ((M.SIns.Op i) == (23 : Int)) then
 some ((3 : Int), (1 : Int))
 else
 bif ((((M.SIns.Op i) == (37 : Int)) || ((M.SIns.Op i) == (38 : Int))) || ((M.SIns.Op i) == (39 : Int))) then
 some ((2 : Int), (0 : Int))
 else
 bif ((M.SIns.Op i) == (32 : Int)) then
 let q0 := (M.s_l16One (M.SCore.Result (List.getD (M.SModule.Cores m) (Int.toNat (M.SIns.A i)) M.SCore.zero)))
 bif ((Option.isSome q0) && ((Go.V.inB (M.SIns.A i) (List.length (M.SModule.Cores m))) && ((Go.V.inB (M.SIns.A i) (List.length (M.SModule.Cores m))) && true))) then
 some ((M.SCore.Params (List.getD (M.SModule.Cores m) (Int.toNat (M.SIns.A i)) M.SCore.zero)), (Option.getD q0 default))
 else
 none
 else
 bif ((M.SIns.Op i) == (33 : Int)) then
 let q0 := (M.s_l16One (M.SImport.Result (List.getD (M.SModule.Imports m) (Int.toNat (M.SIns.A i)) M.SImport.zero)))
 bif ((Option.isSome q0) && ((Go.V.inB (M.SIns.A i) (List.length (M.SModule.Imports m))) && ((Go.V.inB (M.SIns.A i) (List.length (M.SModule.Imports m))) && true))) then
 some ((M.SImport.Params (List.getD (M.SModule.Imports m) (Int.toNat (M.SIns.A i)) M.SImport.zero)), (Option.getD q0 default))
 else
 none
 else
 some ((0 : Int), (0 : Int))
def s_l16R_base (r : M.Sl16R) : Option (Int) :=
 bif (decide ((0 : Int) < ((List.length (M.Sl16R.open_ r)) : Int))) then
 let q0 := (Go.IntKind.wrap Go.IntKind.i64 (((List.length (M.Sl16R.open_ r)) : Int) - (1 : Int)))
 let q1 := (List.getD (M.Sl16R.open_ r) (Int.toNat q0) (0 : Int))
 bif ((Go.V.inB q1 (List.length (M.Sl16R.blocks r))) && ((Go.V.inB q0 (List.length (M.Sl16R.open_ r))) && true)) then
 some (M.SCodeBlock.Height (List.getD (M.Sl16R.blocks r) (Int.toNat q1) M.SCodeBlock.zero))
 else
 none
 else
 some (0 : Int)
def s_l16R_carries (r : M.Sl16R) (depth : Int) : Option (Int) :=
 bif (depth == ((List.length (M.Sl16R.open_ r)) : Int)) then
 let q0 := (M.s_l16One (M.SCore.Result (M.Sl16R.c r)))
 bif ((Option.isSome q0) && true) then
 some (Option.getD q0 default)
 else
 none
 else
 let q0 := (Go.IntKind.wrap Go.IntKind.i64 ((Go.IntKind.wrap Go.IntKind.i64 (((List.length (M.Sl16R.open_ r)) : Int) - (1 : Int))) - depth))
 let q1 := (List.getD (M.Sl16R.open_ r) (Int.toNat q0) (0 : Int))
 let q2 := (List.getD (M.Sl16R.blocks r) (Int.toNat q1) M.SCodeBlock.zero)
 bif ((M.SIns.Op (List.getD (M.SCore.Code (M.Sl16R.c r)) (Int.toNat (M.SCodeBlock.At q2)) M.SIns.zero)) == (25 : Int)) then
 let q3 := ((Go.V.inB (M.SCodeBlock.At q2) (List.length (M.SCore.Code (M.Sl16R.c r)))) && ((Go.V.inB q1 (List.length (M.Sl16R.blocks r))) && ((Go.V.inB q0 (List.length (M.Sl16R.open_ r))) && true)))
 bif q3 then
 some (0 : Int)
 else
 none
 else
 let q3 := (M.s_l16One (M.SCodeBlock.Result q2))
 let q4 := ((Go.V.inB (M.SCodeBlock.At q2) (List.length (M.SCore.Code (M.Sl16R.c r)))) && ((Go.V.inB q1 (List.length (M.Sl16R.blocks r))) && ((Go.V.inB q0 (List.length (M.Sl16R.open_ r))) && true)))
 bif ((Option.isSome q3) && q4) then
 some (Option.getD q3 default)
 else
 none
def s_l16R_opened_l0 (r : M.Sl16R) (at_ : Int) : Nat → Int → Option ((Int) ⊕ (Unit))
 | 0, _ => none
 | fuel + 1, k =>
 bif (decide (k < ((List.length (M.Sl16R.blocks r)) : Int))) then
 bif ((M.SCodeBlock.At (List.getD (M.Sl16R.blocks r) (Int.toNat k) M.SCodeBlock.zero)) == at_) then
 bif ((Go.V.inB k (List.length (M.Sl16R.blocks r))) && true) then
 some (.inl k)
 else
 none
 else
 bif ((Go.V.inB k (List.length (M.Sl16R.blocks r))) && true) then
 M.s_l16R_opened_l0 r at_ fuel (Go.IntKind.wrap Go.IntKind.i64 (k + (1 : Int)))
 else
 none
 else
 some ((.inr (())))
def s_l16R_opened (r : M.Sl16R) (at_ : Int) : Option (Int) :=
 match (M.s_l16R_opened_l0 r at_ Go.V.bigN (0 : Int)) with
 | none => none
 | some y0 =>
 (match y0 with
 | .inl a1 =>
 some a1
 | .inr b1 =>
 some (0 : Int))
def s_l16Leaves (op : Int) : Option (Bool) :=
 some (((op == (29 : Int)) || (op == (31 : Int))) || (op == (40 : Int)))
def s_l16R_step (at_ : Int) (r : Int) (r2 : (List M.SImport)) (r3 : (List M.SCore)) (r4 : (List UInt8)) (r5 : Int) (r6 : Int) (r7 : Bool) (r8 : (List M.SIns)) (r9 : Int) (r10 : Bool) (o1 : (List M.SCodeBlock)) (o2 : (List Int)) : Option (Int × Int × (List M.SImport) × (List M.SCore) × (List UInt8) × Int × Int × Bool × (List M.SIns) × Int × Bool × (List M.SCodeBlock) × (List Int)) :=
 let q0 := ((M.SIns.Op (List.getD r8 (Int.toNat at_) M.SIns.zero)) == (28 : Int))
 bif (((M.SIns.Op (List.getD r8 (Int.toNat at_) M.SIns.zero)) == (27 : Int)) || q0) then
 let q1 := (M.s_l16R_close q0 r r2 r3 r4 r5 r6 r7 r8 r9 r10 o1 o2)
 let q2 := (Option.getD q1 default)
 bif (!q2.1) then
 let q3 := ((Option.isSome q1) && ((Go.V.inB at_ (List.length r8)) && true))
 bif q3 then
 let q4 := q2.2
 let q5 := q4.1
 let q6 := q4.2
 let q7 := q6.1
 let q8 := q6.2
 let q9 := q8.1
 let q10 := q8.2
 let q11 := q10.1
 let q12 := q10.2
 let q13 := q12.1
 let q14 := q12.2
 let q15 := q14.1
 let q16 := q14.2
 let q17 := q16.1
 let q18 := q16.2
 let q19 := q18.1
 let q20 := q18.2
 let q21 := q20.1
 let q22 := q20.2
 let q23 := q22.1
 let q24 := q22.2
 let q25 := q24.1
 let q26 := q24.2
 some ((7 : Int), q5, q7, q9, q11, q13, q15, q17, q19, q21, q23, q25, q26)
 else
 none
 else
 let q3 := q2.2
 let q4 := q3.2
 let q5 := q4.2
 let q6 := q5.2
 let q7 := q6.2
 let q8 := q7.2
 let q9 := q8.2
 let q10 := q9.2
 let q11 := q10.2
 let q12 := q11.1
 bif (decide ((24 : Int) < q12)) then
 let q13 := ((Option.isSome q1) && ((Go.V.inB at_ (List.length r8)) && true))
 bif q13 then
 let q14 := q3.1
 let q15 := q4.1
 let q16 := q5.1
 let q17 := q6.1
 let q18 := q7.1
 let q19 := q8.1
 let q20 := q9.1
 let q21 := q10.1
 let q22 := q11.2
 let q23 := q22.1
 let q24 := q22.2
 let q25 := q24.1
 let q26 := q24.2
 some ((4 : Int), q14, q15, q16, q17, q18, q19, q20, q21, q12, q23, q25, q26)
 else
 none
 else
 let q13 := ((Option.isSome q1) && ((Go.V.inB at_ (List.length r8)) && true))
 bif q13 then
 let q14 := q3.1
 let q15 := q4.1
 let q16 := q5.1
 let q17 := q6.1
 let q18 := q7.1
 let q19 := q8.1
 let q20 := q9.1
 let q21 := q10.1
 let q22 := q11.2
 let q23 := q22.1
 let q24 := q22.2
 let q25 := q24.1
 let q26 := q24.2
 some ((0 : Int), q14, q15, q16, q17, q18, q19, q20, q21, q12, q23, q25, q26)
 else
 none
 else
 bif r10 then
 bif ((Go.V.inB at_ (List.length r8)) && true) then
 some ((5 : Int), r, r2, r3, r4, r5, r6, r7, r8, r9, r10, o1, o2)
 else
 none
 else
 let q1 := (M.s_l16There (M.SModule.mk r r2 r3) (M.SCore.mk r4 r5 r6 r7 r8) (List.getD r8 (Int.toNat at_) M.SIns.zero) ((List.length o2) : Int))
 bif (!(Option.getD q1 default)) then
 let q2 := ((Option.isSome q1) && ((Go.V.inB at_ (List.length r8)) && true))
 bif q2 then
 some ((2 : Int), r, r2, r3, r4, r5, r6, r7, r8, r9, r10, o1, o2)
 else
 none
 else
 let q2 := (M.s_l16Take (M.SModule.mk r r2 r3) (List.getD r8 (Int.toNat at_) M.SIns.zero))
 let q3 := (Option.getD q2 default)
 let q4 := q3.1
 let q5 := (M.s_l16R_base (M.Sl16R.mk (M.SModule.mk r r2 r3) (M.SCore.mk r4 r5 r6 r7 r8) o1 o2 r9 r10))
 bif (decide ((Go.IntKind.wrap Go.IntKind.i64 (r9 - q4)) < (Option.getD q5 default))) then
 let q6 := ((Option.isSome q1) && ((Go.V.inB at_ (List.length r8)) && true))
 let q7 := ((Option.isSome q5) && ((Option.isSome q2) && q6))
 bif q7 then
 some ((7 : Int), r, r2, r3, r4, r5, r6, r7, r8, r9, r10, o1, o2)
 else
 none
 else
 let q6 := (Go.IntKind.wrap Go.IntKind.i64 (r9 + (Go.IntKind.wrap Go.IntKind.i64 (q3.2 - q4))))
 bif (decide ((24 : Int) < q6)) then
 let q7 := ((Option.isSome q1) && ((Go.V.inB at_ (List.length r8)) && true))
 let q8 := ((Option.isSome q5) && ((Option.isSome q2) && q7))
 bif q8 then
 some ((4 : Int), r, r2, r3, r4, r5, r6, r7, r8, q6, r10, o1, o2)
 else
 none
 else
 let q7 := ((M.SIns.Op (List.getD r8 (Int.toNat at_) M.SIns.zero)) == (29 : Int))
 let q8 := (bif q7 then q7 else ((M.SIns.Op (List.getD r8 (Int.toNat at_) M.SIns.zero)) == (30 : Int)))
 let q9 := (M.s_l16R_carries (M.Sl16R.mk (M.SModule.mk r r2 r3) (M.SCore.mk r4 r5 r6 r7 r8) o1 o2 q6 r10) (M.SIns.A (List.getD r8 (Int.toNat at_) M.SIns.zero)))
 let q10 := ((M.SIns.Op (List.getD r8 (Int.toNat at_) M.SIns.zero)) == (31 : Int))
 let q11 := (M.s_l16One r7)
 let q12 := (M.s_l16R_base (M.Sl16R.mk (M.SModule.mk r r2 r3) (M.SCore.mk r4 r5 r6 r7 r8) o1 o2 q6 r10))
 bif (decide ((Go.IntKind.wrap Go.IntKind.i64 (q6 - (bif q8 then (Option.getD q9 default) else (bif q10 then (Option.getD q11 default) else (0 : Int))))) < (Option.getD q12 default))) then
 let q13 := ((Option.isSome q1) && ((Go.V.inB at_ (List.length r8)) && true))
 let q14 := ((Option.isSome q5) && ((Option.isSome q2) && q13))
 let q15 := ((q14 || (!q7)) && (q14 || q7))
 let q16 := ((Option.isSome q12) && ((((Option.isSome q9) && q15) || (!q8)) && (((((Option.isSome q11) && q15) || (!q10)) && (q15 || q10)) || q8)))
 bif q16 then
 some ((7 : Int), r, r2, r3, r4, r5, r6, r7, r8, q6, r10, o1, o2)
 else
 none
 else
 bif ((((M.SIns.Op (List.getD r8 (Int.toNat at_) M.SIns.zero)) == (24 : Int)) || ((M.SIns.Op (List.getD r8 (Int.toNat at_) M.SIns.zero)) == (25 : Int))) || ((M.SIns.Op (List.getD r8 (Int.toNat at_) M.SIns.zero)) == (26 : Int))) then
 let q13 := (M.s_l00Own o2)
 let q14 := (M.s_l16R_opened (M.Sl16R.mk (M.SModule.mk r r2 r3) (M.SCore.mk r4 r5 r6 r7 r8) o1 o2 q6 r10) at_)
 let q15 := (Option.getD q14 default)
 let q16 := [q15]
 let q17 := ((Option.isSome q1) && ((Go.V.inB at_ (List.length r8)) && true))
 let q18 := ((Option.isSome q5) && ((Option.isSome q2) && q17))
 let q19 := ((q18 || (!q7)) && (q18 || q7))
 let q20 := ((Option.isSome q12) && ((((Option.isSome q9) && q19) || (!q8)) && (((((Option.isSome q11) && q19) || (!q10)) && (q19 || q10)) || q8)))
 bif ((decide (((List.length (Option.getD q13 default)) + (List.length q16)) ≤ 1073741824)) && ((Option.isSome q13) && ((Go.V.inB q15 (List.length o1)) && ((Option.isSome q14) && q20)))) then
 let q21 := ((q7 || q10) || ((M.SIns.Op (List.getD r8 (Int.toNat at_) M.SIns.zero)) == (40 : Int)))
 let q22 := (Int.toNat q15)
 let q23 := (List.getD o1 q22 M.SCodeBlock.zero)
 some ((0 : Int), r, r2, r3, r4, r5, r6, r7, r8, q6, q21, (List.set o1 q22 (M.SCodeBlock.mk (M.SCodeBlock.At q23) (M.SCodeBlock.Else q23) (M.SCodeBlock.End q23) q6 (M.SCodeBlock.Result q23))), ((Option.getD q13 default) ++ q16))
 else
 none
 else
 let q13 := ((Option.isSome q1) && ((Go.V.inB at_ (List.length r8)) && true))
 let q14 := ((Option.isSome q5) && ((Option.isSome q2) && q13))
 let q15 := ((q14 || (!q7)) && (q14 || q7))
 let q16 := ((Option.isSome q12) && ((((Option.isSome q9) && q15) || (!q8)) && (((((Option.isSome q11) && q15) || (!q10)) && (q15 || q10)) || q8)))
 bif q16 then
 let q17 := ((q7 || q10) || ((M.SIns.Op (List.getD r8 (Int.toNat at_) M.SIns.zero)) == (40 : Int)))
 some ((0 : Int), r, r2, r3, r4, r5, r6, r7, r8, q6, q17, o1, o2)
 else
 none
def s_l16Core_l0 (c : M.SCore) : Nat → Int → Int → (List M.SImport) → (List M.SCore) → (List UInt8) → Int → Int → Bool → (List M.SIns) → Int → Bool → (List M.SCodePlace) → (List M.SCodeBlock) → (List Int) → Option ((Int × Int × (List M.SCodePlace)) ⊕ (M.SCore × Int × (List M.SImport) × (List M.SCore) × (List UInt8) × Int × Int × Bool × (List M.SIns) × Int × Bool × (List M.SCodePlace) × (List M.SCodeBlock) × (List Int)))
 | 0, _, _, _, _, _, _, _, _, _, _, _, _, _, _ => none
 | fuel + 1, at_, r, r2, r3, r4, r5, r6, r7, r8, r9, r10, out, o6, o7 =>
 bif (decide (at_ < ((List.length (M.SCore.Code c)) : Int))) then
 let q0 := (M.s_l16R_place r r2 r3 r4 r5 r6 r7 r8 r9 r10 o6 o7)
 let q1 := (Option.getD q0 default)
 let q2 := q1.2
 let q3 := q2.2
 let q4 := q3.2
 let q5 := q4.2
 let q6 := q5.2
 let q7 := q6.2
 let q8 := q7.2
 let q9 := q8.2
 let q10 := q9.2
 let q11 := q10.2
 let q12 := q11.2
 let q13 := (M.s_l16R_step at_ q2.1 q3.1 q4.1 q5.1 q6.1 q7.1 q8.1 q9.1 q10.1 q11.1 q12.1 q12.2)
 let q14 := (Option.getD q13 default)
 let q15 := q14.1
 bif (q15 != (0 : Int)) then
 let q16 := [q1.1]
 let q17 := ((Option.isSome q13) && ((decide (((List.length out) + (List.length q16)) ≤ 1073741824)) && ((Option.isSome q0) && true)))
 bif q17 then
 some (.inl (at_, q15, []))
 else
 none
 else
 let q16 := [q1.1]
 let q17 := ((Option.isSome q13) && ((decide (((List.length out) + (List.length q16)) ≤ 1073741824)) && ((Option.isSome q0) && true)))
 bif q17 then
 let q18 := q14.2
 let q19 := q18.2
 let q20 := q19.2
 let q21 := q20.2
 let q22 := q21.2
 let q23 := q22.2
 let q24 := q23.2
 let q25 := q24.2
 let q26 := q25.2
 let q27 := q26.2
 let q28 := q27.2
 M.s_l16Core_l0 c fuel (Go.IntKind.wrap Go.IntKind.i64 (at_ + (1 : Int))) q18.1 q19.1 q20.1 q21.1 q22.1 q23.1 q24.1 q25.1 q26.1 q27.1 (out ++ q16) q28.1 q28.2
 else
 none
 else
 some ((.inr ((c, r, r2, r3, r4, r5, r6, r7, r8, r9, r10, out, o6, o7))))
def s_l16Core (m : M.SModule) (k : Int) : Option ((List M.SCodePlace) × Int × Int) :=
 let q0 := (M.s_l16Blocks (List.getD (M.SModule.Cores m) (Int.toNat k) M.SCore.zero))
 let q1 := (Option.getD q0 default)
 let q2 := q1.2
 let q3 := q2.1
 bif (q3 != (0 : Int)) then
 let q4 := ((Option.isSome q0) && ((Go.V.inB k (List.length (M.SModule.Cores m))) && true))
 bif q4 then
 some ([], q1.1, q3)
 else
 none
 else
 match (M.s_l16Core_l0 (List.getD (M.SModule.Cores m) (Int.toNat k) M.SCore.zero) Go.V.bigN (0 : Int) (M.SModule.Pages m) (M.SModule.Imports m) (M.SModule.Cores m) (M.SCore.Name (List.getD (M.SModule.Cores m) (Int.toNat k) M.SCore.zero)) (M.SCore.Params (List.getD (M.SModule.Cores m) (Int.toNat k) M.SCore.zero)) (M.SCore.Locals (List.getD (M.SModule.Cores m) (Int.toNat k) M.SCore.zero)) (M.SCore.Result (List.getD (M.SModule.Cores m) (Int.toNat k) M.SCore.zero)) (M.SCore.Code (List.getD (M.SModule.Cores m) (Int.toNat k) M.SCore.zero)) (0 : Int) false [] q2.2 []) with
 | none => none
 | some y4 =>
 (match y4 with
 | .inl a5 =>
 let q6 := ((Option.isSome q0) && ((Go.V.inB k (List.length (M.SModule.Cores m))) && true))
 bif q6 then
 some (a5.2.2, a5.1, a5.2.1)
 else
 none
 | .inr b5 =>
 let q6 := b5.2.2.2.2.2.2.2.2.2
 let q7 := q6.2
 let q8 := (!q7.1)
 let q9 := b5.1
 let q10 := (M.s_l16One (M.SCore.Result q9))
 let q11 := (Option.getD q10 default)
 bif (q8 && (q6.1 != q11)) then
 let q12 := (Option.isSome q10)
 let q13 := ((Option.isSome q0) && ((Go.V.inB k (List.length (M.SModule.Cores m))) && true))
 let q14 := ((q12 || (!(q8 == true))) && q13)
 bif q14 then
 some ([], ((List.length (M.SCore.Code q9)) : Int), (7 : Int))
 else
 none
 else
 let q12 := q7.2.1
 let q13 := [(M.SCodePlace.mk true q11 [])]
 let q14 := (Option.isSome q10)
 let q15 := ((Option.isSome q0) && ((Go.V.inB k (List.length (M.SModule.Cores m))) && true))
 let q16 := ((q14 || (!(q8 == true))) && q15)
 bif ((decide (((List.length q12) + (List.length q13)) ≤ 1073741824)) && (q14 && q16)) then
 some ((q12 ++ q13), (0 : Int), (0 : Int))
 else
 none)
def s_l16Module_l0 (m : M.SModule) : Nat → Int → Option ((Int × Int × Int) ⊕ (Unit))
 | 0, _ => none
 | fuel + 1, k =>
 bif (decide (k < ((List.length (M.SModule.Cores m)) : Int))) then
 let q0 := (M.s_l16Core m k)
 let q1 := (Option.getD q0 default).2
 let q2 := q1.2
 bif (q2 != (0 : Int)) then
 bif ((Option.isSome q0) && true) then
 some (.inl (k, q1.1, q2))
 else
 none
 else
 bif ((Option.isSome q0) && true) then
 M.s_l16Module_l0 m fuel (Go.IntKind.wrap Go.IntKind.i64 (k + (1 : Int)))
 else
 none
 else
 some ((.inr (())))
def s_l16Module (m : M.SModule) : Option (Int × Int × Int) :=
 let q0 := (M.s_l15Shape m)
 bif (!(Option.getD q0 default)) then
 bif ((Option.isSome q0) && true) then
 some ((0 : Int), (0 : Int), (1 : Int))
 else
 none
 else
 match (M.s_l16Module_l0 m Go.V.bigN (0 : Int)) with
 | none => none
 | some y1 =>
 (match y1 with
 | .inl a2 =>
 bif ((Option.isSome q0) && true) then
 some (a2.1, a2.2.1, a2.2.2)
 else
 none
 | .inr b2 =>
 bif ((Option.isSome q0) && true) then
 some ((0 : Int), (0 : Int), (0 : Int))
 else
 none)
def s_l16Right (m : M.SModule) : Option (Bool) :=
 let q0 := (M.s_l16Module m)
 bif ((Option.isSome q0) && true) then
 some ((Option.getD q0 default).2.2 == (0 : Int))
 else
 none
def s_l15Draw_l0 (t2 : Int) (m : Int) (o7 : (List M.SImport)) (o8 : (List M.SCore)) (o10 : (List M.SCore)) : Nat → Int → M.Sl00Src → (List M.SImport) → Option (M.Sl00Src × Int × Int × (List M.SImport) × (List M.SCore) × (List M.SImport) × (List M.SCore))
 | 0, _, _, _ => none
 | fuel + 1, i, s, o9 =>
 bif (decide ((0 : Int) < i)) then
 let q0 := [(104 : UInt8), (111 : UInt8), (115 : UInt8), (116 : UInt8), (45 : UInt8)]
 let q1 := (M.s_l15Digits ((List.length o9) : Int))
 let q2 := (Option.getD q1 default)
 let q3 := (M.s_l00Src_pick (3 : Int) s)
 let q4 := (M.s_l00Src_one (2 : Int) (Option.getD q3 default).2)
 let q5 := (Option.getD q4 default)
 let q6 := [(M.SImport.mk (q0 ++ q2) (Option.getD q3 default).1 q5.1)]
 bif ((decide (((List.length o9) + (List.length q6)) ≤ 1073741824)) && ((Option.isSome q4) && ((Option.isSome q3) && ((Go.V.catB q0 q2) && ((Option.isSome q1) && true))))) then
 M.s_l15Draw_l0 t2 m o7 o8 o10 fuel (Go.IntKind.wrap Go.IntKind.i64 (i - (1 : Int))) q5.2 (o9 ++ q6)
 else
 none
 else
 some ((s, t2, m, o7, o8, o9, o10))
def s_l15Draw_l1 (t2 : Int) (m : Int) (o7 : (List M.SImport)) (o8 : (List M.SCore)) (o9 : (List M.SImport)) : Nat → Int → M.Sl00Src → (List M.SCore) → Option (M.Sl00Src × Int × Int × (List M.SImport) × (List M.SCore) × (List M.SImport) × (List M.SCore))
 | 0, _, _, _ => none
 | fuel + 1, i, s, o10 =>
 bif (decide ((0 : Int) < i)) then
 let q0 := [[(114 : UInt8), (117 : UInt8), (110 : UInt8)], [(116 : UInt8), (119 : UInt8), (111 : UInt8)], [(116 : UInt8), (104 : UInt8), (114 : UInt8), (101 : UInt8), (101 : UInt8)]]
 let q1 := (M.s_l00Src_pick (3 : Int) s)
 let q2 := (M.s_l00Src_pick (3 : Int) (Option.getD q1 default).2)
 let q3 := (Option.getD q2 default)
 let q4 := (M.s_l00Src_one (2 : Int) q3.2)
 let q5 := (Option.getD q4 default)
 let q6 := [(M.SCore.mk (List.getD q0 (Int.toNat ((List.length o10) : Int)) []) (Option.getD q1 default).1 q3.1 q5.1 [])]
 bif ((decide (((List.length o10) + (List.length q6)) ≤ 1073741824)) && ((Option.isSome q4) && ((Option.isSome q2) && ((Option.isSome q1) && ((Go.V.inB ((List.length o10) : Int) (List.length q0)) && true))))) then
 M.s_l15Draw_l1 t2 m o7 o8 o9 fuel (Go.IntKind.wrap Go.IntKind.i64 (i - (1 : Int))) q5.2 (o10 ++ q6)
 else
 none
 else
 some ((s, t2, m, o7, o8, o9, o10))
def s_l15Draw_l2_0 (i : Int) (c : Nat) (n : Int) (t2 : Int) (m : Int) (o8 : (List M.SImport)) (o9 : (List M.SCore)) : Nat → Int → M.Sl00Src → (List M.SCore) → (List M.SImport) → Option (Int × Nat × Int × M.Sl00Src × Int × Int × (List M.SCore) × (List M.SImport) × (List M.SCore) × (List M.SImport))
 | 0, _, _, _, _ => none
 | fuel + 1, k, s, o7, o10 =>
 bif (decide ((0 : Int) < k)) then
 let q0 := (M.s_l15Deed m n (2 : Int) s o10 o7)
 let q1 := (Option.getD q0 default)
 let q2 := q1.2
 let q3 := q2.2
 let q4 := q3.1
 let q5 := (List.getD q4 c M.SCore.zero)
 let q6 := q3.2
 bif (decide ((Go.IntKind.wrap Go.IntKind.i64 (((List.length (M.SCore.Code q5)) : Int) + ((List.length q6) : Int))) < (90 : Int))) then
 let q7 := ((Option.isSome q0) && true)
 bif ((decide (c = c)) && ((decide (((List.length (M.SCore.Code q5)) + (List.length q6)) ≤ 1073741824)) && ((decide (c = c)) && q7))) then
 let q8 := q1.1
 let q9 := q2.1
 M.s_l15Draw_l2_0 i c n t2 m o8 o9 fuel (Go.IntKind.wrap Go.IntKind.i64 (k - (1 : Int))) q8 (List.set q4 c (M.SCore.mk (M.SCore.Name q5) (M.SCore.Params q5) (M.SCore.Locals q5) (M.SCore.Result q5) ((M.SCore.Code q5) ++ q6))) q9
 else
 none
 else
 let q7 := ((Option.isSome q0) && true)
 bif q7 then
 let q8 := q1.1
 let q9 := q2.1
 M.s_l15Draw_l2_0 i c n t2 m o8 o9 fuel (Go.IntKind.wrap Go.IntKind.i64 (k - (1 : Int))) q8 (List.set q4 c q5) q9
 else
 none
 else
 some ((i, c, n, s, t2, m, o7, o8, o9, o10))
def s_l15Draw_l2 : Nat → Int → M.Sl00Src → Int → Int → (List M.SImport) → (List M.SCore) → (List M.SImport) → (List M.SCore) → Option ((List UInt8) × Int × Int × Int × Int × (List M.SImport) × (List M.SCore) × (List M.SImport) × (List M.SCore))
 | 0, _, _, _, _, _, _, _, _ => none
 | fuel + 1, i, s, t2, m, o7, o8, o9, o10 =>
 bif (decide (i < ((List.length o10) : Int))) then
 let q0 := (M.s_l00Src_pick (5 : Int) s)
 match (M.s_l15Draw_l2_0 i (Int.toNat i) (Go.IntKind.wrap Go.IntKind.i64 ((M.SCore.Params (List.getD o10 (Int.toNat i) M.SCore.zero)) + (M.SCore.Locals (List.getD o10 (Int.toNat i) M.SCore.zero)))) t2 m o7 o8 Go.V.bigN (Option.getD q0 default).1 (Option.getD q0 default).2 o10 o9) with
 | none => none
 | some y1 =>
 let q2 := y1.2
 let q3 := q2.2
 let q4 := q3.2
 let q5 := (M.s_l00Src_one (9 : Int) q4.1)
 let q6 := (Option.getD q5 default)
 bif q6.1 then
 let q7 := q2.1
 let q8 := q4.2
 let q9 := q8.2
 let q10 := q9.2
 let q11 := q10.1
 let q12 := (List.getD q11 q7 M.SCore.zero)
 let q13 := (List.length (M.SCore.Code q12))
 let q14 := [(M.SIns.mk (40 : Int) (0 : Int))]
 let q15 := ((Option.isSome q5) && ((Option.isSome q0) && ((Go.V.inB i (List.length o10)) && true)))
 bif ((decide (q7 = q7)) && ((decide ((q13 + (List.length q14)) ≤ 1073741824)) && q15)) then
 let q16 := (Go.IntKind.wrap Go.IntKind.i64 (y1.1 + (1 : Int)))
 let q17 := q6.2
 let q18 := q8.1
 let q19 := q9.1
 let q20 := q10.2
 let q21 := q20.1
 let q22 := q20.2
 let q23 := q22.1
 let q24 := q22.2
 M.s_l15Draw_l2 fuel q16 q17 q18 q19 q21 q23 q24 (List.set q11 q7 (M.SCore.mk (M.SCore.Name q12) (M.SCore.Params q12) (M.SCore.Locals q12) (M.SCore.Result q12) ((M.SCore.Code q12) ++ q14)))
 else
 none
 else
 let q7 := q4.2
 let q8 := q7.2
 let q9 := q8.2
 let q10 := q9.1
 let q11 := q2.1
 let q12 := (List.getD q10 q11 M.SCore.zero)
 bif (M.SCore.Result q12) then
 let q13 := q6.2
 let q14 := (M.s_l15Value q3.1 (2 : Int) q13)
 let q15 := (Option.getD q14 default)
 let q16 := (M.s_l00Src_one (3 : Int) q15.1)
 let q17 := (Option.getD q16 default)
 bif q17.1 then
 let q18 := q15.2
 let q19 := (List.set q10 q11 (M.SCore.mk (M.SCore.Name q12) (M.SCore.Params q12) (M.SCore.Locals q12) (M.SCore.Result q12) ((M.SCore.Code q12) ++ q18)))
 let q20 := (List.getD q19 q11 M.SCore.zero)
 let q21 := [(M.SIns.mk (31 : Int) (0 : Int))]
 let q22 := (List.length (M.SCore.Code q12))
 let q23 := ((Option.isSome q5) && ((Option.isSome q0) && ((Go.V.inB i (List.length o10)) && true)))
 let q24 := ((Option.isSome q16) && ((decide (q11 = q11)) && ((decide ((q22 + (List.length q18)) ≤ 1073741824)) && ((Option.isSome q14) && q23))))
 bif ((decide (q11 = q11)) && ((decide (((List.length (M.SCore.Code q20)) + (List.length q21)) ≤ 1073741824)) && q24)) then
 let q25 := (Go.IntKind.wrap Go.IntKind.i64 (y1.1 + (1 : Int)))
 let q26 := q17.2
 let q27 := q7.1
 let q28 := q8.1
 let q29 := q9.2
 let q30 := q29.1
 let q31 := q29.2
 let q32 := q31.1
 let q33 := q31.2
 M.s_l15Draw_l2 fuel q25 q26 q27 q28 q30 q32 q33 (List.set q19 q11 (M.SCore.mk (M.SCore.Name q20) (M.SCore.Params q20) (M.SCore.Locals q20) (M.SCore.Result q20) ((M.SCore.Code q20) ++ q21)))
 else
 none
 else
 let q18 := (List.length (M.SCore.Code q12))
 let q19 := q15.2
 let q20 := ((Option.isSome q5) && ((Option.isSome q0) && ((Go.V.inB i (List.length o10)) && true)))
 let q21 := ((Option.isSome q16) && ((decide (q11 = q11)) && ((decide ((q18 + (List.length q19)) ≤ 1073741824)) && ((Option.isSome q14) && q20))))
 bif q21 then
 let q22 := (Go.IntKind.wrap Go.IntKind.i64 (y1.1 + (1 : Int)))
 let q23 := q17.2
 let q24 := q7.1
 let q25 := q8.1
 let q26 := q9.2
 let q27 := q26.1
 let q28 := q26.2
 let q29 := q28.1
 let q30 := q28.2
 let q31 := (List.set q10 q11 (M.SCore.mk (M.SCore.Name q12) (M.SCore.Params q12) (M.SCore.Locals q12) (M.SCore.Result q12) ((M.SCore.Code q12) ++ q19)))
 M.s_l15Draw_l2 fuel q22 q23 q24 q25 q27 q29 q30 q31
 else
 none
 else
 let q13 := ((Option.isSome q5) && ((Option.isSome q0) && ((Go.V.inB i (List.length o10)) && true)))
 bif q13 then
 let q14 := (Go.IntKind.wrap Go.IntKind.i64 (y1.1 + (1 : Int)))
 let q15 := q6.2
 let q16 := q7.1
 let q17 := q8.1
 let q18 := q9.2
 let q19 := q18.1
 let q20 := q18.2
 let q21 := q20.1
 let q22 := q20.2
 M.s_l15Draw_l2 fuel q14 q15 q16 q17 q19 q21 q22 q10
 else
 none
 else
 some (((M.Sl00Src.code s), (M.Sl00Src.at_ s), (M.Sl00Src.seed s), t2, m, o7, o8, o9, o10))
def s_l15Draw (s : M.Sl00Src) : Option (M.SModule × M.Sl00Src) :=
 let q0 := (M.s_l00Src_pick (2 : Int) s)
 let q1 := (M.s_l00Src_pick (3 : Int) (Option.getD q0 default).2)
 let q2 := (Option.getD q1 default)
 match (M.s_l15Draw_l0 (0 : Int) (Go.IntKind.wrap Go.IntKind.i64 ((1 : Int) + (Option.getD q0 default).1)) [] [] [] Go.V.bigN q2.1 q2.2 []) with
 | none => none
 | some y3 =>
 let q4 := y3.2
 let q5 := q4.2
 let q6 := q5.2
 let q7 := q6.2
 let q8 := q7.2
 let q9 := (M.s_l00Src_pick (3 : Int) y3.1)
 let q10 := (Option.getD q9 default)
 match (M.s_l15Draw_l1 q4.1 q5.1 q6.1 q7.1 q8.1 Go.V.bigN (Go.IntKind.wrap Go.IntKind.i64 ((1 : Int) + q10.1)) q10.2 q8.2) with
 | none => none
 | some y11 =>
 let q12 := y11.2
 let q13 := q12.2
 let q14 := q13.2
 let q15 := q14.2
 let q16 := q15.2
 match (M.s_l15Draw_l2 Go.V.bigN (0 : Int) y11.1 q12.1 q13.1 q14.1 q15.1 q16.1 q16.2) with
 | none => none
 | some y17 =>
 bif ((Option.isSome q9) && ((Option.isSome q1) && ((Option.isSome q0) && true))) then
 let q18 := y17.2
 let q19 := q18.2
 let q20 := q19.2.2
 let q21 := q20.2.2.2
 some ((M.SModule.mk q20.1 q21.1 q21.2), (M.Sl00Src.mk y17.1 q18.1 q19.1))
 else
 none
def s_A8Module (code : (List UInt8)) : Option (M.SModule) :=
 let q0 := (M.s_l15Draw (M.Sl00Src.mk code (0 : Int) (0 : Int)))
 let q1 := (Option.getD q0 default).1
 let q2 := (M.s_l16Right q1)
 bif (!(Option.getD q2 default)) then
 let q3 := ((Option.isSome q2) && ((Option.isSome q0) && true))
 bif q3 then
 some (M.SModule.mk (1 : Int) [] [(M.SCore.mk [(114 : UInt8), (117 : UInt8), (110 : UInt8)] (0 : Int) (0 : Int) false [(M.SIns.mk (1 : Int) (3 : Int)), (M.SIns.mk (5 : Int) (0 : Int))])])
 else
 none
 else
 let q3 := ((Option.isSome q2) && ((Option.isSome q0) && true))
 bif q3 then
 some q1
 else
 none
def i_within (n : Int) (low : Int) (high : Int) : Option (Bool) :=
 some ((decide (low ≤ n)) && (decide (n ≤ high)))
def i_ModuleShape_l0 (t28 : (List M.SImport)) (t29 : Int) (m : M.SModule) (cores : (List (List UInt8))) : Nat → Int → (List (List UInt8)) → Option ((Bool) ⊕ (M.SModule × (List (List UInt8)) × (List (List UInt8))))
 | 0, _, _ => none
 | fuel + 1, t30, imports =>
 bif (decide (t30 < t29)) then
 bif (!((decide ((0 : Int) ≤ (M.SImport.Params (List.getD t28 (Int.toNat t30) M.SImport.zero)))) && (decide ((M.SImport.Params (List.getD t28 (Int.toNat t30) M.SImport.zero)) ≤ (8 : Int))))) then
 bif ((Go.V.inB t30 (List.length t28)) && true) then
 some (.inl false)
 else
 none
 else
 let q0 := [(M.SImport.Name (List.getD t28 (Int.toNat t30) M.SImport.zero))]
 bif ((decide (((List.length imports) + (List.length q0)) ≤ 1073741824)) && ((Go.V.inB t30 (List.length t28)) && true)) then
 M.i_ModuleShape_l0 t28 t29 m cores fuel (Go.IntKind.wrap Go.IntKind.i64 (t30 + (1 : Int))) (imports ++ q0)
 else
 none
 else
 some ((.inr ((m, imports, cores))))
def i_numRange (kind : Int) : Option (Int × Int × Bool) :=
 bif (kind == (3 : Int)) then
 some ((0 : Int), (255 : Int), true)
 else
 bif (kind == (4 : Int)) then
 some ((-(128 : Int)), (127 : Int), true)
 else
 bif (kind == (5 : Int)) then
 some ((0 : Int), (65535 : Int), true)
 else
 bif (kind == (6 : Int)) then
 some ((-(32768 : Int)), (32767 : Int), true)
 else
 bif (kind == (7 : Int)) then
 some ((0 : Int), (4294967295 : Int), true)
 else
 bif (kind == (8 : Int)) then
 some ((-(2147483648 : Int)), (2147483647 : Int), true)
 else
 bif (kind == (9 : Int)) then
 some ((-(9223372036854775808 : Int)), (9223372036854775807 : Int), true)
 else
 some ((0 : Int), (0 : Int), false)
def i_operandOf (op : Int) : Option (Int × Int × Bool) :=
 bif (op == (1 : Int)) then
 some ((-(9223372036854775808 : Int)), (9223372036854775807 : Int), true)
 else
 bif (bif (op == (2 : Int)) then (op == (2 : Int)) else (bif (op == (3 : Int)) then (op == (3 : Int)) else (op == (4 : Int)))) then
 some ((0 : Int), (15 : Int), true)
 else
 bif (bif (op == (24 : Int)) then (op == (24 : Int)) else (bif (op == (25 : Int)) then (op == (25 : Int)) else (op == (26 : Int)))) then
 some ((0 : Int), (1 : Int), true)
 else
 bif (bif (op == (29 : Int)) then (op == (29 : Int)) else (op == (30 : Int))) then
 some ((0 : Int), (6 : Int), true)
 else
 bif (op == (32 : Int)) then
 some ((0 : Int), (7 : Int), true)
 else
 bif (op == (33 : Int)) then
 some ((0 : Int), (11 : Int), true)
 else
 bif (bif (op == (34 : Int)) then (op == (34 : Int)) else (bif (op == (35 : Int)) then (op == (35 : Int)) else (bif (op == (36 : Int)) then (op == (36 : Int)) else (bif (op == (37 : Int)) then (op == (37 : Int)) else (bif (op == (38 : Int)) then (op == (38 : Int)) else (op == (39 : Int))))))) then
 some ((0 : Int), (4096 : Int), true)
 else
 some ((0 : Int), (0 : Int), false)
def i_InsOk (i : M.SIns) : Option (Bool) :=
 let q0 := (M.i_operandOf (M.SIns.Op i))
 bif ((Option.isSome q0) && true) then
 some (((decide ((1 : Int) ≤ (M.SIns.Op i))) && (decide ((M.SIns.Op i) ≤ (40 : Int)))) && ((decide ((Option.getD q0 default).1 ≤ (M.SIns.A i))) && (decide ((M.SIns.A i) ≤ (Option.getD q0 default).2.1))))
 else
 none
def i_coreOk_c1 (i : M.SIns) : Option (Bool) :=
 let q0 := (M.i_InsOk i)
 bif ((Option.isSome q0) && true) then
 some (!(Option.getD q0 default))
 else
 none
def slices_IndexFunc_Ins_Ins_l0 (s : (List M.SIns)) (t7 : Int) : Nat → Int → Option ((Int) ⊕ (Unit))
 | 0, _ => none
 | fuel + 1, t8 =>
 bif (decide (t8 < t7)) then
 let q0 := (M.i_coreOk_c1 (List.getD s (Int.toNat t8) M.SIns.zero))
 bif (Option.getD q0 default) then
 let q1 := ((Option.isSome q0) && ((Go.V.inB t8 (List.length s)) && true))
 bif q1 then
 some (.inl t8)
 else
 none
 else
 let q1 := ((Option.isSome q0) && ((Go.V.inB t8 (List.length s)) && true))
 bif q1 then
 M.slices_IndexFunc_Ins_Ins_l0 s t7 fuel (Go.IntKind.wrap Go.IntKind.i64 (t8 + (1 : Int)))
 else
 none
 else
 some ((.inr (())))
def slices_IndexFunc_Ins_Ins (s : (List M.SIns)) : Option (Int) :=
 match (M.slices_IndexFunc_Ins_Ins_l0 s ((List.length s) : Int) Go.V.bigN (0 : Int)) with
 | none => none
 | some y0 =>
 (match y0 with
 | .inl a1 =>
 some a1
 | .inr b1 =>
 some (-(1 : Int)))
def slices_ContainsFunc_Ins_Ins (s : (List M.SIns)) : Option (Bool) :=
 let q0 := (M.slices_IndexFunc_Ins_Ins s)
 bif ((Option.isSome q0) && true) then
 some (decide ((0 : Int) ≤ (Option.getD q0 default)))
 else
 none
def i_coreOk (c : M.SCore) : Option (Bool) :=
 let q0 := (M.slices_ContainsFunc_Ins_Ins (M.SCore.Code c))
 let q1 := ((((decide ((0 : Int) ≤ (M.SCore.Params c))) && (decide ((M.SCore.Params c) ≤ (8 : Int)))) && ((decide ((0 : Int) ≤ (M.SCore.Locals c))) && (decide ((M.SCore.Locals c) ≤ (8 : Int))))) && (decide (((List.length (M.SCore.Code c)) : Int) ≤ (120 : Int))))
 bif (((Option.isSome q0) || (!(q1 == true))) && true) then
 some (q1 && (!(Option.getD q0 default)))
 else
 none
def i_ModuleShape_l1 (t45 : (List M.SCore)) (t46 : Int) (imports : (List (List UInt8))) : Nat → Int → (List (List UInt8)) → Option ((Bool) ⊕ ((List (List UInt8)) × (List (List UInt8))))
 | 0, _, _ => none
 | fuel + 1, t47, cores =>
 bif (decide (t47 < t46)) then
 let q0 := (M.i_coreOk (List.getD t45 (Int.toNat t47) M.SCore.zero))
 bif (!(Option.getD q0 default)) then
 let q1 := ((Option.isSome q0) && ((Go.V.inB t47 (List.length t45)) && true))
 bif q1 then
 some (.inl false)
 else
 none
 else
 let q1 := [(M.SCore.Name (List.getD t45 (Int.toNat t47) M.SCore.zero))]
 let q2 := ((Option.isSome q0) && ((Go.V.inB t47 (List.length t45)) && true))
 bif ((decide (((List.length cores) + (List.length q1)) ≤ 1073741824)) && q2) then
 M.i_ModuleShape_l1 t45 t46 imports fuel (Go.IntKind.wrap Go.IntKind.i64 (t47 + (1 : Int))) (cores ++ q1)
 else
 none
 else
 some ((.inr ((imports, cores))))
def i_isLetter (c : Int) : Option (Bool) :=
 some ((decide ((97 : Int) ≤ c)) && (decide (c ≤ (122 : Int))))
def i_isDigit (c : Int) : Option (Bool) :=
 some ((decide ((48 : Int) ≤ c)) && (decide (c ≤ (57 : Int))))
def i_WordOk_l0 (s : (List UInt8)) (t5 : Int) : Nat → Int → Option ((Bool) ⊕ ((List UInt8)))
 | 0, _ => none
 | fuel + 1, t6 =>
 bif (decide (t6 < t5)) then
 let q0 := (!((decide ((97 : Int) ≤ ((UInt8.toNat (List.getD s (Int.toNat t6) (0 : UInt8))) : Int))) && (decide (((UInt8.toNat (List.getD s (Int.toNat t6) (0 : UInt8))) : Int) ≤ (122 : Int)))))
 let q1 := (q0 && (!((decide ((48 : Int) ≤ ((UInt8.toNat (List.getD s (Int.toNat t6) (0 : UInt8))) : Int))) && (decide (((UInt8.toNat (List.getD s (Int.toNat t6) (0 : UInt8))) : Int) ≤ (57 : Int))))))
 bif (q1 && (decide ((M.idxByte [(45 : UInt8), (46 : UInt8), (47 : UInt8)] ((UInt8.toNat (List.getD s (Int.toNat t6) (0 : UInt8))) : Int)) < (0 : Int)))) then
 let q2 := (((Go.V.inB t6 (List.length s)) || (!(q1 == true))) && (((Go.V.inB t6 (List.length s)) || (!(q0 == true))) && ((Go.V.inB t6 (List.length s)) && true)))
 bif q2 then
 some (.inl false)
 else
 none
 else
 let q2 := (((Go.V.inB t6 (List.length s)) || (!(q1 == true))) && (((Go.V.inB t6 (List.length s)) || (!(q0 == true))) && ((Go.V.inB t6 (List.length s)) && true)))
 bif q2 then
 M.i_WordOk_l0 s t5 fuel (Go.IntKind.wrap Go.IntKind.i64 (t6 + (1 : Int)))
 else
 none
 else
 some ((.inr (s)))
def i_length (s : (List UInt8)) : Option (Int) :=
 some ((List.length s) : Int)
def i_WordOk (s : (List UInt8)) : Option (Bool) :=
 match (M.i_WordOk_l0 s ((List.length s) : Int) Go.V.bigN (0 : Int)) with
 | none => none
 | some y0 =>
 (match y0 with
 | .inl a1 =>
 some a1
 | .inr b1 =>
 some ((decide ((1 : Int) ≤ ((List.length b1) : Int))) && (decide (((List.length b1) : Int) ≤ (40 : Int)))))
def i_wordsOk_c1 (name : (List UInt8)) : Option (Bool) :=
 let q0 := (M.i_WordOk name)
 bif ((Option.isSome q0) && true) then
 some (!(Option.getD q0 default))
 else
 none
def slices_IndexFunc_string_string_l0 (s : (List (List UInt8))) (t7 : Int) : Nat → Int → Option ((Int) ⊕ (Unit))
 | 0, _ => none
 | fuel + 1, t8 =>
 bif (decide (t8 < t7)) then
 let q0 := (M.i_wordsOk_c1 (List.getD s (Int.toNat t8) []))
 bif (Option.getD q0 default) then
 let q1 := ((Option.isSome q0) && ((Go.V.inB t8 (List.length s)) && true))
 bif q1 then
 some (.inl t8)
 else
 none
 else
 let q1 := ((Option.isSome q0) && ((Go.V.inB t8 (List.length s)) && true))
 bif q1 then
 M.slices_IndexFunc_string_string_l0 s t7 fuel (Go.IntKind.wrap Go.IntKind.i64 (t8 + (1 : Int)))
 else
 none
 else
 some ((.inr (())))
def slices_IndexFunc_string_string (s : (List (List UInt8))) : Option (Int) :=
 match (M.slices_IndexFunc_string_string_l0 s ((List.length s) : Int) Go.V.bigN (0 : Int)) with
 | none => none
 | some y0 =>
 (match y0 with
 | .inl a1 =>
 some a1
 | .inr b1 =>
 some (-(1 : Int)))
def slices_ContainsFunc_string_string (s : (List (List UInt8))) : Option (Bool) :=
 let q0 := (M.slices_IndexFunc_string_string s)
 bif ((Option.isSome q0) && true) then
 some (decide ((0 : Int) ≤ (Option.getD q0 default)))
 else
 none
def i_wordsOk (names : (List (List UInt8))) : Option (Bool) :=
 let q0 := (M.slices_ContainsFunc_string_string names)
 let q1 := (M.i_distinct names)
 bif (((Option.isSome q0) || (!((Option.getD q1 default) == true))) && ((Option.isSome q1) && true)) then
 some ((Option.getD q1 default) && (!(Option.getD q0 default)))
 else
 none
def i_ModuleShape (m : M.SModule) : Option (Bool) :=
 bif (((!((decide ((1 : Int) ≤ (M.SModule.Pages m))) && (decide ((M.SModule.Pages m) ≤ (16 : Int))))) || (decide ((12 : Int) < ((List.length (M.SModule.Imports m)) : Int)))) || (decide ((8 : Int) < ((List.length (M.SModule.Cores m)) : Int)))) then
 some false
 else
 match (M.i_ModuleShape_l0 (M.SModule.Imports m) ((List.length (M.SModule.Imports m)) : Int) m [] Go.V.bigN (0 : Int) []) with
 | none => none
 | some y0 =>
 (match y0 with
 | .inl a1 =>
 some a1
 | .inr b1 =>
 match (M.i_ModuleShape_l1 (M.SModule.Cores b1.1) ((List.length (M.SModule.Cores b1.1)) : Int) b1.2.1 Go.V.bigN (0 : Int) b1.2.2) with
 | none => none
 | some y2 =>
 (match y2 with
 | .inl a3 =>
 some a3
 | .inr b3 =>
 let q4 := (M.i_wordsOk b3.2)
 let q5 := (M.i_wordsOk b3.1)
 let q6 := (Option.getD q5 default)
 bif (((Option.isSome q4) || (!(q6 == true))) && ((Option.isSome q5) && true)) then
 some (q6 && (Option.getD q4 default))
 else
 none))
def i_size_Core (list : (List M.SCore)) : Option (Int) :=
 some ((List.length list) : Int)
def i_shapedCore (m : M.SModule) (k : Int) : Option (Bool) :=
 let q0 := (M.i_ModuleShape m)
 bif ((Option.isSome q0) && true) then
 some ((Option.getD q0 default) && ((decide ((0 : Int) ≤ k)) && (decide (k ≤ (Go.IntKind.wrap Go.IntKind.i64 (((List.length (M.SModule.Cores m)) : Int) - (1 : Int)))))))
 else
 none
def i_opens (op : Int) : Option (Bool) :=
 some (((op == (24 : Int)) || (op == (25 : Int))) || (op == (26 : Int)))
def i_blocksOf_l0 (t15 : (List M.SIns)) (t16 : Int) (c : M.SCore) : Nat → Int → (List M.SCodeBlock) → (List Int) → Option ((Int × Int × (List M.SCodeBlock)) ⊕ (M.SCore × (List M.SCodeBlock) × (List Int)))
 | 0, _, _, _ => none
 | fuel + 1, t17, blocks, open_ =>
 bif (decide (t17 < t16)) then
 bif ((((M.SIns.Op (List.getD t15 (Int.toNat t17) M.SIns.zero)) == (24 : Int)) || ((M.SIns.Op (List.getD t15 (Int.toNat t17) M.SIns.zero)) == (25 : Int))) || ((M.SIns.Op (List.getD t15 (Int.toNat t17) M.SIns.zero)) == (26 : Int))) then
 bif (((List.length open_) : Int) == (6 : Int)) then
 bif ((Go.V.inB t17 (List.length t15)) && true) then
 some (.inl (t17, (4 : Int), []))
 else
 none
 else
 let q0 := [(M.SCodeBlock.mk t17 (-(1 : Int)) (0 : Int) (0 : Int) ((M.SIns.A (List.getD t15 (Int.toNat t17) M.SIns.zero)) == (1 : Int)))]
 let q1 := [((List.length blocks) : Int)]
 bif ((decide (((List.length blocks) + (List.length q0)) ≤ 1073741824)) && ((decide (((List.length open_) + (List.length q1)) ≤ 1073741824)) && ((Go.V.inB t17 (List.length t15)) && true))) then
 M.i_blocksOf_l0 t15 t16 c fuel (Go.IntKind.wrap Go.IntKind.i64 (t17 + (1 : Int))) (blocks ++ q0) (open_ ++ q1)
 else
 none
 else
 bif ((M.SIns.Op (List.getD t15 (Int.toNat t17) M.SIns.zero)) == (27 : Int)) then
 let q0 := (Go.IntKind.wrap Go.IntKind.i64 (((List.length open_) : Int) - (1 : Int)))
 let q1 := (Int.toNat q0)
 let q2 := (List.getD open_ q1 (0 : Int))
 let q3 := (Int.toNat q2)
 let q4 := (List.getD blocks q3 M.SCodeBlock.zero)
 let q5 := ((decide (q0 < (0 : Int))) || ((M.SIns.Op (List.getD (M.SCore.Code c) (Int.toNat (M.SCodeBlock.At q4)) M.SIns.zero)) != (26 : Int)))
 bif (q5 || (decide ((0 : Int) ≤ (M.SCodeBlock.Else q4)))) then
 let q6 := (Go.V.inB q2 (List.length blocks))
 let q7 := (!(q5 == false))
 let q8 := (Go.V.inB q0 (List.length open_))
 let q9 := (Go.V.inB (M.SCodeBlock.At q4) (List.length (M.SCore.Code c)))
 let q10 := (!((decide (q0 < (0 : Int))) == false))
 let q11 := ((q6 || q7) && ((q8 || q7) && ((q9 || q10) && ((q6 || q10) && ((q8 || q10) && ((Go.V.inB t17 (List.length t15)) && true))))))
 bif q11 then
 some (.inl (t17, (5 : Int), []))
 else
 none
 else
 let q6 := (Go.V.inB q2 (List.length blocks))
 let q7 := (Go.V.inB q0 (List.length open_))
 let q8 := (!(q5 == false))
 let q9 := (Go.V.inB (M.SCodeBlock.At q4) (List.length (M.SCore.Code c)))
 let q10 := (!((decide (q0 < (0 : Int))) == false))
 let q11 := ((q6 || q8) && ((q7 || q8) && ((q9 || q10) && ((q6 || q10) && ((q7 || q10) && ((Go.V.inB t17 (List.length t15)) && true))))))
 bif (q6 && (q7 && q11)) then
 M.i_blocksOf_l0 t15 t16 c fuel (Go.IntKind.wrap Go.IntKind.i64 (t17 + (1 : Int))) (List.set blocks q3 (M.SCodeBlock.mk (M.SCodeBlock.At q4) t17 (M.SCodeBlock.End q4) (M.SCodeBlock.Height q4) (M.SCodeBlock.Result q4))) open_
 else
 none
 else
 bif ((M.SIns.Op (List.getD t15 (Int.toNat t17) M.SIns.zero)) == (28 : Int)) then
 let q0 := (Go.IntKind.wrap Go.IntKind.i64 (((List.length open_) : Int) - (1 : Int)))
 bif (decide (q0 < (0 : Int))) then
 bif ((Go.V.inB t17 (List.length t15)) && true) then
 some (.inl (t17, (5 : Int), []))
 else
 none
 else
 let q1 := (Int.toNat q0)
 let q2 := (List.getD open_ q1 (0 : Int))
 let q3 := (Int.toNat q2)
 let q4 := (List.getD blocks q3 M.SCodeBlock.zero)
 bif ((((M.SIns.Op (List.getD (M.SCore.Code c) (Int.toNat (M.SCodeBlock.At q4)) M.SIns.zero)) == (26 : Int)) && (M.SCodeBlock.Result q4)) && (decide ((M.SCodeBlock.Else q4) < (0 : Int)))) then
 let q5 := (Go.V.inB (M.SCodeBlock.At q4) (List.length (M.SCore.Code c)))
 let q6 := (Go.V.inB q2 (List.length blocks))
 let q7 := (Go.V.inB q0 (List.length open_))
 let q8 := (q5 && (q6 && (q7 && ((Go.V.inB t17 (List.length t15)) && true))))
 bif q8 then
 some (.inl (t17, (7 : Int), []))
 else
 none
 else
 let q5 := (Go.V.inB (M.SCodeBlock.At q4) (List.length (M.SCore.Code c)))
 let q6 := (Go.V.inB q2 (List.length blocks))
 let q7 := (Go.V.inB q0 (List.length open_))
 let q8 := (q5 && (q6 && (q7 && ((Go.V.inB t17 (List.length t15)) && true))))
 bif ((Go.V.slB (0 : Int) q0 (List.length open_)) && q8) then
 M.i_blocksOf_l0 t15 t16 c fuel (Go.IntKind.wrap Go.IntKind.i64 (t17 + (1 : Int))) (List.set blocks q3 (M.SCodeBlock.mk (M.SCodeBlock.At q4) (M.SCodeBlock.Else q4) t17 (M.SCodeBlock.Height q4) (M.SCodeBlock.Result q4))) (List.take q1 open_)
 else
 none
 else
 bif ((Go.V.inB t17 (List.length t15)) && true) then
 M.i_blocksOf_l0 t15 t16 c fuel (Go.IntKind.wrap Go.IntKind.i64 (t17 + (1 : Int))) blocks open_
 else
 none
 else
 some ((.inr ((c, blocks, open_))))
def i_size_Ins (list : (List M.SIns)) : Option (Int) :=
 some ((List.length list) : Int)
def i_blocksOf (c : M.SCore) : Option ((List M.SCodeBlock) × Int × Int) :=
 match (M.i_blocksOf_l0 (M.SCore.Code c) ((List.length (M.SCore.Code c)) : Int) c Go.V.bigN (0 : Int) [] []) with
 | none => none
 | some y0 =>
 (match y0 with
 | .inl a1 =>
 some (a1.2.2, a1.1, a1.2.1)
 | .inr b1 =>
 bif (decide ((0 : Int) < ((List.length b1.2.2) : Int))) then
 some ([], ((List.length (M.SCore.Code b1.1)) : Int), (5 : Int))
 else
 some (b1.2.1, (0 : Int), (0 : Int)))
def i_checker_place (x : Int) (x2 : (List M.SImport)) (x3 : (List M.SCore)) (x4 : (List UInt8)) (x5 : Int) (x6 : Int) (x7 : Bool) (x8 : (List M.SIns)) (x9 : (List M.SCodeBlock)) (x10 : Int) (x11 : Int) (x12 : Bool) (o1 : (List Int)) (o2 : (List Int)) : Option (M.SCodePlace × Int × (List M.SImport) × (List M.SCore) × (List UInt8) × Int × Int × Bool × (List M.SIns) × (List M.SCodeBlock) × Int × Int × Bool × (List Int) × (List Int)) :=
 bif (!x12) then
 some ((M.SCodePlace.mk false (0 : Int) []), x, x2, x3, x4, x5, x6, x7, x8, x9, x10, x11, x12, o1, o2)
 else
 let q0 := (M.slices_Clone_int64_int64 o1)
 bif ((Option.isSome q0) && true) then
 some ((M.SCodePlace.mk true x11 (Option.getD q0 default)), x, x2, x3, x4, x5, x6, x7, x8, x9, x10, x11, x12, o1, o2)
 else
 none
def i_bit (is : Bool) : Option (Int) :=
 bif is then
 some (1 : Int)
 else
 some (0 : Int)
def i_checker_base (x : M.Schecker) : Option (Int) :=
 bif (((List.length (M.Schecker.bases x)) : Int) == (0 : Int)) then
 some (0 : Int)
 else
 let q0 := (Go.IntKind.wrap Go.IntKind.i64 (((List.length (M.Schecker.bases x)) : Int) - (1 : Int)))
 bif ((Go.V.inB q0 (List.length (M.Schecker.bases x))) && true) then
 some (List.getD (M.Schecker.bases x) (Int.toNat q0) (0 : Int))
 else
 none
def i_checker_turn (i : M.SIns) (x : Int) (x2 : (List M.SImport)) (x3 : (List M.SCore)) (x4 : (List UInt8)) (x5 : Int) (x6 : Int) (x7 : Bool) (x8 : (List M.SIns)) (x9 : (List M.SCodeBlock)) (x10 : Int) (x11 : Int) (x12 : Bool) (o1 : (List Int)) (o2 : (List Int)) : Option (Int × Int × (List M.SImport) × (List M.SCore) × (List UInt8) × Int × Int × Bool × (List M.SIns) × (List M.SCodeBlock) × Int × Int × Bool × (List Int) × (List Int)) :=
 let q0 := (M.i_checker_base (M.Schecker.mk (M.SModule.mk x x2 x3) (M.SCore.mk x4 x5 x6 x7 x8) x9 x10 o1 o2 x11 x12))
 let q1 := (Option.getD q0 default)
 let q2 := (Go.IntKind.wrap Go.IntKind.i64 (((List.length o1) : Int) - (1 : Int)))
 let q3 := (Int.toNat q2)
 let q4 := (List.getD o1 q3 (0 : Int))
 let q5 := (M.i_bit (M.SCodeBlock.Result (List.getD x9 (Int.toNat q4) M.SCodeBlock.zero)))
 let q6 := (Go.IntKind.wrap Go.IntKind.i64 (q1 + (Option.getD q5 default)))
 bif (x12 && (x11 != q6)) then
 let q7 := (Option.isSome q0)
 let q8 := ((q7 || (!(x12 == true))) && ((Option.isSome q5) && ((Go.V.inB q4 (List.length x9)) && ((Go.V.inB q2 (List.length o1)) && true))))
 bif q8 then
 some ((7 : Int), x, x2, x3, x4, x5, x6, x7, x8, x9, x10, x11, x12, o1, o2)
 else
 none
 else
 bif ((M.SIns.Op i) == (27 : Int)) then
 let q7 := (Option.isSome q0)
 let q8 := ((q7 || (!(x12 == true))) && ((Option.isSome q5) && ((Go.V.inB q4 (List.length x9)) && ((Go.V.inB q2 (List.length o1)) && true))))
 let q9 := (q7 && q8)
 bif q9 then
 some ((0 : Int), x, x2, x3, x4, x5, x6, x7, x8, x9, x10, q1, true, o1, o2)
 else
 none
 else
 bif (decide ((24 : Int) < q6)) then
 let q7 := (Option.isSome q0)
 let q8 := ((q7 || (!(x12 == true))) && ((Option.isSome q5) && ((Go.V.inB q4 (List.length x9)) && ((Go.V.inB q2 (List.length o1)) && true))))
 let q9 := (q7 && q8)
 let q10 := ((Go.V.slB (0 : Int) q2 (List.length o2)) && ((Go.V.slB (0 : Int) q2 (List.length o1)) && q9))
 bif q10 then
 let q11 := (List.take q3 o1)
 let q12 := (List.take q3 o2)
 some ((4 : Int), x, x2, x3, x4, x5, x6, x7, x8, x9, x10, q6, true, q11, q12)
 else
 none
 else
 let q7 := (Option.isSome q0)
 let q8 := ((q7 || (!(x12 == true))) && ((Option.isSome q5) && ((Go.V.inB q4 (List.length x9)) && ((Go.V.inB q2 (List.length o1)) && true))))
 let q9 := (q7 && q8)
 let q10 := ((Go.V.slB (0 : Int) q2 (List.length o2)) && ((Go.V.slB (0 : Int) q2 (List.length o1)) && q9))
 bif q10 then
 let q11 := (List.take q3 o1)
 let q12 := (List.take q3 o2)
 some ((0 : Int), x, x2, x3, x4, x5, x6, x7, x8, x9, x10, q6, true, q11, q12)
 else
 none
def i_size_Import (list : (List M.SImport)) : Option (Int) :=
 some ((List.length list) : Int)
def i_size_int64 (list : (List Int)) : Option (Int) :=
 some ((List.length list) : Int)
def i_checker_exists (x : M.Schecker) (i : M.SIns) : Option (Bool) :=
 bif (bif ((M.SIns.Op i) == (2 : Int)) then ((M.SIns.Op i) == (2 : Int)) else (bif ((M.SIns.Op i) == (3 : Int)) then ((M.SIns.Op i) == (3 : Int)) else ((M.SIns.Op i) == (4 : Int)))) then
 some (decide ((M.SIns.A i) < (Go.IntKind.wrap Go.IntKind.i64 ((M.SCore.Params (M.Schecker.core x)) + (M.SCore.Locals (M.Schecker.core x))))))
 else
 bif ((M.SIns.Op i) == (32 : Int)) then
 some (decide ((M.SIns.A i) < ((List.length (M.SModule.Cores (M.Schecker.module x))) : Int)))
 else
 bif ((M.SIns.Op i) == (33 : Int)) then
 some (decide ((M.SIns.A i) < ((List.length (M.SModule.Imports (M.Schecker.module x))) : Int)))
 else
 bif (bif ((M.SIns.Op i) == (29 : Int)) then ((M.SIns.Op i) == (29 : Int)) else ((M.SIns.Op i) == (30 : Int))) then
 some (decide ((M.SIns.A i) ≤ ((List.length (M.Schecker.open_ x)) : Int)))
 else
 some true
def i_checker_effect (x : M.Schecker) (i : M.SIns) : Option (Int × Int) :=
 bif (bif ((M.SIns.Op i) == (1 : Int)) then ((M.SIns.Op i) == (1 : Int)) else ((M.SIns.Op i) == (2 : Int))) then
 some ((0 : Int), (1 : Int))
 else
 bif (bif ((M.SIns.Op i) == (3 : Int)) then ((M.SIns.Op i) == (3 : Int)) else (bif ((M.SIns.Op i) == (5 : Int)) then ((M.SIns.Op i) == (5 : Int)) else (bif ((M.SIns.Op i) == (26 : Int)) then ((M.SIns.Op i) == (26 : Int)) else ((M.SIns.Op i) == (30 : Int))))) then
 some ((1 : Int), (0 : Int))
 else
 bif (bif ((M.SIns.Op i) == (4 : Int)) then ((M.SIns.Op i) == (4 : Int)) else (bif ((M.SIns.Op i) == (22 : Int)) then ((M.SIns.Op i) == (22 : Int)) else (bif ((M.SIns.Op i) == (34 : Int)) then ((M.SIns.Op i) == (34 : Int)) else (bif ((M.SIns.Op i) == (35 : Int)) then ((M.SIns.Op i) == (35 : Int)) else ((M.SIns.Op i) == (36 : Int)))))) then
 some ((1 : Int), (1 : Int))
 else
 bif ((M.SIns.Op i) == (23 : Int)) then
 some ((3 : Int), (1 : Int))
 else
 bif (bif ((M.SIns.Op i) == (37 : Int)) then ((M.SIns.Op i) == (37 : Int)) else (bif ((M.SIns.Op i) == (38 : Int)) then ((M.SIns.Op i) == (38 : Int)) else ((M.SIns.Op i) == (39 : Int)))) then
 some ((2 : Int), (0 : Int))
 else
 bif ((M.SIns.Op i) == (32 : Int)) then
 let q0 := (M.i_bit (M.SCore.Result (List.getD (M.SModule.Cores (M.Schecker.module x)) (Int.toNat (M.SIns.A i)) M.SCore.zero)))
 bif ((Option.isSome q0) && ((Go.V.inB (M.SIns.A i) (List.length (M.SModule.Cores (M.Schecker.module x)))) && ((Go.V.inB (M.SIns.A i) (List.length (M.SModule.Cores (M.Schecker.module x)))) && true))) then
 some ((M.SCore.Params (List.getD (M.SModule.Cores (M.Schecker.module x)) (Int.toNat (M.SIns.A i)) M.SCore.zero)), (Option.getD q0 default))
 else
 none
 else
 bif ((M.SIns.Op i) == (33 : Int)) then
 let q0 := (M.i_bit (M.SImport.Result (List.getD (M.SModule.Imports (M.Schecker.module x)) (Int.toNat (M.SIns.A i)) M.SImport.zero)))
 bif ((Option.isSome q0) && ((Go.V.inB (M.SIns.A i) (List.length (M.SModule.Imports (M.Schecker.module x)))) && ((Go.V.inB (M.SIns.A i) (List.length (M.SModule.Imports (M.Schecker.module x)))) && true))) then
 some ((M.SImport.Params (List.getD (M.SModule.Imports (M.Schecker.module x)) (Int.toNat (M.SIns.A i)) M.SImport.zero)), (Option.getD q0 default))
 else
 none
 else
 bif (bif ((M.SIns.Op i) == (24 : Int)) then ((M.SIns.Op i) == (24 : Int)) else (bif ((M.SIns.Op i) == (25 : Int)) then ((M.SIns.Op i) == (25 : Int)) else (bif ((M.SIns.Op i) == (29 : Int)) then ((M.SIns.Op i) == (29 : Int)) else (bif ((M.SIns.Op i) == (31 : Int)) then ((M.SIns.Op i) == (31 : Int)) else ((M.SIns.Op i) == (40 : Int)))))) then
 some ((0 : Int), (0 : Int))
 else
 some ((2 : Int), (1 : Int))
def i_checker_carried (x : M.Schecker) (i : M.SIns) : Option (Int) :=
 bif ((M.SIns.Op i) == (31 : Int)) then
 let q0 := (M.i_bit (M.SCore.Result (M.Schecker.core x)))
 bif ((Option.isSome q0) && true) then
 some (Option.getD q0 default)
 else
 none
 else
 bif (bif ((M.SIns.Op i) == (29 : Int)) then ((M.SIns.Op i) == (29 : Int)) else ((M.SIns.Op i) == (30 : Int))) then
 let q0 := (Go.IntKind.wrap Go.IntKind.i64 ((Go.IntKind.wrap Go.IntKind.i64 (((List.length (M.Schecker.open_ x)) : Int) - (1 : Int))) - (M.SIns.A i)))
 bif (decide (q0 < (0 : Int))) then
 let q1 := (M.i_bit (M.SCore.Result (M.Schecker.core x)))
 bif ((Option.isSome q1) && true) then
 some (Option.getD q1 default)
 else
 none
 else
 let q1 := (List.getD (M.Schecker.open_ x) (Int.toNat q0) (0 : Int))
 let q2 := (List.getD (M.Schecker.blocks x) (Int.toNat q1) M.SCodeBlock.zero)
 let q3 := (M.i_bit ((M.SCodeBlock.Result q2) && ((M.SIns.Op (List.getD (M.SCore.Code (M.Schecker.core x)) (Int.toNat (M.SCodeBlock.At q2)) M.SIns.zero)) != (25 : Int))))
 bif ((Option.isSome q3) && (((Go.V.inB (M.SCodeBlock.At q2) (List.length (M.SCore.Code (M.Schecker.core x)))) || (!((M.SCodeBlock.Result q2) == true))) && ((Go.V.inB q1 (List.length (M.Schecker.blocks x))) && ((Go.V.inB q0 (List.length (M.Schecker.open_ x))) && true)))) then
 some (Option.getD q3 default)
 else
 none
 else
 some (0 : Int)
def i_checker_step (i : M.SIns) (x : Int) (x2 : (List M.SImport)) (x3 : (List M.SCore)) (x4 : (List UInt8)) (x5 : Int) (x6 : Int) (x7 : Bool) (x8 : (List M.SIns)) (x9 : (List M.SCodeBlock)) (x10 : Int) (x11 : Int) (x12 : Bool) (o1 : (List Int)) (o2 : (List Int)) : Option (Int × Int × (List M.SImport) × (List M.SCore) × (List UInt8) × Int × Int × Bool × (List M.SIns) × (List M.SCodeBlock) × Int × Int × Bool × (List Int) × (List Int)) :=
 bif (((M.SIns.Op i) == (27 : Int)) || ((M.SIns.Op i) == (28 : Int))) then
 let q0 := (M.i_checker_turn i x x2 x3 x4 x5 x6 x7 x8 x9 x10 x11 x12 o1 o2)
 bif ((Option.isSome q0) && true) then
 let q1 := (Option.getD q0 default)
 let q2 := q1.2
 let q3 := q2.2
 let q4 := q3.2
 let q5 := q4.2
 let q6 := q5.2
 let q7 := q6.2
 let q8 := q7.2
 let q9 := q8.2
 let q10 := q9.2
 let q11 := q10.2
 let q12 := q11.2
 let q13 := q12.2
 let q14 := q13.2
 some (q1.1, q2.1, q3.1, q4.1, q5.1, q6.1, q7.1, q8.1, q9.1, q10.1, q11.1, q12.1, q13.1, q14.1, q14.2)
 else
 none
 else
 bif (!x12) then
 some ((5 : Int), x, x2, x3, x4, x5, x6, x7, x8, x9, x10, x11, x12, o1, o2)
 else
 let q0 := (M.i_checker_exists (M.Schecker.mk (M.SModule.mk x x2 x3) (M.SCore.mk x4 x5 x6 x7 x8) x9 x10 o1 o2 x11 x12) i)
 bif (!(Option.getD q0 default)) then
 let q1 := ((Option.isSome q0) && true)
 bif q1 then
 some ((2 : Int), x, x2, x3, x4, x5, x6, x7, x8, x9, x10, x11, x12, o1, o2)
 else
 none
 else
 let q1 := (M.i_checker_effect (M.Schecker.mk (M.SModule.mk x x2 x3) (M.SCore.mk x4 x5 x6 x7 x8) x9 x10 o1 o2 x11 x12) i)
 let q2 := (Option.getD q1 default)
 let q3 := (Go.IntKind.wrap Go.IntKind.i64 (x11 - q2.1))
 let q4 := (M.i_checker_base (M.Schecker.mk (M.SModule.mk x x2 x3) (M.SCore.mk x4 x5 x6 x7 x8) x9 x10 o1 o2 x11 x12))
 let q5 := (Option.getD q4 default)
 bif (decide (q3 < q5)) then
 let q6 := (Option.isSome q4)
 let q7 := ((Option.isSome q0) && true)
 let q8 := (q6 && ((Option.isSome q1) && q7))
 bif q8 then
 some ((7 : Int), x, x2, x3, x4, x5, x6, x7, x8, x9, x10, x11, x12, o1, o2)
 else
 none
 else
 let q6 := (Go.IntKind.wrap Go.IntKind.i64 (q3 + q2.2))
 bif (decide ((24 : Int) < q6)) then
 let q7 := (Option.isSome q4)
 let q8 := ((Option.isSome q0) && true)
 let q9 := (q7 && ((Option.isSome q1) && q8))
 bif q9 then
 some ((4 : Int), x, x2, x3, x4, x5, x6, x7, x8, x9, x10, x11, x12, o1, o2)
 else
 none
 else
 let q7 := (M.i_checker_carried (M.Schecker.mk (M.SModule.mk x x2 x3) (M.SCore.mk x4 x5 x6 x7 x8) x9 x10 o1 o2 x11 x12) i)
 bif (decide ((Go.IntKind.wrap Go.IntKind.i64 (q6 - (Option.getD q7 default))) < q5)) then
 let q8 := (Option.isSome q4)
 let q9 := ((Option.isSome q0) && true)
 let q10 := (q8 && ((Option.isSome q1) && q9))
 let q11 := (q8 && ((Option.isSome q7) && q10))
 bif q11 then
 some ((7 : Int), x, x2, x3, x4, x5, x6, x7, x8, x9, x10, x11, x12, o1, o2)
 else
 none
 else
 bif ((((M.SIns.Op i) == (24 : Int)) || ((M.SIns.Op i) == (25 : Int))) || ((M.SIns.Op i) == (26 : Int))) then
 let q8 := [q6]
 let q9 := [x10]
 let q10 := (Option.isSome q4)
 let q11 := ((Option.isSome q0) && true)
 let q12 := (q10 && ((Option.isSome q1) && q11))
 let q13 := (q10 && ((Option.isSome q7) && q12))
 bif ((decide (((List.length o2) + (List.length q8)) ≤ 1073741824)) && ((decide (((List.length o1) + (List.length q9)) ≤ 1073741824)) && q13)) then
 let q14 := ((((M.SIns.Op i) != (29 : Int)) && ((M.SIns.Op i) != (31 : Int))) && ((M.SIns.Op i) != (40 : Int)))
 some ((0 : Int), x, x2, x3, x4, x5, x6, x7, x8, x9, (Go.IntKind.wrap Go.IntKind.i64 (x10 + (1 : Int))), q6, q14, (o1 ++ q9), (o2 ++ q8))
 else
 none
 else
 let q8 := (Option.isSome q4)
 let q9 := ((Option.isSome q0) && true)
 let q10 := (q8 && ((Option.isSome q1) && q9))
 let q11 := (q8 && ((Option.isSome q7) && q10))
 bif q11 then
 let q12 := ((((M.SIns.Op i) != (29 : Int)) && ((M.SIns.Op i) != (31 : Int))) && ((M.SIns.Op i) != (40 : Int)))
 some ((0 : Int), x, x2, x3, x4, x5, x6, x7, x8, x9, x10, q6, q12, o1, o2)
 else
 none
def i_checked_l0 (blocks : (List M.SCodeBlock)) (t40 : (List M.SIns)) (t41 : Int) (c : M.SCore) : Nat → Int → Int → (List M.SImport) → (List M.SCore) → (List UInt8) → Int → Int → Bool → (List M.SIns) → (List M.SCodeBlock) → Int → Int → Bool → (List M.SCodePlace) → (List Int) → (List Int) → Option ((Int × Int × (List M.SCodePlace) × (List M.SCodeBlock)) ⊕ ((List M.SCodeBlock) × M.SCore × Int × (List M.SImport) × (List M.SCore) × (List UInt8) × Int × Int × Bool × (List M.SIns) × (List M.SCodeBlock) × Int × Int × Bool × (List M.SCodePlace) × (List Int) × (List Int)))
 | 0, _, _, _, _, _, _, _, _, _, _, _, _, _, _, _, _ => none
 | fuel + 1, t42, x, x2, x3, x4, x5, x6, x7, x8, x9, x10, x11, x12, places, o6, o7 =>
 bif (decide (t42 < t41)) then
 let q0 := (M.i_checker_place x x2 x3 x4 x5 x6 x7 x8 x9 x10 x11 x12 o6 o7)
 let q1 := (Option.getD q0 default)
 let q2 := q1.2
 let q3 := q2.2
 let q4 := q3.2
 let q5 := q4.2
 let q6 := q5.2
 let q7 := q6.2
 let q8 := q7.2
 let q9 := q8.2
 let q10 := q9.2
 let q11 := q10.2
 let q12 := q11.2
 let q13 := q12.2
 let q14 := q13.2
 let q15 := (M.i_checker_step (List.getD t40 (Int.toNat t42) M.SIns.zero) q2.1 q3.1 q4.1 q5.1 q6.1 q7.1 q8.1 q9.1 q10.1 q11.1 q12.1 q13.1 q14.1 q14.2)
 let q16 := (Option.getD q15 default)
 let q17 := q16.1
 bif (q17 != (0 : Int)) then
 let q18 := [q1.1]
 let q19 := ((Option.isSome q15) && ((decide (((List.length places) + (List.length q18)) ≤ 1073741824)) && ((Option.isSome q0) && ((Go.V.inB t42 (List.length t40)) && true))))
 bif q19 then
 some (.inl (t42, q17, [], []))
 else
 none
 else
 let q18 := [q1.1]
 let q19 := ((Option.isSome q15) && ((decide (((List.length places) + (List.length q18)) ≤ 1073741824)) && ((Option.isSome q0) && ((Go.V.inB t42 (List.length t40)) && true))))
 bif q19 then
 let q20 := q16.2
 let q21 := q20.2
 let q22 := q21.2
 let q23 := q22.2
 let q24 := q23.2
 let q25 := q24.2
 let q26 := q25.2
 let q27 := q26.2
 let q28 := q27.2
 let q29 := q28.2
 let q30 := q29.2
 let q31 := q30.2
 let q32 := q31.2
 M.i_checked_l0 blocks t40 t41 c fuel (Go.IntKind.wrap Go.IntKind.i64 (t42 + (1 : Int))) q20.1 q21.1 q22.1 q23.1 q24.1 q25.1 q26.1 q27.1 q28.1 q29.1 q30.1 q31.1 (places ++ q18) q32.1 q32.2
 else
 none
 else
 some ((.inr ((blocks, c, x, x2, x3, x4, x5, x6, x7, x8, x9, x10, x11, x12, places, o6, o7))))
def i_checked (m : M.SModule) (k : Int) : Option ((List M.SCodePlace) × (List M.SCodeBlock) × Int × Int) :=
 let q0 := (M.i_blocksOf (List.getD (M.SModule.Cores m) (Int.toNat k) M.SCore.zero))
 let q1 := (Option.getD q0 default)
 let q2 := q1.2
 let q3 := q2.2
 bif (q3 != (0 : Int)) then
 let q4 := ((Option.isSome q0) && ((Go.V.inB k (List.length (M.SModule.Cores m))) && true))
 bif q4 then
 some ([], [], q2.1, q3)
 else
 none
 else
 let q4 := q1.1
 match (M.i_checked_l0 q4 (M.SCore.Code (List.getD (M.SModule.Cores m) (Int.toNat k) M.SCore.zero)) ((List.length (M.SCore.Code (List.getD (M.SModule.Cores m) (Int.toNat k) M.SCore.zero))) : Int) (List.getD (M.SModule.Cores m) (Int.toNat k) M.SCore.zero) Go.V.bigN (0 : Int) (M.SModule.Pages m) (M.SModule.Imports m) (M.SModule.Cores m) (M.SCore.Name (List.getD (M.SModule.Cores m) (Int.toNat k) M.SCore.zero)) (M.SCore.Params (List.getD (M.SModule.Cores m) (Int.toNat k) M.SCore.zero)) (M.SCore.Locals (List.getD (M.SModule.Cores m) (Int.toNat k) M.SCore.zero)) (M.SCore.Result (List.getD (M.SModule.Cores m) (Int.toNat k) M.SCore.zero)) (M.SCore.Code (List.getD (M.SModule.Cores m) (Int.toNat k) M.SCore.zero)) q4 (0 : Int) (0 : Int) true [] [] []) with
 | none => none
 | some y5 =>
 (match y5 with
 | .inl a6 =>
 let q7 := ((Option.isSome q0) && ((Go.V.inB k (List.length (M.SModule.Cores m))) && true))
 bif q7 then
 some (a6.2.2.1, a6.2.2.2, a6.1, a6.2.1)
 else
 none
 | .inr b6 =>
 let q7 := b6.2
 let q8 := q7.2.2.2.2.2.2.2.2.2.2.2
 let q9 := q8.2
 let q10 := q7.1
 let q11 := (M.i_bit (M.SCore.Result q10))
 let q12 := (Option.getD q11 default)
 bif (q9.1 && (q8.1 != q12)) then
 let q13 := ((Option.isSome q0) && ((Go.V.inB k (List.length (M.SModule.Cores m))) && true))
 let q14 := ((Option.isSome q11) && q13)
 bif q14 then
 some ([], [], ((List.length (M.SCore.Code q10)) : Int), (7 : Int))
 else
 none
 else
 let q13 := q9.2.1
 let q14 := [(M.SCodePlace.mk true q12 [])]
 let q15 := ((Option.isSome q0) && ((Go.V.inB k (List.length (M.SModule.Cores m))) && true))
 let q16 := ((Option.isSome q11) && q15)
 bif ((decide (((List.length q13) + (List.length q14)) ≤ 1073741824)) && q16) then
 some ((q13 ++ q14), b6.1, (0 : Int), (0 : Int))
 else
 none)
def i_CheckCore (m : M.SModule) (k : Int) : Option ((List M.SCodePlace) × Int × Int) :=
 let q0 := (M.i_shapedCore m k)
 bif (!(Option.getD q0 default)) then
 bif ((Option.isSome q0) && true) then
 some ([], (0 : Int), (1 : Int))
 else
 none
 else
 let q1 := (M.i_checked m k)
 bif ((Option.isSome q1) && ((Option.isSome q0) && true)) then
 let q2 := (Option.getD q1 default)
 let q3 := q2.2.2
 some (q2.1, q3.1, q3.2)
 else
 none
def i_HighestOf_l0 (code : Int) (t19 : (List M.SCodePlace)) (t20 : Int) : Nat → Int → Int → Option (Int × Int)
 | 0, _, _ => none
 | fuel + 1, highest, t21 =>
 bif (decide (t21 < t20)) then
 bif ((Go.V.inB t21 (List.length t19)) && true) then
 M.i_HighestOf_l0 code t19 t20 fuel (bif (decide (highest < (M.SCodePlace.Height (List.getD t19 (Int.toNat t21) M.SCodePlace.zero)))) then (M.SCodePlace.Height (List.getD t19 (Int.toNat t21) M.SCodePlace.zero)) else highest) (Go.IntKind.wrap Go.IntKind.i64 (t21 + (1 : Int)))
 else
 none
 else
 some ((code, highest))
def i_HighestOf (m : M.SModule) (k : Int) : Option (Int × Int) :=
 let q0 := (M.i_CheckCore m k)
 let q1 := (Option.getD q0 default).1
 match (M.i_HighestOf_l0 (Option.getD q0 default).2.2 q1 ((List.length q1) : Int) Go.V.bigN (0 : Int) (0 : Int)) with
 | none => none
 | some y2 =>
 bif ((Option.isSome q0) && true) then
 some (y2.2, y2.1)
 else
 none
def l_a8At (code : (List UInt8)) (i : Int) (n : Int) : Option (Int) :=
 bif (decide (n ≤ (1 : Int))) then
 some (0 : Int)
 else
 bif (((List.length code) : Int) == (0 : Int)) then
 bif ((n != (0 : Int)) && true) then
 some (Int.tmod (Go.IntKind.wrap Go.IntKind.i64 (i * (7 : Int))) n)
 else
 none
 else
 let q0 := (Int.tmod (Go.IntKind.wrap Go.IntKind.i64 (i + (1 : Int))) ((List.length code) : Int))
 bif ((n != (0 : Int)) && ((((List.length code) : Int) != (0 : Int)) && ((Go.V.inB q0 (List.length code)) && ((((List.length code) : Int) != (0 : Int)) && ((Go.V.inB (Int.tmod i ((List.length code) : Int)) (List.length code)) && ((((List.length code) : Int) != (0 : Int)) && true)))))) then
 some (Int.tmod (Go.IntKind.wrap Go.IntKind.i64 ((Go.IntKind.wrap Go.IntKind.i64 ((Go.IntKind.wrap Go.IntKind.i64 ((Go.IntKind.wrap Go.IntKind.i64 ((UInt8.toNat (List.getD code (Int.toNat (Int.tmod i ((List.length code) : Int))) (0 : UInt8))) : Int)) * (31 : Int))) + (Go.IntKind.wrap Go.IntKind.i64 ((UInt8.toNat (List.getD code (Int.toNat q0) (0 : UInt8))) : Int)))) + (Go.IntKind.wrap Go.IntKind.i64 (Int.tdiv i ((List.length code) : Int))))) n)
 else
 none
def i_size_CodePlace (list : (List M.SCodePlace)) : Option (Int) :=
 some ((List.length list) : Int)
def i_target (c : M.SCore) (places : (List M.SCodePlace)) (blocks : (List M.SCodeBlock)) (at_ : Int) (depth : Int) : Option (Int × Int) :=
 bif (depth == ((List.length (M.SCodePlace.Blocks (List.getD places (Int.toNat at_) M.SCodePlace.zero))) : Int)) then
 let q0 := (M.i_bit (M.SCore.Result c))
 bif ((Option.isSome q0) && ((Go.V.inB at_ (List.length places)) && true)) then
 some (((List.length (M.SCore.Code c)) : Int), (Option.getD q0 default))
 else
 none
 else
 let q0 := (Go.IntKind.wrap Go.IntKind.i64 ((Go.IntKind.wrap Go.IntKind.i64 (((List.length (M.SCodePlace.Blocks (List.getD places (Int.toNat at_) M.SCodePlace.zero))) : Int) - (1 : Int))) - depth))
 let q1 := (List.getD (M.SCodePlace.Blocks (List.getD places (Int.toNat at_) M.SCodePlace.zero)) (Int.toNat q0) (0 : Int))
 let q2 := (List.getD blocks (Int.toNat q1) M.SCodeBlock.zero)
 let q3 := (Int.toNat (M.SCodeBlock.At q2))
 bif ((M.SIns.Op (List.getD (M.SCore.Code c) q3 M.SIns.zero)) == (25 : Int)) then
 let q4 := ((Go.V.inB (M.SCodeBlock.At q2) (List.length places)) && ((Go.V.inB (M.SCodeBlock.At q2) (List.length (M.SCore.Code c))) && ((Go.V.inB q1 (List.length blocks)) && ((Go.V.inB q0 (List.length (M.SCodePlace.Blocks (List.getD places (Int.toNat at_) M.SCodePlace.zero)))) && ((Go.V.inB at_ (List.length places)) && true)))))
 bif q4 then
 some ((Go.IntKind.wrap Go.IntKind.i64 ((M.SCodeBlock.At q2) + (1 : Int))), (M.SCodePlace.Height (List.getD places q3 M.SCodePlace.zero)))
 else
 none
 else
 let q4 := (M.i_bit (M.SCodeBlock.Result q2))
 let q5 := ((Go.V.inB (M.SCodeBlock.At q2) (List.length places)) && ((Go.V.inB (M.SCodeBlock.At q2) (List.length (M.SCore.Code c))) && ((Go.V.inB q1 (List.length blocks)) && ((Go.V.inB q0 (List.length (M.SCodePlace.Blocks (List.getD places (Int.toNat at_) M.SCodePlace.zero)))) && ((Go.V.inB at_ (List.length places)) && true)))))
 let q6 := ((M.SIns.Op (List.getD (M.SCore.Code c) q3 M.SIns.zero)) == (26 : Int))
 bif ((Option.isSome q4) && ((q5 || (!q6)) && (q5 || q6))) then
 some ((Go.IntKind.wrap Go.IntKind.i64 ((M.SCodeBlock.End q2) + (1 : Int))), (Go.IntKind.wrap Go.IntKind.i64 ((bif q6 then (Go.IntKind.wrap Go.IntKind.i64 ((M.SCodePlace.Height (List.getD places q3 M.SCodePlace.zero)) - (1 : Int))) else (M.SCodePlace.Height (List.getD places q3 M.SCodePlace.zero))) + (Option.getD q4 default))))
 else
 none
def i_TargetOf (m : M.SModule) (k : Int) (at_ : Int) (depth : Int) : Option (Int × Int × Int) :=
 let q0 := (M.i_shapedCore m k)
 bif (!(Option.getD q0 default)) then
 bif ((Option.isSome q0) && true) then
 some ((0 : Int), (0 : Int), (1 : Int))
 else
 none
 else
 let q1 := (M.i_checked m k)
 let q2 := (Option.getD q1 default)
 let q3 := q2.2
 let q4 := q3.2.2
 bif (q4 != (0 : Int)) then
 bif ((Option.isSome q1) && ((Option.isSome q0) && true)) then
 some ((0 : Int), (0 : Int), q4)
 else
 none
 else
 let q5 := q2.1
 let q6 := (!((decide ((0 : Int) ≤ at_)) && (decide (at_ ≤ (Go.IntKind.wrap Go.IntKind.i64 (((List.length q5) : Int) - (1 : Int)))))))
 let q7 := (List.getD q5 (Int.toNat at_) M.SCodePlace.zero)
 bif (q6 || (!((decide ((0 : Int) ≤ depth)) && (decide (depth ≤ ((List.length (M.SCodePlace.Blocks q7)) : Int)))))) then
 let q8 := (Go.V.inB at_ (List.length q5))
 let q9 := ((q8 || (!(q6 == false))) && ((Option.isSome q1) && ((Option.isSome q0) && true)))
 bif q9 then
 some ((0 : Int), (0 : Int), (2 : Int))
 else
 none
 else
 bif (!(M.SCodePlace.Known q7)) then
 let q8 := (Go.V.inB at_ (List.length q5))
 let q9 := ((q8 || (!(q6 == false))) && ((Option.isSome q1) && ((Option.isSome q0) && true)))
 let q10 := (q8 && q9)
 bif q10 then
 some ((0 : Int), (0 : Int), (3 : Int))
 else
 none
 else
 let q8 := (M.i_target (List.getD (M.SModule.Cores m) (Int.toNat k) M.SCore.zero) q5 q3.1 at_ depth)
 let q9 := (Go.V.inB at_ (List.length q5))
 let q10 := ((q9 || (!(q6 == false))) && ((Option.isSome q1) && ((Option.isSome q0) && true)))
 let q11 := (q9 && q10)
 bif ((Option.isSome q8) && ((Go.V.inB k (List.length (M.SModule.Cores m))) && q11)) then
 let q12 := (Option.getD q8 default)
 some (q12.1, q12.2, (0 : Int))
 else
 none
def l_FnTargets_l0_0 (code : (List UInt8)) (k : Int) (list : (List M.SCodePlace)) (high : Int) (m : M.SModule) : Nat → Int → Option ((Bool) ⊕ ((List UInt8) × Int × M.SModule))
 | 0, _ => none
 | fuel + 1, at_ =>
 bif (decide (at_ < ((List.length list) : Int))) then
 bif ((decide (high < (M.SCodePlace.Height (List.getD list (Int.toNat at_) M.SCodePlace.zero)))) || (decide ((M.SCodePlace.Height (List.getD list (Int.toNat at_) M.SCodePlace.zero)) < (0 : Int)))) then
 let q0 := (((Go.V.inB at_ (List.length list)) || (!((decide (high < (M.SCodePlace.Height (List.getD list (Int.toNat at_) M.SCodePlace.zero)))) == false))) && ((Go.V.inB at_ (List.length list)) && true))
 bif q0 then
 some (.inl false)
 else
 none
 else
 bif (!(M.SCodePlace.Known (List.getD list (Int.toNat at_) M.SCodePlace.zero))) then
 let q0 := (M.l_a8At code at_ (Go.IntKind.wrap Go.IntKind.i64 (((List.length (M.SCodePlace.Blocks (List.getD list (Int.toNat at_) M.SCodePlace.zero))) : Int) + (1 : Int))))
 let q1 := (M.i_TargetOf m k at_ (Option.getD q0 default))
 let q2 := (Option.getD q1 default)
 let q3 := q2.2
 let q4 := q3.2
 bif (q4 != (3 : Int)) then
 let q5 := (((Go.V.inB at_ (List.length list)) || (!((decide (high < (M.SCodePlace.Height (List.getD list (Int.toNat at_) M.SCodePlace.zero)))) == false))) && ((Go.V.inB at_ (List.length list)) && true))
 let q6 := ((Go.V.inB at_ (List.length list)) && ((Option.isSome q1) && ((Option.isSome q0) && ((Go.V.inB at_ (List.length list)) && q5))))
 bif q6 then
 some (.inl false)
 else
 none
 else
 let q5 := (((Go.V.inB at_ (List.length list)) || (!((decide (high < (M.SCodePlace.Height (List.getD list (Int.toNat at_) M.SCodePlace.zero)))) == false))) && ((Go.V.inB at_ (List.length list)) && true))
 let q6 := ((Go.V.inB at_ (List.length list)) && ((Option.isSome q1) && ((Option.isSome q0) && ((Go.V.inB at_ (List.length list)) && q5))))
 bif q6 then
 M.l_FnTargets_l0_0 code k list high m fuel (Go.IntKind.wrap Go.IntKind.i64 (at_ + (1 : Int)))
 else
 none
 else
 let q0 := (M.l_a8At code at_ (Go.IntKind.wrap Go.IntKind.i64 (((List.length (M.SCodePlace.Blocks (List.getD list (Int.toNat at_) M.SCodePlace.zero))) : Int) + (1 : Int))))
 let q1 := (M.i_TargetOf m k at_ (Option.getD q0 default))
 let q2 := (Option.getD q1 default)
 let q3 := q2.2
 let q4 := q3.2
 let q5 := q2.1
 let q6 := (((q4 != (0 : Int)) || (decide (q5 < (0 : Int)))) || (decide (((List.length list) : Int) ≤ q5)))
 let q7 := (List.getD list (Int.toNat q5) M.SCodePlace.zero)
 bif (q6 || ((M.SCodePlace.Known q7) && ((M.SCodePlace.Height q7) != q3.1))) then
 let q8 := (Go.V.inB q5 (List.length list))
 let q9 := (q6 == false)
 let q10 := (((Go.V.inB at_ (List.length list)) || (!((decide (high < (M.SCodePlace.Height (List.getD list (Int.toNat at_) M.SCodePlace.zero)))) == false))) && ((Go.V.inB at_ (List.length list)) && true))
 let q11 := ((Go.V.inB at_ (List.length list)) && ((Option.isSome q1) && ((Option.isSome q0) && ((Go.V.inB at_ (List.length list)) && q10))))
 let q12 := ((q8 || (!(q9 && ((M.SCodePlace.Known q7) == true)))) && ((q8 || (!q9)) && q11))
 bif q12 then
 some (.inl false)
 else
 none
 else
 let q8 := (Go.V.inB q5 (List.length list))
 let q9 := (q6 == false)
 let q10 := (((Go.V.inB at_ (List.length list)) || (!((decide (high < (M.SCodePlace.Height (List.getD list (Int.toNat at_) M.SCodePlace.zero)))) == false))) && ((Go.V.inB at_ (List.length list)) && true))
 let q11 := ((Go.V.inB at_ (List.length list)) && ((Option.isSome q1) && ((Option.isSome q0) && ((Go.V.inB at_ (List.length list)) && q10))))
 let q12 := ((q8 || (!(q9 && ((M.SCodePlace.Known q7) == true)))) && ((q8 || (!q9)) && q11))
 bif q12 then
 M.l_FnTargets_l0_0 code k list high m fuel (Go.IntKind.wrap Go.IntKind.i64 (at_ + (1 : Int)))
 else
 none
 else
 some ((.inr ((code, k, m))))
def l_FnTargets_l0 : Nat → (List UInt8) → Int → M.SModule → Option ((Bool) ⊕ (M.SModule))
 | 0, _, _, _ => none
 | fuel + 1, code, k, m =>
 bif (decide (k < ((List.length (M.SModule.Cores m)) : Int))) then
 let q0 := (M.i_CheckCore m k)
 let q1 := (M.i_HighestOf m k)
 let q2 := (((Option.getD q0 default).2.2 != (0 : Int)) || ((Option.getD q1 default).2 != (0 : Int)))
 let q3 := (Option.getD q0 default).1
 bif ((q2 || (((List.length q3) : Int) != (Go.IntKind.wrap Go.IntKind.i64 (((List.length (M.SCore.Code (List.getD (M.SModule.Cores m) (Int.toNat k) M.SCore.zero))) : Int) + (1 : Int))))) || (decide ((24 : Int) < (Option.getD q1 default).1))) then
 let q4 := (((Go.V.inB k (List.length (M.SModule.Cores m))) || (!(q2 == false))) && ((Option.isSome q1) && ((Option.isSome q0) && true)))
 bif q4 then
 some (.inl false)
 else
 none
 else
 match (M.l_FnTargets_l0_0 code k q3 (Option.getD q1 default).1 m Go.V.bigN (0 : Int)) with
 | none => none
 | some y4 =>
 (match y4 with
 | .inl a5 =>
 let q6 := (((Go.V.inB k (List.length (M.SModule.Cores m))) || (!(q2 == false))) && ((Option.isSome q1) && ((Option.isSome q0) && true)))
 bif q6 then
 some (.inl a5)
 else
 none
 | .inr b5 =>
 let q6 := (((Go.V.inB k (List.length (M.SModule.Cores m))) || (!(q2 == false))) && ((Option.isSome q1) && ((Option.isSome q0) && true)))
 bif q6 then
 M.l_FnTargets_l0 fuel b5.1 (Go.IntKind.wrap Go.IntKind.i64 (b5.2.1 + (1 : Int))) b5.2.2
 else
 none)
 else
 some ((.inr (m)))
def i_checkModule_l0 (t12 : Int) (m : M.SModule) : Nat → Int → Option ((Int × Int × Int) ⊕ (Unit))
 | 0, _ => none
 | fuel + 1, t13 =>
 bif (decide (t13 < t12)) then
 let q0 := (M.i_checked m t13)
 let q1 := (Option.getD q0 default).2.2
 let q2 := q1.2
 bif (q2 != (0 : Int)) then
 bif ((Option.isSome q0) && true) then
 some (.inl (t13, q1.1, q2))
 else
 none
 else
 bif ((Option.isSome q0) && true) then
 M.i_checkModule_l0 t12 m fuel (Go.IntKind.wrap Go.IntKind.i64 (t13 + (1 : Int)))
 else
 none
 else
 some ((.inr (())))
def i_checkModule (m : M.SModule) : Option (Int × Int × Int) :=
 match (M.i_checkModule_l0 ((List.length (M.SModule.Cores m)) : Int) m Go.V.bigN (0 : Int)) with
 | none => none
 | some y0 =>
 (match y0 with
 | .inl a1 =>
 some (a1.1, a1.2.1, a1.2.2)
 | .inr b1 =>
 some ((0 : Int), (0 : Int), (0 : Int)))
def i_CheckModule (m : M.SModule) : Option (Int × Int × Int) :=
 let q0 := (M.i_ModuleShape m)
 bif (!(Option.getD q0 default)) then
 bif ((Option.isSome q0) && true) then
 some ((0 : Int), (0 : Int), (1 : Int))
 else
 none
 else
 let q1 := (M.i_checkModule m)
 bif ((Option.isSome q1) && ((Option.isSome q0) && true)) then
 let q2 := (Option.getD q1 default).2
 some ((Option.getD q1 default).1, q2.1, q2.2)
 else
 none
def i_ModuleOk (m : M.SModule) : Option (Bool) :=
 let q0 := (M.i_CheckModule m)
 bif ((Option.isSome q0) && true) then
 some ((Option.getD q0 default).2.2 == (0 : Int))
 else
 none
def l_FnTargets (code : (List UInt8)) : Option (Bool) :=
 bif (decide ((1048576 : Int) < ((List.length code) : Int))) then
 some true
 else
 let q0 := (M.s_A8Module code)
 match (M.l_FnTargets_l0 Go.V.bigN code (0 : Int) (Option.getD q0 default)) with
 | none => none
 | some y1 =>
 (match y1 with
 | .inl a2 =>
 bif ((Option.isSome q0) && true) then
 some a2
 else
 none
 | .inr b2 =>
 let q3 := (M.i_ModuleOk b2)
 let q4 := (M.i_CheckModule b2)
 let q5 := ((Option.getD q4 default).2.2 == (0 : Int))
 bif (((Option.isSome q3) || (!(q5 == true))) && ((Option.isSome q4) && ((Option.isSome q0) && true))) then
 some (q5 && (Option.getD q3 default))
 else
 none)
end M
