/-
  Part of the proof of the claim.
-/
import Derived.Test.YtjgokmknlclpgaaGreatDoorXEFM
import Derived.Test.YtjgokmknlclpgaaGreatDoorXEHdA
import Derived.Test.YtjgokmknlclpgaaGreatDoorXEHd4
import Derived.Test.YtjgokmknlclpgaaGreatDoorXEHdV
import Derived.Test.YtjgokmknlclpgaaGreatDoorProg
set_option linter.unusedVariables false
set_option maxRecDepth 100000
open Go Go.Proofs
open Go.V
noncomputable section
abbrev zs0:Go.V.fP Go.V.K:=⟨[.bool],[]⟩
abbrev zs1:Go.V.fP Go.V.K:=⟨[.int .i64],[]⟩
abbrev zs2:Go.V.fP Go.V.K:=⟨[.any],[]⟩
abbrev zs3:Go.V.fP Go.V.K:=⟨[.any],[.dead]⟩
abbrev zs4:Go.V.fP Go.V.K:=⟨[.any,.int .i64],[]⟩
abbrev zs5:Go.V.fP Go.V.K:=⟨[.int .i64,.any],[]⟩
abbrev zs6:Go.V.fP Go.V.K:=⟨[.str],[]⟩
abbrev zs7:Go.V.fP Go.V.K:=⟨[.bool],[.dead]⟩
abbrev zs8:Go.V.fP Go.V.K:=⟨[.el U.Type],[]⟩
abbrev zs9:Go.V.fP Go.V.K:=⟨[.bY U.Type],[]⟩
abbrev aEn:Go.V.fP Go.V.K:=⟨[.own 1],[.dead,.arr U.i64]⟩
abbrev aoK:Go.V.fP Go.V.K:=⟨[.bY U.str],[]⟩
abbrev ao9:Go.V.fP Go.V.K:=⟨[.el U.gX],[]⟩
abbrev arJ:Go.V.fP Go.V.K:=⟨[.el U.lJ],[]⟩
abbrev aIO:Go.V.fP Go.V.K:=⟨[.own 1],[.dead,.arr U.str]⟩
abbrev auz:Go.V.fP Go.V.K:=⟨[.el U.Module],[]⟩
abbrev aEm:Go.V.fP Go.V.K:=⟨[.any,.bool],[]⟩
abbrev awc:Go.V.fP Go.V.K:=⟨[.bY U.i64],[]⟩
abbrev aAM:Go.V.fP Go.V.K:=⟨[.any,.any,.bool],[]⟩
abbrev awe:Go.V.fP Go.V.K:=⟨[.rp U.gX 0,.int .i64,.int .i64,.int .i64],[]⟩
abbrev awf:Go.V.fP Go.V.K:=⟨[.rp U.gX 0,.int .i64,.int .i64],[]⟩
abbrev aIV:Go.V.fP Go.V.K:=⟨[.str,.any],[]⟩
abbrev aAT:Go.V.fP Go.V.K:=⟨[.bY U.str,.int .i64,.int .i64],[]⟩
abbrev aAO:Go.V.fP Go.V.K:=⟨[.bY U.str,.int .i64],[]⟩
abbrev aAR:Go.V.fP Go.V.K:=⟨[.any,.bool],[.dead]⟩
abbrev aAQ:Go.V.fP Go.V.K:=⟨[.any,.any,.bool],[.dead,.dead]⟩
abbrev aAN:Go.V.fP Go.V.K:=⟨[.bY U.dE],[]⟩
abbrev aAS:Go.V.fP Go.V.K:=⟨[.ptr 0 0,.int .i64],[.el U.Module]⟩
abbrev aCb:Go.V.fP Go.V.K:=⟨[.el U.Ins],[]⟩
abbrev aCc:Go.V.fP Go.V.K:=⟨[.el U.Core],[]⟩
abbrev aB9:Go.V.fP Go.V.K:=⟨[.el U.dE],[]⟩
abbrev aCa:Go.V.fP Go.V.K:=⟨[.sO [.int .i64,.bool]],[]⟩
abbrev aCd:Go.V.fP Go.V.K:=⟨[.rp U.gX 0],[]⟩
abbrev aEt:Go.V.fP Go.V.K:=⟨[.str,.int .i64],[]⟩
abbrev aIW:Go.V.fP Go.V.K:=⟨[.any,.any,.any,.own 5,.int .i64,.int .i64],[.dead,.dead,.dead,.dead,.dead,.arr U.CodeBlock]⟩
abbrev aIX:Go.V.fP Go.V.K:=⟨[.ptr 0 0,.own 3,.own 4,.any,.any,.any],[.el U.Core,.dead,.dead,.arr U.CodeBlock,.arr U.i64]⟩
abbrev aEu:Go.V.fP Go.V.K:=⟨[.el U.Type,.int .i64],[]⟩
abbrev aEv:Go.V.fP Go.V.K:=⟨[.bY U.str,.bY U.str,.int .i64],[]⟩
abbrev aEw:Go.V.fP Go.V.K:=⟨[.ptr 0 0,.int .i64],[.el U.Type]⟩
abbrev aEq:Go.V.fP Go.V.K:=⟨[.str,.int .i64,.int .i64],[]⟩
abbrev aEi:Go.V.fP Go.V.K:=⟨[.bY U.dE,.int .i64,.int .i64],[]⟩
abbrev aEx:Go.V.fP Go.V.K:=⟨[.ptr 0 0,.int .i64],[.el U.dE]⟩
abbrev aEh:Go.V.fP Go.V.K:=⟨[.ptr 0 0,.int .i64],[.el U.lJ]⟩
abbrev aEj:Go.V.fP Go.V.K:=⟨[.own 0],[.arr U.str]⟩
abbrev aIP:Go.V.fP Go.V.K:=⟨[.int .i64,.int .i64,.int .i64],[.dead]⟩
abbrev aIQ:Go.V.fP Go.V.K:=⟨[.any,.any,.any],[.dead]⟩
abbrev aIR:Go.V.fP Go.V.K:=⟨[.int .i64],[.dead]⟩
abbrev aEk:Go.V.fP Go.V.K:=⟨[.str,.ptr 0 0,.int .i64],[.el U.Module]⟩
abbrev aEl:Go.V.fP Go.V.K:=⟨[.el U.Module,.str],[]⟩
abbrev aEo:Go.V.fP Go.V.K:=⟨[.bY U.Type,.own 1,.int .i64],[.dead,.arr U.i64]⟩
abbrev aIS:Go.V.fP Go.V.K:=⟨[.any,.any,.any,.bool],[]⟩
abbrev aIT:Go.V.fP Go.V.K:=⟨[.rp U.gX 0,.int .i64,.int .i64,.any],[]⟩
abbrev aIU:Go.V.fP Go.V.K:=⟨[.rp U.gX 0,.int .i64,.any],[]⟩
abbrev aEp:Go.V.fP Go.V.K:=⟨[.rp U.gX 0,.int .i64],[]⟩
abbrev aEr:Go.V.fP Go.V.K:=⟨[.own 1,.bY U.Type,.int .i64,.int .i64],[.dead,.arr U.i64]⟩
abbrev aEs:Go.V.fP Go.V.K:=⟨[.ptr 0 0,.own 2],[.el U.gX,.dead,.arr U.str]⟩
abbrev aHE:Go.V.fP Go.V.K:=⟨[.el U.Module,.int .i64],[]⟩
abbrev aHF:Go.V.fP Go.V.K:=⟨[.sO [.int .i64,.int .i64,.bool]],[]⟩
abbrev aHr:Go.V.fP Go.V.K:=⟨[.own 0],[.arr U.i64]⟩
abbrev aHG:Go.V.fP Go.V.K:=⟨[.sO [.int .i64,.int .i64]],[]⟩
abbrev aHH:Go.V.fP Go.V.K:=⟨[.rp U.checker 0,.el U.Ins],[]⟩
abbrev aHq:Go.V.fP Go.V.K:=⟨[.bY U.Type,.int .i64],[]⟩
abbrev aHn:Go.V.fP Go.V.K:=⟨[.bY U.dE,.int .i64],[]⟩
abbrev aHo:Go.V.fP Go.V.K:=⟨[.bY U.str,.str],[]⟩
abbrev aHp:Go.V.fP Go.V.K:=⟨[.sO [.int .i64,.int .i64,.int .i64]],[]⟩
abbrev aHt:Go.V.fP Go.V.K:=⟨[.int .i64],[.arr U.str]⟩
abbrev aHu:Go.V.fP Go.V.K:=⟨[.int .i64],[.tree U.Type]⟩
abbrev aHv:Go.V.fP Go.V.K:=⟨[.int .i64],[.tree U.Param]⟩
abbrev aHw:Go.V.fP Go.V.K:=⟨[.int .i64],[.tree U.Func]⟩
abbrev aHx:Go.V.fP Go.V.K:=⟨[.int .i64],[.tree U.dE]⟩
abbrev aHy:Go.V.fP Go.V.K:=⟨[.int .i64],[.arr U.Import]⟩
abbrev aHz:Go.V.fP Go.V.K:=⟨[.int .i64],[.arr U.Ins]⟩
abbrev aHA:Go.V.fP Go.V.K:=⟨[.int .i64],[.tree U.Core]⟩
abbrev aHB:Go.V.fP Go.V.K:=⟨[.int .i64],[.arr U.sW]⟩
abbrev aHC:Go.V.fP Go.V.K:=⟨[.int .i64],[.arr U.Lower]⟩
abbrev aHD:Go.V.fP Go.V.K:=⟨[.int .i64],[.arr U.Builtin]⟩
abbrev aIY:Go.V.fP Go.V.K:=⟨[.bY U.Import,.int .i64,.int .i64],[]⟩
abbrev aIZ:Go.V.fP Go.V.K:=⟨[.bY U.Core,.int .i64,.int .i64],[]⟩
abbrev aI0:Go.V.fP Go.V.K:=⟨[.bY U.Import,.own 1,.int .i64],[.dead,.arr U.Import]⟩
abbrev aI1:Go.V.fP Go.V.K:=⟨[.bY U.Ins,.own 1,.int .i64],[.dead,.arr U.Ins]⟩
abbrev aI2:Go.V.fP Go.V.K:=⟨[.bY U.Core,.own 1,.int .i64],[.dead,.tree U.Core]⟩
abbrev aI3:Go.V.fP Go.V.K:=⟨[.ptr 0 0,.own 3,.own 4,.int .i64],[.el U.Core,.dead,.dead,.arr U.CodeBlock,.arr U.i64]⟩
abbrev aI4:Go.V.fP Go.V.K:=⟨[.rp U.anM 0,.int .i64,.int .i64],[]⟩
abbrev aI5:Go.V.fP Go.V.K:=⟨[.any,.any,.any,.vP,.own 6,.int .i64,.int .i64],[.dead,.dead,.dead,.dead,.dead,.dead,.arr U.jd,.dead,.dead]⟩
abbrev aI6:Go.V.fP Go.V.K:=⟨[.ptr 0 0,.ptr 1 0,.own 5,.any,.any,.any,.any],[.el U.Core,.box [.int .i64,.bY U.Import,.bY U.Core,.str,.int .i64,.int .i64,.bool,.bY U.Ins,.own 6,.own 7,.int .i64,.bool],.dead,.dead,.dead,.arr U.jd,.arr U.CodeBlock,.arr U.i64]⟩
abbrev aI7:Go.V.fP Go.V.K:=⟨[.ptr 0 0,.ptr 1 0,.own 5,.int .i64],[.el U.Core,.box [.int .i64,.bY U.Import,.bY U.Core,.str,.int .i64,.int .i64,.bool,.bY U.Ins,.own 6,.own 7,.int .i64,.bool],.dead,.dead,.dead,.arr U.jd,.arr U.CodeBlock,.arr U.i64]⟩
abbrev aI8:Go.V.fP Go.V.K:=⟨[.ptr 0 0,.own 3,.own 4,.bY U.Ins,.int .i64,.int .i64],[.el U.Core,.dead,.dead,.arr U.CodeBlock,.arr U.i64]⟩
abbrev aI9:Go.V.fP Go.V.K:=⟨[.ptr 0 0,.el U.Ins],[.box [.int .i64,.bY U.Import,.bY U.Core,.str,.int .i64,.int .i64,.bool,.bY U.Ins,.bY U.CodeBlock,.int .i64,.own 1,.own 2,.int .i64,.bool],.arr U.i64,.arr U.i64]⟩
abbrev aJa:Go.V.fP Go.V.K:=⟨[.int .i64],[.box [.int .i64,.bY U.Import,.bY U.Core,.str,.int .i64,.int .i64,.bool,.bY U.Ins,.bY U.CodeBlock,.int .i64,.own 3,.own 4,.int .i64,.bool],.dead,.dead,.arr U.i64,.arr U.i64]⟩
abbrev aJb:Go.V.fP Go.V.K:=⟨[.any,.any,.any,.any,.own 6,.own 7,.int .i64,.int .i64],[.dead,.dead,.dead,.dead,.dead,.dead,.tree U.jd,.arr U.CodeBlock,.dead,.dead]⟩
abbrev aJc:Go.V.fP Go.V.K:=⟨[.ptr 0 0,.bY U.CodeBlock,.ptr 1 0,.own 5,.any,.any,.any,.any],[.el U.Core,.box [.int .i64,.bY U.Import,.bY U.Core,.str,.int .i64,.int .i64,.bool,.bY U.Ins,.bY U.CodeBlock,.int .i64,.own 6,.own 7,.int .i64,.bool],.dead,.dead,.dead,.tree U.jd,.arr U.i64,.arr U.i64]⟩
abbrev aJd:Go.V.fP Go.V.K:=⟨[.ptr 0 0,.bY U.CodeBlock,.ptr 1 0,.own 5,.bY U.Ins,.int .i64,.int .i64],[.el U.Core,.box [.int .i64,.bY U.Import,.bY U.Core,.str,.int .i64,.int .i64,.bool,.bY U.Ins,.bY U.CodeBlock,.int .i64,.own 6,.own 7,.int .i64,.bool],.dead,.dead,.dead,.tree U.jd,.arr U.i64,.arr U.i64]⟩
abbrev aJe:Go.V.fP Go.V.K:=⟨[.bY U.Import,.bY U.Import,.int .i64],[]⟩
abbrev aJf:Go.V.fP Go.V.K:=⟨[.bY U.Ins,.bY U.Ins,.int .i64],[]⟩
abbrev aJg:Go.V.fP Go.V.K:=⟨[.bY U.Core,.bY U.Core,.int .i64],[]⟩
abbrev aJh:Go.V.fP Go.V.K:=⟨[.bY U.Type,.int .i64,.int .i64],[]⟩
abbrev aJi:Go.V.fP Go.V.K:=⟨[.bY U.Type,.bY U.Type,.int .i64],[]⟩
abbrev aJj:Go.V.fP Go.V.K:=⟨[.any,.any,.int .i64,.int .i64],[.dead]⟩
abbrev aJk:Go.V.fP Go.V.K:=⟨[.int .i64,.int .i64,.any,.any],[.dead]⟩
abbrev aJl:Go.V.fP Go.V.K:=⟨[.int .i64,.ptr 0 0,.int .i64,.int .i64,.int .i64],[.el U.Type]⟩
abbrev aGH:Go.V.fP Go.V.K:=⟨[.int .i64,.int .i64,.ptr 0 0,.int .i64],[.el U.Type]⟩
abbrev aGI:Go.V.fP Go.V.K:=⟨[.int .i64,.int .i64,.bY U.Type,.int .i64,.int .i64],[]⟩
abbrev aGJ:Go.V.fP Go.V.K:=⟨[.int .i64,.bY U.Type,.int .i64,.int .i64],[]⟩
abbrev aGK:Go.V.fP Go.V.K:=⟨[.bY U.Type,.fn 267 [],.int .i64,.int .i64],[]⟩
abbrev aGL:Go.V.fP Go.V.K:=⟨[.bY U.str,.fn 315 [],.int .i64,.int .i64],[]⟩
abbrev aGM:Go.V.fP Go.V.K:=⟨[.bY U.Type,.fn 157 [],.int .i64,.int .i64],[]⟩
abbrev aGN:Go.V.fP Go.V.K:=⟨[.bY U.i64,.int .i64,.int .i64,.int .i64],[]⟩
abbrev aGO:Go.V.fP Go.V.K:=⟨[.bY U.Type,.fn 188 [.rp U.aaR 0],.int .i64,.int .i64],[]⟩
abbrev aGP:Go.V.fP Go.V.K:=⟨[.bY U.Type,.fn 188 [.rp U.aaR 0]],[]⟩
abbrev aGQ:Go.V.fP Go.V.K:=⟨[.bY U.Param,.int .i64,.int .i64],[]⟩
abbrev aGR:Go.V.fP Go.V.K:=⟨[.bY U.Func,.int .i64,.int .i64],[]⟩
abbrev aGS:Go.V.fP Go.V.K:=⟨[.any,.any,.any,.any,.int .i64],[]⟩
abbrev aGT:Go.V.fP Go.V.K:=⟨[.str,.int .i64,.int .i64,.int .i64,.any],[]⟩
abbrev aGU:Go.V.fP Go.V.K:=⟨[.str,.int .i64,.int .i64,.int .i64,.int .i64],[]⟩
abbrev aGV:Go.V.fP Go.V.K:=⟨[.ptr 0 0,.int .i64,.any],[.el U.lJ,.dead]⟩
abbrev aGW:Go.V.fP Go.V.K:=⟨[.ptr 0 0,.int .i64,.ptr 1 0,.int .i64],[.el U.lJ,.el U.Param]⟩
abbrev aGX:Go.V.fP Go.V.K:=⟨[.str,.own 1,.bool],[.dead,.arr U.str]⟩
abbrev aGY:Go.V.fP Go.V.K:=⟨[.bY U.str,.str,.own 1,.bool,.int .i64],[.dead,.arr U.str]⟩
abbrev aGZ:Go.V.fP Go.V.K:=⟨[.bY U.str,.ptr 0 0,.int .i64],[.el U.Type]⟩
abbrev aG0:Go.V.fP Go.V.K:=⟨[.bY U.str,.ptr 0 0,.bY U.str,.int .i64],[.el U.lJ]⟩
abbrev aG1:Go.V.fP Go.V.K:=⟨[.bY U.str,.bY U.str,.int .i64,.bool],[]⟩
abbrev aG2:Go.V.fP Go.V.K:=⟨[.bY U.str,.bY U.str,.int .i64,.bool,.int .i64],[]⟩
abbrev aFv:Go.V.fP Go.V.K:=⟨[.int .i64,.bY U.str,.int .i64,.int .i64],[]⟩
abbrev aFw:Go.V.fP Go.V.K:=⟨[.bY U.str,.fn 141 [],.int .i64,.int .i64],[]⟩
abbrev aFx:Go.V.fP Go.V.K:=⟨[.bY U.Param,.own 1,.any],[.dead,.arr U.str]⟩
abbrev aFy:Go.V.fP Go.V.K:=⟨[.bY U.Param,.own 1,.bY U.Param,.int .i64,.int .i64],[.dead,.arr U.str]⟩
abbrev aFz:Go.V.fP Go.V.K:=⟨[.own 1,.bY U.Type,.int .i64,.int .i64],[.dead,.arr U.str]⟩
abbrev aFA:Go.V.fP Go.V.K:=⟨[.own 1,.bY U.Param,.int .i64,.int .i64],[.dead,.arr U.str]⟩
abbrev aFB:Go.V.fP Go.V.K:=⟨[.bY U.str,.str,.int .i64,.int .i64],[]⟩
abbrev aFC:Go.V.fP Go.V.K:=⟨[.bY U.str,.fn 144 [.rp U.dE 0],.int .i64,.int .i64],[]⟩
abbrev aFD:Go.V.fP Go.V.K:=⟨[.bY U.str,.fn 144 [.rp U.dE 0]],[]⟩
abbrev aFE:Go.V.fP Go.V.K:=⟨[.own 2,.any],[.dead,.dead,.arr U.str]⟩
abbrev aFF:Go.V.fP Go.V.K:=⟨[.ptr 0 0,.own 2,.bY U.Func,.int .i64,.int .i64],[.el U.dE,.dead,.arr U.str]⟩
abbrev aFG:Go.V.fP Go.V.K:=⟨[.own 1,.bY U.Param,.int .i64,.int .i64],[.dead,.arr U.Type]⟩
abbrev aFH:Go.V.fP Go.V.K:=⟨[.bY U.Type,.fn 149 [],.int .i64,.int .i64],[]⟩
abbrev aFI:Go.V.fP Go.V.K:=⟨[.bY U.Func,.fn 114 [],.int .i64,.int .i64],[]⟩
abbrev aFJ:Go.V.fP Go.V.K:=⟨[.bY U.dE,.own 1,.any],[.dead,.arr U.str]⟩
abbrev aFK:Go.V.fP Go.V.K:=⟨[.bY U.dE,.own 1,.bY U.dE,.int .i64,.int .i64],[.dead,.arr U.str]⟩
abbrev aFL:Go.V.fP Go.V.K:=⟨[.bY U.Param,.bY U.Param,.int .i64],[]⟩
abbrev aFM:Go.V.fP Go.V.K:=⟨[.bY U.Func,.bY U.Func,.int .i64],[]⟩
abbrev aFN:Go.V.fP Go.V.K:=⟨[.bY U.dE,.bY U.dE,.int .i64],[]⟩
abbrev aFO:Go.V.fP Go.V.K:=⟨[.bY U.sW,.int .i64,.int .i64],[]⟩
abbrev aFP:Go.V.fP Go.V.K:=⟨[.bY U.Lower,.int .i64,.int .i64],[]⟩
abbrev aFQ:Go.V.fP Go.V.K:=⟨[.bY U.Builtin,.int .i64,.int .i64],[]⟩
abbrev aFR:Go.V.fP Go.V.K:=⟨[.bY U.sW,.own 1,.int .i64],[.dead,.arr U.sW]⟩
abbrev aFS:Go.V.fP Go.V.K:=⟨[.bY U.Lower,.own 1,.int .i64],[.dead,.arr U.Lower]⟩
abbrev aFT:Go.V.fP Go.V.K:=⟨[.bY U.Builtin,.own 1,.int .i64],[.dead,.arr U.Builtin]⟩
abbrev aFU:Go.V.fP Go.V.K:=⟨[.ptr 1 0,.ptr 2 0],[.dead,.box [.int .i64,.str,.own 7,.own 8],.box [.int .i64,.str,.own 9,.own 10],.dead,.dead,.dead,.dead,.arr U.str,.arr U.Type,.arr U.str,.arr U.Type]⟩
abbrev aFV:Go.V.fP Go.V.K:=⟨[.ptr 0 0,.ptr 1 0,.ptr 2 0,.int .i64],[.el U.Type,.box [.int .i64,.str,.own 7,.own 8],.box [.int .i64,.str,.own 9,.own 10],.dead,.dead,.dead,.dead,.arr U.str,.arr U.Type,.arr U.str,.arr U.Type]⟩
abbrev aFW:Go.V.fP Go.V.K:=⟨[.ptr 0 0,.own 2,.int .i64],[.el U.lJ,.dead,.arr U.Type]⟩
abbrev aFX:Go.V.fP Go.V.K:=⟨[.bY U.i64,.bY U.i64,.own 1,.int .i64],[.dead,.arr U.i64]⟩
abbrev aFY:Go.V.fP Go.V.K:=⟨[.bY U.dE,.str,.int .i64,.int .i64],[]⟩
abbrev aFZ:Go.V.fP Go.V.K:=⟨[.bY U.Ins,.fn 228 [],.int .i64,.int .i64],[]⟩
abbrev aF0:Go.V.fP Go.V.K:=⟨[.bY U.sW,.bY U.sW,.int .i64],[]⟩
abbrev aF1:Go.V.fP Go.V.K:=⟨[.bY U.Lower,.bY U.Lower,.int .i64],[]⟩
abbrev aF2:Go.V.fP Go.V.K:=⟨[.bY U.Builtin,.bY U.Builtin,.int .i64],[]⟩
abbrev aF3:Go.V.fP Go.V.K:=⟨[.any,.any,.any,.bool],[.dead,.dead,.dead,.dead,.dead]⟩
abbrev aF4:Go.V.fP Go.V.K:=⟨[.ptr 0 0,.own 3,.own 4,.any],[.el U.Module,.dead,.dead,.arr U.str,.arr U.str]⟩
abbrev aF5:Go.V.fP Go.V.K:=⟨[.ptr 0 0,.own 3,.own 4,.bY U.Import,.int .i64,.int .i64],[.el U.Module,.dead,.dead,.arr U.str,.arr U.str]⟩
abbrev aF6:Go.V.fP Go.V.K:=⟨[.any,.any,.bool],[.dead,.dead,.dead,.dead]⟩
abbrev aF7:Go.V.fP Go.V.K:=⟨[.own 2,.own 3,.any],[.dead,.dead,.arr U.str,.arr U.str]⟩
abbrev aF8:Go.V.fP Go.V.K:=⟨[.own 2,.own 3,.bY U.Core,.int .i64,.int .i64],[.dead,.dead,.arr U.str,.arr U.str]⟩
abbrev aF9:Go.V.fP Go.V.K:=⟨[.bY U.str,.fn 230 [],.int .i64,.int .i64],[]⟩
abbrev aGa:Go.V.fP Go.V.K:=⟨[.ptr 0 0,.int .i64,.int .i64],[.el U.Module]⟩
abbrev aGb:Go.V.fP Go.V.K:=⟨[.own 2,.bY U.dE,.int .i64,.int .i64],[.dead,.dead,.arr U.bound]⟩
abbrev aGc:Go.V.fP Go.V.K:=⟨[.own 2,.ptr 1 0,.bY U.dE,.int .i64,.int .i64,.bY U.Func,.int .i64,.int .i64],[.dead,.el U.dE,.arr U.bound]⟩
abbrev aGd:Go.V.fP Go.V.K:=⟨[.own 1,.bY U.dE,.int .i64,.int .i64],[.dead,.arr U.bound]⟩
abbrev aGe:Go.V.fP Go.V.K:=⟨[.bY U.Core,.fn 154 [.rp U.str 0],.int .i64,.int .i64],[]⟩
abbrev aGf:Go.V.fP Go.V.K:=⟨[.bY U.i64,.bY U.i64,.own 1,.int .i64,.int .i64],[.dead,.arr U.i64]⟩
abbrev aGg:Go.V.fP Go.V.K:=⟨[.ptr 0 0,.bY U.bound,.bY U.sW,.int .i64,.int .i64],[.el U.gX]⟩
abbrev aGh:Go.V.fP Go.V.K:=⟨[.bY U.Import,.fn 159 [.rp U.str 0],.int .i64,.int .i64],[]⟩
abbrev aGi:Go.V.fP Go.V.K:=⟨[.ptr 0 0,.bY U.bound,.bY U.Lower,.int .i64,.int .i64],[.el U.gX]⟩
abbrev aGj:Go.V.fP Go.V.K:=⟨[.ptr 0 0,.bool],[.el U.dE,.dead,.dead]⟩
abbrev aGk:Go.V.fP Go.V.K:=⟨[.ptr 0 0,.any],[.box [.str,.str,.str,.own 3,.own 4],.dead,.dead,.arr U.str,.arr U.Func]⟩
abbrev aGl:Go.V.fP Go.V.K:=⟨[.str,.ptr 0 0,.bY U.dE,.int .i64,.int .i64],[.box [.str,.str,.str,.own 3,.own 4],.dead,.dead,.arr U.str,.arr U.Func]⟩
abbrev aGm:Go.V.fP Go.V.K:=⟨[.ptr 0 0,.bY U.Builtin,.int .i64,.int .i64],[.el U.gX]⟩
abbrev aGn:Go.V.fP Go.V.K:=⟨[.ptr 0 0,.own 2,.bY U.Lower,.int .i64,.int .i64],[.el U.gX,.dead,.arr U.str]⟩
abbrev aGo:Go.V.fP Go.V.K:=⟨[.ptr 0 0,.own 2,.bY U.Builtin,.int .i64,.int .i64],[.el U.gX,.dead,.arr U.str]⟩
abbrev aGp:Go.V.fP Go.V.K:=⟨[.bY U.str,.own 1,.int .i64],[.dead,.arr U.str]⟩
abbrev aGq:Go.V.fP Go.V.K:=⟨[.bY U.Type,.own 1,.int .i64],[.dead,.tree U.Type]⟩
abbrev aGr:Go.V.fP Go.V.K:=⟨[.bY U.Param,.own 1,.int .i64],[.dead,.tree U.Param]⟩
abbrev aGs:Go.V.fP Go.V.K:=⟨[.bY U.Func,.own 1,.int .i64],[.dead,.tree U.Func]⟩
abbrev aGt:Go.V.fP Go.V.K:=⟨[.bY U.dE,.own 1,.int .i64],[.dead,.tree U.dE]⟩
abbrev aGu:Go.V.fP Go.V.K:=⟨[.bY U.dE,.own 1,.int .i64],[.dead,.arr U.str]⟩
abbrev aGv:Go.V.fP Go.V.K:=⟨[.own 1,.bY U.dE,.int .i64,.int .i64],[.dead,.arr U.str]⟩
abbrev aGw:Go.V.fP Go.V.K:=⟨[.own 0,.int .i64,.int .i64],[.arr U.str]⟩
abbrev aGx:Go.V.fP Go.V.K:=⟨[.own 0,.int .i64,.int .i64],[.tree U.Type]⟩
abbrev aGy:Go.V.fP Go.V.K:=⟨[.own 0,.int .i64,.int .i64],[.tree U.Param]⟩
abbrev aGz:Go.V.fP Go.V.K:=⟨[.own 0,.int .i64,.int .i64],[.tree U.Func]⟩
abbrev aGA:Go.V.fP Go.V.K:=⟨[.own 0,.int .i64,.int .i64],[.tree U.dE]⟩
abbrev aGB:Go.V.fP Go.V.K:=⟨[.own 0,.int .i64,.int .i64],[.arr U.Import]⟩
abbrev aGC:Go.V.fP Go.V.K:=⟨[.own 0,.int .i64,.int .i64],[.arr U.Ins]⟩
abbrev aGD:Go.V.fP Go.V.K:=⟨[.own 0,.int .i64,.int .i64],[.tree U.Core]⟩
abbrev aGE:Go.V.fP Go.V.K:=⟨[.own 0,.int .i64,.int .i64],[.arr U.sW]⟩
abbrev aGF:Go.V.fP Go.V.K:=⟨[.own 0,.int .i64,.int .i64],[.arr U.Lower]⟩
abbrev aGG:Go.V.fP Go.V.K:=⟨[.own 0,.int .i64,.int .i64],[.arr U.Builtin]⟩
def ayh:Go.TypeId->Option U:=iO [(2,U.i64),(3,U.i64),(4,U.bool),(5,U.u8),(6,U.u8),(9,U.str),(10,U.str),(11,U.str),(12,U.u64),(21,U.i32),(22,U.aaS),(23,U.JQ),(24,U.aaT),(26,U.Module),(27,U.aaU),(28,U.QZ),(29,U.EF),(31,U.gX),(33,U.apm),(35,U.aaS),(36,U.JQ),(37,U.aaT),(39,U.Module),(40,U.aaU),(41,U.QZ),(42,U.EF),(44,U.gX),(75,U.aaV),(77,U.dE),(82,U.sW),(85,U.Lower),(88,U.Builtin),(92,U.aaV),(94,U.dE),(98,U.sW),(100,U.Lower),(102,U.Builtin),(114,U.ayi),(118,U.Import),(120,U.amd),(122,U.Core),(130,U.Import),(132,U.amd),(134,U.Core),(140,U.Q3),(141,U.aaW),(143,U.Type),(145,U.lJ),(147,U.Func),(152,U.Q3),(153,U.aaW),(155,U.Type),(157,U.lJ),(159,U.Func),(176,U.Wj),(180,U.bound),(184,U.Param),(186,U.Ins),(192,U.aaR),(198,U.Ins),(224,U.BA),(242,U.BB),(250,U.Param),(260,U.anM),(262,U.jd),(280,U.checker),(286,U.u64),(290,U.aaR),(292,U.CodeBlock),(304,U.i64),(305,U.u64),(321,U.i64),(330,U.u32),(343,U.u64),(375,U.u8),(376,U.u8),(378,U.i32),(379,U.i32)]
def aEy:Go.TypeId->List (Option U):=iY [] [(22,[some U.dE]),(23,[some U.Import]),(24,[some U.Core]),(26,[none,some U.Import,some U.Core]),(27,[some U.sW]),(28,[some U.Lower]),(29,[some U.Builtin]),(31,[none,none,some U.dE,some U.dE,none,none,none,some U.Import,some U.Core,some U.sW,some U.Lower,some U.Builtin]),(33,[some U.str]),(35,[some U.dE]),(36,[some U.Import]),(37,[some U.Core]),(39,[none,some U.Import,some U.Core]),(40,[some U.sW]),(41,[some U.Lower]),(42,[some U.Builtin]),(44,[none,none,some U.dE,some U.dE,none,none,none,some U.Import,some U.Core,some U.sW,some U.Lower,some U.Builtin]),(75,[some U.Func]),(77,[none,none,none,some U.str,some U.Func]),(92,[some U.Func]),(94,[none,none,none,some U.str,some U.Func]),(114,[some U.u8]),(120,[some U.Ins]),(122,[none,none,none,none,some U.Ins]),(132,[some U.Ins]),(134,[none,none,none,none,some U.Ins]),(140,[some U.Param]),(141,[some U.Type]),(143,[none,none,some U.str,some U.Type]),(145,[some U.Param,none,none,some U.str,some U.Type,none]),(147,[none,some U.Param,none,none,some U.str,some U.Type,none]),(152,[some U.Param]),(153,[some U.Type]),(155,[none,none,some U.str,some U.Type]),(157,[some U.Param,none,none,some U.str,some U.Type,none]),(159,[none,some U.Param,none,none,some U.str,some U.Type,none]),(176,[some U.bound]),(180,[none,none,some U.Param,none,none,some U.str,some U.Type,none]),(184,[none,none,none,some U.str,some U.Type]),(192,[some U.i64]),(224,[some U.jd]),(242,[some U.CodeBlock]),(250,[none,none,none,some U.str,some U.Type]),(260,[none,some U.Import,some U.Core,none,none,none,none,some U.Ins,some U.CodeBlock,some U.i64,none,none]),(262,[none,none,some U.i64]),(280,[none,some U.Import,some U.Core,none,none,none,none,some U.Ins,some U.CodeBlock,none,some U.i64,some U.i64,none,none]),(290,[some U.i64])]
theorem aG:Tryz.prog.follows .mixedOrders=true:=by kernel_rfl
abbrev dD(c:bG K):Prop:=c.Ok D Tryz.prog
abbrev KT(R:Type):=Ex->List (AV K)->List (Ob K)->R
def kk{R:Type}(k:KT R)(e:Ex)(s:fP K)(v:s.T):R:=k e (fP.akL D s v) (fP.aaX D s v)
def cB(f:FuncId)(sh:fP K)(run:sh.T->Option Bool):bG K:={f:=f,sh:=sh,R:=Bool,run:=run,dflt:=default,out:=fun r=>(Sh.enc D (.bool) r,ja.encs D [] ())}
def cI(f:FuncId)(sh:fP K)(run:sh.T->Option Int):bG K:={f:=f,sh:=sh,R:=Int,run:=run,dflt:=default,out:=fun r=>(Sh.enc D (.int .i64) r,ja.encs D [] ())}
def cS(f:FuncId)(sh:fP K)(run:sh.T->Option (List UInt8)):bG K:={f:=f,sh:=sh,R:=List UInt8,run:=run,dflt:=default,out:=fun r=>(Sh.enc D (.str) r,ja.encs D [] ())}
def Js:Cx K:={P:=Tryz.prog,D:=D,ty:=ayh,sls:=aEy,mode:=iY .plain [],call:=callOf D [],loop:=iO []}
def iZ(m:List (FuncId×Go.V.Mode))(c:List (bG K))(l:List (Nat×cO K)):Cx K:={Js with mode:=iY .plain m,call:=callOf D c,loop:=iO l}
theorem fJ{cx:Cx K}(fz:Bool)(hc:aJ cx){c:bG K}{fn:Func}(hg:cx.P.funcs[c.f]?=some fn)(hl:∀b,fn.body=some b->uy cx b)(d:aCf K cx.D c.R)(he:∀x,aEz cx fz fn (c.sh.akL cx.D x) (c.sh.aaX cx.D x) d.fin=c.run x)(hD:dX cx.D:=by exact aV)(hm:cx.P.follows .mixedOrders=true:=by exact aG)(hn:(fn.name== "runtime.NumGoroutine")=false:=by kernel_rfl)(ho:∀x,([(c.out (d.conv x)).1],(c.out (d.conv x)).2)=(d.sh.akL cx.D x,d.sh.aaX cx.D x):=by exact fun x=>rfl):c.Ok cx.D cx.P:=vg hD hc hm ⟨hg,hn⟩ hl d ho he
def aaY(m:M.aB->Int->Option Int):bG K:=cI 68 ⟨[.el U.Import,.int .i64],[]⟩ (fun x=>m x.1.1 x.1.2.1)
def bZ:Cx K:=iZ [] [] []
theorem bP:aJ bZ:=ak aV _ aY
theorem ass:dD (aaY (M.O5)):=fJ (cx:=bZ) true bP Tryz.func68 (aS (af (by kernel_rfl))) ⟨zs1,fun x=>x.1.1⟩ (fun x=>by kernel_rfl)
def iG(y:Int⊕Int){R:Type}(k:KT R):R:=match y with|.inl a0=>kk k Ex.ret zs4 (((),(a0,())),())|.inr a1=>kk k (Ex.exit 0) zs5 ((a1,((),())),())
def iP:List (gB K ((Int)⊕Int)):=[⟨Ex.ret,zs4,fun x=>.inl x.1.2.1⟩,⟨(Ex.exit 0),zs5,fun x=>.inr (x.1.1)⟩]
def UX:cO K:=df D false 27 0 [0,1,5] [1,4] aIY (fun x=>M.tN x.1.1 az x.1.2.1 x.1.2.2.1) iG
def X9(m:(List M.aB)->Int->Option Int):bG K:=cI 42 ⟨[.bY U.Import,.int .i64],[]⟩ (fun x=>m x.1.1 x.1.2.1)
def Gj:Cx K:=iZ [(68,.plain)] [aaY M.O5] [(5,UX)]
theorem UY:aJ Gj:=ak aV _ (ai ass aY)
theorem ags:bH Gj (bD (bJ Tryz.f42) 0) UX:=bf (cx:=Gj) (sh:=aIY) (run:=fun n x=>M.tN x.1.1 n x.1.2.1 x.1.2.2.1) (cZ:=iP) aV UY aG (af (by kernel_rfl)) (fun _=>rfl) (fun m x=>by kernel_rfl) (ai ⟨dH,fun _ _ _=>rfl⟩ (ai ⟨bg,fun _ _ _=>rfl⟩ aY)) false az
theorem apn:dD (X9 (M.JR)):=fJ (cx:=Gj) true UY Tryz.func42 (aS (aO 1 (by kernel_rfl) (bM (.mk (by kernel_rfl) ags)))) ⟨zs1,fun x=>x.1.1⟩ (fun x=>by kernel_rfl)
def ail(m:(List M.bK)->Int->Option Int):bG K:=cI 100 ⟨[.bY U.Ins,.int .i64],[]⟩ (fun x=>m x.1.1 x.1.2.1)
theorem awq:dD (ail (M.aaZ)):=fJ (cx:=bZ) true bP Tryz.func100 (aS (af (by kernel_rfl))) ⟨zs1,fun x=>x.1.1⟩ (fun x=>by kernel_rfl)
def aim(m:M.aH->Int->Option Int):bG K:=cI 69 ⟨[.el U.Core,.int .i64],[]⟩ (fun x=>m x.1.1 x.1.2.1)
def ame:Cx K:=iZ [(100,.plain)] [ail M.aaZ] []
theorem ast:aJ ame:=ak aV _ (ai awq aY)
theorem awr:dD (aim (M.aa0)):=fJ (cx:=ame) true ast Tryz.func69 (aS (af (by kernel_rfl))) ⟨zs1,fun x=>x.1.1⟩ (fun x=>by kernel_rfl)
def aa1:cO K:=df D false 27 0 [0,1,5] [1,4] aIZ (fun x=>M.zk x.1.1 az x.1.2.1 x.1.2.2.1) iG
def aeX(m:(List M.aH)->Int->Option Int):bG K:=cI 43 ⟨[.bY U.Core,.int .i64],[]⟩ (fun x=>m x.1.1 x.1.2.1)
def MN:Cx K:=iZ [(69,.plain)] [aim M.aa0] [(5,aa1)]
theorem aa2:aJ MN:=ak aV _ (ai awr aY)
theorem akM:bH MN (bD (bJ Tryz.f43) 0) aa1:=bf (cx:=MN) (sh:=aIZ) (run:=fun n x=>M.zk x.1.1 n x.1.2.1 x.1.2.2.1) (cZ:=iP) aV aa2 aG (af (by kernel_rfl)) (fun _=>rfl) (fun m x=>by kernel_rfl) (ai ⟨dH,fun _ _ _=>rfl⟩ (ai ⟨bg,fun _ _ _=>rfl⟩ aY)) false az
theorem auR:dD (aeX (M.UZ)):=fJ (cx:=MN) true aa2 Tryz.func43 (aS (aO 1 (by kernel_rfl) (bM (.mk (by kernel_rfl) akM)))) ⟨zs1,fun x=>x.1.1⟩ (fun x=>by kernel_rfl)
def Zq(m:M.aK->Int->Option Int):bG K:=cI 17 aHE (fun x=>m x.1.1 x.1.2.1)
def aeY:Cx K:=iZ [(42,.plain),(43,.plain)] [X9 M.JR,aeX M.UZ] []
theorem anN:aJ aeY:=ak aV _ (ai apn (ai auR aY))
theorem arT:dD (Zq (M.Oj)):=fJ (cx:=aeY) true anN Tryz.func17 (aS (af (by kernel_rfl))) ⟨zs1,fun x=>x.1.1⟩ (fun x=>by kernel_rfl)
def aa3(m:M.aB->Option (M.aB)):bG K:={f:=81,sh:=⟨[.el U.Import],[]⟩,R:=M.aB,run:=fun x=>m x.1.1,dflt:=default,out:=fun r=>(Sh.enc D (.el U.Import) r,ja.encs D [] ())}
def zU:Cx K:={Js with mode:=iY .plain [],rsl:=[[]],deep:=fun c=>dK (D.cells c (K.zero c)),call:=callOf D [],loop:=iO []}
theorem zK:aJ zU:=ak aV _ aY
theorem asu:dD (aa3 (M.Wl)):=fJ (cx:=zU) false zK Tryz.func81 (aS (af (by kernel_rfl))) ⟨⟨[.el U.Import],[]⟩,fun x=>x.1.1⟩ (fun x=>by kernel_rfl)
def agt(y:(List M.aB)){R:Type}(k:KT R):R:=match y with|a0=>kk k (Ex.exit 0) ⟨[.own 1],[.dead,.arr U.Import]⟩ (((),()),((),(a0,())))
def ain:List (gB K ((List M.aB))):=[⟨(Ex.exit 0),⟨[.own 1],[.dead,.arr U.Import]⟩,fun x=>x.2.2.1⟩]
def U0:cO K:=df D false 23 1 [0,3,4] [3] aI0 (fun x=>M.pU x.1.1 az x.1.2.2.1 x.2.2.1) agt
def Ya(m:(List M.aB)->Option ((List M.aB))):bG K:={f:=50,sh:=⟨[.bY U.Import],[]⟩,R:=(List M.aB),run:=fun x=>m x.1.1,dflt:=default,out:=fun r=>(Sh.enc D (.own 0) (),ja.encs D [.arr U.Import] (r,()))}
def Gl:Cx K:={Js with mode:=iY .plain [(81,.fresh)],rsl:=[[some U.Import]],deep:=fun c=>dK (D.cells c (K.zero c)),call:=callOf D [aa3 M.Wl],loop:=iO [(3,U0)]}
theorem U1:aJ Gl:=ak aV _ (ai asu aY)
theorem agu:bH Gl (bD (bJ Tryz.f50) 0) U0:=bf (cx:=Gl) (sh:=aI0) (run:=fun n x=>M.pU x.1.1 n x.1.2.2.1 x.2.2.1) (cZ:=ain) aV U1 aG (af (by kernel_rfl)) (fun _=>rfl) (fun m x=>by kernel_rfl) (ai ⟨bg,fun _ _ _=>rfl⟩ aY) false az
theorem apo:dD (Ya (M.JS)):=fJ (cx:=Gl) false U1 Tryz.func50 (aS (aO 1 (by kernel_rfl) (bM (.mk (by kernel_rfl) agu)))) ⟨⟨[.own 0],[.arr U.Import]⟩,fun x=>x.2.1⟩ (fun x=>by kernel_rfl)
def amf(m:M.bK->Option (M.bK)):bG K:={f:=137,sh:=aCb,R:=M.bK,run:=fun x=>m x.1.1,dflt:=default,out:=fun r=>(Sh.enc D (.el U.Ins) r,ja.encs D [] ())}
theorem ayj:dD (amf (M.aor)):=fJ (cx:=zU) false zK Tryz.func137 (aS (af (by kernel_rfl))) ⟨aCb,fun x=>x.1.1⟩ (fun x=>by kernel_rfl)
def anO(y:(List M.bK)){R:Type}(k:KT R):R:=match y with|a0=>kk k (Ex.exit 0) ⟨[.own 1],[.dead,.arr U.Ins]⟩ (((),()),((),(a0,())))
def apq:List (gB K ((List M.bK))):=[⟨(Ex.exit 0),⟨[.own 1],[.dead,.arr U.Ins]⟩,fun x=>x.2.2.1⟩]
def aeZ:cO K:=df D false 23 1 [0,3,4] [3] aI1 (fun x=>M.yK x.1.1 az x.1.2.2.1 x.2.2.1) anO
def aio(m:(List M.bK)->Option ((List M.bK))):bG K:={f:=110,sh:=⟨[.bY U.Ins],[]⟩,R:=(List M.bK),run:=fun x=>m x.1.1,dflt:=default,out:=fun r=>(Sh.enc D (.own 0) (),ja.encs D [.arr U.Ins] (r,()))}
def Q4:Cx K:={Js with mode:=iY .plain [(137,.fresh)],rsl:=[[some U.Ins]],deep:=fun c=>dK (D.cells c (K.zero c)),call:=callOf D [amf M.aor],loop:=iO [(3,aeZ)]}
theorem ae0:aJ Q4:=ak aV _ (ai ayj aY)
theorem anP:bH Q4 (bD (bJ Tryz.f110) 0) aeZ:=bf (cx:=Q4) (sh:=aI1) (run:=fun n x=>M.yK x.1.1 n x.1.2.2.1 x.2.2.1) (cZ:=apq) aV ae0 aG (af (by kernel_rfl)) (fun _=>rfl) (fun m x=>by kernel_rfl) (ai ⟨bg,fun _ _ _=>rfl⟩ aY) false az
theorem aws:dD (aio (M.aa4)):=fJ (cx:=Q4) false ae0 Tryz.func110 (aS (aO 1 (by kernel_rfl) (bM (.mk (by kernel_rfl) anP)))) ⟨⟨[.own 0],[.arr U.Ins]⟩,fun x=>x.2.1⟩ (fun x=>by kernel_rfl)
def aip(m:M.aH->Option ((List UInt8)×Int×Int×Bool×(List M.bK))):bG K:={f:=82,sh:=aCc,R:=(List UInt8)×Int×Int×Bool×(List M.bK),run:=fun x=>m x.1.1,dflt:=default,out:=fun r=>(Sh.enc D (.agg [.str,.int .i64,.int .i64,.bool,.own 0]) (r.1,(r.2.1,(r.2.2.1,(r.2.2.2.1,((),()))))),ja.encs D [.arr U.Ins] (r.2.2.2.2,()))}
def amg:Cx K:={Js with mode:=iY .plain [(110,.fresh)],rsl:=[[none,none,none,none,some U.Ins]],deep:=fun c=>dK (D.cells c (K.zero c)),call:=callOf D [aio M.aa4],loop:=iO []}
theorem asv:aJ amg:=ak aV _ (ai aws aY)
theorem awt:dD (aip (M.aa5)):=fJ (cx:=amg) false asv Tryz.func82 (aS (af (by kernel_rfl))) ⟨⟨[.agg [.str,.int .i64,.int .i64,.bool,.own 0]],[.arr U.Ins]⟩,fun x=>(x.1.1.1,x.1.1.2.1,x.1.1.2.2.1,x.1.1.2.2.2.1,x.2.1)⟩ (fun x=>by kernel_rfl)
def akN(y:(List M.aH)){R:Type}(k:KT R):R:=match y with|a0=>kk k (Ex.exit 0) ⟨[.own 1],[.dead,.tree U.Core]⟩ (((),()),((),(a0,())))
def anQ:List (gB K ((List M.aH))):=[⟨(Ex.exit 0),⟨[.own 1],[.dead,.tree U.Core]⟩,fun x=>x.2.2.1⟩]
def aa6:cO K:=df D false 23 1 [0,3,4] [3] aI2 (fun x=>M.vS x.1.1 az x.1.2.2.1 x.2.2.1) akN
def ae1(m:(List M.aH)->Option ((List M.aH))):bG K:={f:=51,sh:=⟨[.bY U.Core],[]⟩,R:=(List M.aH),run:=fun x=>m x.1.1,dflt:=default,out:=fun r=>(Sh.enc D (.own 0) (),ja.encs D [.tree U.Core] (r,()))}
def MO:Cx K:={Js with mode:=iY .plain [(82,.fresh)],rsl:=[[some U.Core]],deep:=fun c=>dK (D.cells c (K.zero c)),call:=callOf D [aip M.aa5],loop:=iO [(3,aa6)]}
theorem aa7:aJ MO:=ak aV _ (ai awt aY)
theorem akO:bH MO (bD (bJ Tryz.f51) 0) aa6:=bf (cx:=MO) (sh:=aI2) (run:=fun n x=>M.vS x.1.1 n x.1.2.2.1 x.2.2.1) (cZ:=anQ) aV aa7 aG (af (by kernel_rfl)) (fun _=>rfl) (fun m x=>by kernel_rfl) (ai ⟨bg,fun _ _ _=>rfl⟩ aY) false az
theorem auS:dD (ae1 (M.U2)):=fJ (cx:=MO) false aa7 Tryz.func51 (aS (aO 1 (by kernel_rfl) (bM (.mk (by kernel_rfl) akO)))) ⟨⟨[.own 0],[.tree U.Core]⟩,fun x=>x.2.1⟩ (fun x=>by kernel_rfl)
def aaG(m:M.aK->Option (Int×(List M.aB)×(List M.aH))):bG K:={f:=24,sh:=auz,R:=Int×(List M.aB)×(List M.aH),run:=fun x=>m x.1.1,dflt:=default,out:=fun r=>(Sh.enc D (.agg [.int .i64,.own 0,.own 1]) (r.1,((),((),()))),ja.encs D [.arr U.Import,.tree U.Core] (r.2.1,(r.2.2,())))}
def ae2:Cx K:={Js with mode:=iY .plain [(50,.fresh),(51,.fresh)],rsl:=[[none,some U.Import,some U.Core]],deep:=fun c=>dK (D.cells c (K.zero c)),call:=callOf D [Ya M.JS,ae1 M.U2],loop:=iO []}
theorem anR:aJ ae2:=ak aV _ (ai apo (ai auS aY))
theorem aso:dD (aaG (M.OQ)):=fJ (cx:=ae2) false anR Tryz.func24 (aS (af (by kernel_rfl))) ⟨⟨[.agg [.int .i64,.own 0,.own 1]],[.arr U.Import,.tree U.Core]⟩,fun x=>(x.1.1.1,x.2.1,x.2.2.1)⟩ (fun x=>by kernel_rfl)
def Ib(y:Bool⊕((List UInt8))){R:Type}(k:KT R):R:=match y with|.inl a0=>kk k Ex.ret aEm (((),(a0,())),())|.inr a1=>kk k (Ex.exit 0) aIV ((a1,((),())),())
def KL:List (gB K ((Bool)⊕((List UInt8)))):=[⟨Ex.ret,aEm,fun x=>.inl x.1.2.1⟩,⟨(Ex.exit 0),aIV,fun x=>.inr (x.1.1)⟩]
def aa8:cO K:=df D false 49 0 [0,3] [0,2] aEt (fun x=>M.zl x.1.1 az x.1.2.1) Ib
def Sr(m:(List UInt8)->Option Bool):bG K:=cB 205 zs6 (fun x=>m x.1.1)
def MP:Cx K:=iZ [] [] [(2,aa8)]
theorem aa9:aJ MP:=ak aV _ aY
theorem akP:bH MP (bD (bJ Tryz.f205) 0) aa8:=bf (cx:=MP) (sh:=aEt) (run:=fun n x=>M.zl x.1.1 n x.1.2.1) (cZ:=KL) aV aa9 aG (af (by kernel_rfl)) (fun _=>rfl) (fun m x=>by kernel_rfl) (ai ⟨dH,fun _ _ _=>rfl⟩ (ai ⟨bg,fun _ _ _=>rfl⟩ aY)) false az
theorem ahA:dD (Sr (M.H8)):=fJ (cx:=MP) true aa9 Tryz.func205 (aS (aO 1 (by kernel_rfl) (bM (.mk (by kernel_rfl) akP)))) ⟨zs0,fun x=>x.1.1⟩ (fun x=>by kernel_rfl)
def dL(y:Int⊕Unit){R:Type}(k:KT R):R:=match y with|.inl a0=>kk k Ex.ret zs1 ((a0,()),())|.inr a1=>kk k (Ex.exit 0) zs2 (((),()),())
def dQ:List (gB K ((Int)⊕Unit)):=[⟨Ex.ret,zs1,fun x=>.inl x.1.1⟩,⟨(Ex.exit 0),zs2,fun x=>.inr (())⟩]
def O6:cO K:=df D false 20 0 [0,1,5] [4] ⟨[.bY U.Import,.str,.int .i64],[]⟩ (fun x=>M.nY x.1.1 x.1.2.1 az x.1.2.2.1) dL
def Qn(m:(List M.aB)->(List UInt8)->Option Int):bG K:=cI 206 ⟨[.bY U.Import,.str],[]⟩ (fun x=>m x.1.1 x.1.2.1)
def Cf:Cx K:=iZ [] [] [(2,O6)]
theorem O7:aJ Cf:=ak aV _ aY
theorem aba:bH Cf (bD (bJ Tryz.f206) 0) O6:=bf (cx:=Cf) (sh:=⟨[.bY U.Import,.str,.int .i64],[]⟩) (run:=fun n x=>M.nY x.1.1 x.1.2.1 n x.1.2.2.1) (cZ:=dQ) aV O7 aG (af (by kernel_rfl)) (fun _=>rfl) (fun m x=>by kernel_rfl) (ai ⟨dH,fun _ _ _=>rfl⟩ (ai ⟨bg,fun _ _ _=>rfl⟩ aY)) false az
theorem akd:dD (Qn (M.Dk)):=fJ (cx:=Cf) true O7 Tryz.func206 (aS (aO 1 (by kernel_rfl) (bM (.mk (by kernel_rfl) aba)))) ⟨zs1,fun x=>x.1.1⟩ (fun x=>by kernel_rfl)
def ahy(m:Int->Option (Int×Int×Bool)):bG K:={f:=300,sh:=zs1,R:=Int×Int×Bool,run:=fun x=>m x.1.1,dflt:=default,out:=fun r=>(Sh.enc D (.sO [.int .i64,.int .i64,.bool]) (r.1,(r.2.1,(r.2.2,()))),ja.encs D [] ())}
theorem av6:dD (ahy (M.aoU)):=fJ (cx:=bZ) true bP Tryz.func300 (aS (af (by kernel_rfl))) ⟨aHF,fun x=>(x.1.1.1,x.1.1.2.1,x.1.1.2.2.1)⟩ (fun x=>by kernel_rfl)
def U3:cO K:=df D false 20 0 [0,1,5] [4] ⟨[.bY U.Core,.str,.int .i64],[]⟩ (fun x=>M.tV x.1.1 x.1.2.1 az x.1.2.2.1) dL
def Xr(m:(List M.aH)->(List UInt8)->Option Int):bG K:=cI 208 ⟨[.bY U.Core,.str],[]⟩ (fun x=>m x.1.1 x.1.2.1)
def Gm:Cx K:=iZ [] [] [(2,U3)]
theorem U4:aJ Gm:=ak aV _ aY
theorem agv:bH Gm (bD (bJ Tryz.f208) 0) U3:=bf (cx:=Gm) (sh:=⟨[.bY U.Core,.str,.int .i64],[]⟩) (run:=fun n x=>M.tV x.1.1 x.1.2.1 n x.1.2.2.1) (cZ:=dQ) aV U4 aG (af (by kernel_rfl)) (fun _=>rfl) (fun m x=>by kernel_rfl) (ai ⟨dH,fun _ _ _=>rfl⟩ (ai ⟨bg,fun _ _ _=>rfl⟩ aY)) false az
theorem aoV:dD (Xr (M.JB)):=fJ (cx:=Gm) true U4 Tryz.func208 (aS (aO 1 (by kernel_rfl) (bM (.mk (by kernel_rfl) agv)))) ⟨zs1,fun x=>x.1.1⟩ (fun x=>by kernel_rfl)
def O8(m:Int->Option Bool):bG K:=cB 246 zs1 (fun x=>m x.1.1)
theorem ae3:dD (O8 (M.agw)):=fJ (cx:=bZ) true bP Tryz.func246 (aS (af (by kernel_rfl))) ⟨zs0,fun x=>x.1.1⟩ (fun x=>by kernel_rfl)
def O9(y:(Int×Int×(List M.ax))⊕(M.aH×(List M.ax)×(List Int))){R:Type}(k:KT R):R:=match y with|.inl a0=>kk k Ex.ret aIW (((),((),((),((),(a0.1,(a0.2.1,())))))),((),((),((),((),((),(a0.2.2,())))))))|.inr a1=>kk k (Ex.exit 0) aIX (((),((),((),((),((),((),())))))),(a1.1,((),((),(a1.2.1,(a1.2.2,()))))))
def Q5:List (gB K ((Int×Int×(List M.ax))⊕(M.aH×(List M.ax)×(List Int)))):=[⟨Ex.ret,aIW,fun x=>.inl (x.1.2.2.2.2.1,x.1.2.2.2.2.2.1,x.2.2.2.2.2.2.1)⟩,⟨(Ex.exit 0),aIX,fun x=>.inr ((x.2.1,x.2.2.2.2.1,x.2.2.2.2.2.1))⟩]
def U5:cO K:=df D false 145 3 [1,5,6,7] [1,5,6,2,3,4] aI3 (fun x=>M.kV x.2.1 az x.1.2.2.2.1 x.2.2.2.2.1 x.2.2.2.2.2.1) O9
def Yb(m:M.aH->Option (Int×Int×(List M.ax))):bG K:={f:=209,sh:=aCc,R:=Int×Int×(List M.ax),run:=fun x=>m x.1.1,dflt:=default,out:=fun r=>(Sh.enc D (.sO [.own 0,.int .i64,.int .i64]) ((),(r.1,(r.2.1,()))),ja.encs D [.arr U.CodeBlock] (r.2.2,()))}
def Gn:Cx K:={Js with mode:=iY .plain [(246,.plain)],rsl:=[[some U.CodeBlock],[],[]],cut:=true,call:=callOf D [O8 M.agw],loop:=iO [(4,U5)]}
theorem U6:aJ Gn:=ak aV _ (ai ae3 aY)
theorem agx:bH Gn (bD (bJ Tryz.f209) 0) U5:=bf (cx:=Gn) (sh:=aI3) (run:=fun n x=>M.kV x.2.1 n x.1.2.2.2.1 x.2.2.2.2.1 x.2.2.2.2.2.1) (cZ:=Q5) aV U6 aG (af (by kernel_rfl)) (fun _=>rfl) (fun m x=>by kernel_rfl) (ai ⟨dH,fun _ _ _=>rfl⟩ (ai ⟨bg,fun _ _ _=>rfl⟩ aY)) false az
theorem apr:dD (Yb (M.JU)):=fJ (cx:=Gn) false U6 Tryz.func209 (aS (aO 1 (by kernel_rfl) (bM (.mk (by kernel_rfl) agx)))) ⟨⟨[.sO [.own 0,.int .i64,.int .i64]],[.arr U.CodeBlock]⟩,fun x=>(x.1.1.2.1,x.1.1.2.2.1,x.2.1)⟩ (fun x=>by kernel_rfl)
def Wn(m:(List Int)->Option ((List Int))):bG K:={f:=247,sh:=awc,R:=(List Int),run:=fun x=>m x.1.1,dflt:=default,out:=fun r=>(Sh.enc D (.own 0) (),ja.encs D [.arr U.i64] (r,()))}
def amh:Cx K:={Js with mode:=iY .plain [],rsl:=[[some U.i64]],call:=callOf D [],loop:=iO []}
theorem asw:aJ amh:=ak aV _ aY
theorem ami:dD (Wn (M.Gp)):=fJ (cx:=amh) false asw Tryz.func247 (aS (af (by kernel_rfl))) ⟨aHr,fun x=>x.2.1⟩ (fun x=>by kernel_rfl)
def U7(m:Int->(List M.aB)->(List M.aH)->(List UInt8)->Int->Int->Bool->(List M.bK)->Int->Bool->(List M.ax)->(List Int)->Option (M.bV×Int×(List M.aB)×(List M.aH)×(List UInt8)×Int×Int×Bool×(List M.bK)×Int×Bool×(List M.ax)×(List Int))):bG K:={f:=210,sh:=⟨[.ptr 0 0],[.box [.int .i64,.bY U.Import,.bY U.Core,.str,.int .i64,.int .i64,.bool,.bY U.Ins,.own 1,.own 2,.int .i64,.bool],.arr U.CodeBlock,.arr U.i64]⟩,R:=M.bV×Int×(List M.aB)×(List M.aH)×(List UInt8)×Int×Int×Bool×(List M.bK)×Int×Bool×(List M.ax)×(List Int),run:=fun x=>m x.2.1.1 x.2.1.2.1 x.2.1.2.2.1 x.2.1.2.2.2.1 x.2.1.2.2.2.2.1 x.2.1.2.2.2.2.2.1 x.2.1.2.2.2.2.2.2.1 x.2.1.2.2.2.2.2.2.2.1 x.2.1.2.2.2.2.2.2.2.2.2.2.1 x.2.1.2.2.2.2.2.2.2.2.2.2.2.1 x.2.2.1 x.2.2.2.1,dflt:=default,out:=fun r=>(Sh.enc D (.el U.jd) r.1,ja.encs D [.box [.int .i64,.bY U.Import,.bY U.Core,.str,.int .i64,.int .i64,.bool,.bY U.Ins,.own 3,.own 4,.int .i64,.bool],.dead,.dead,.arr U.CodeBlock,.arr U.i64] ((r.2.1,(r.2.2.1,(r.2.2.2.1,(r.2.2.2.2.1,(r.2.2.2.2.2.1,(r.2.2.2.2.2.2.1,(r.2.2.2.2.2.2.2.1,(r.2.2.2.2.2.2.2.2.1,((),((),(r.2.2.2.2.2.2.2.2.2.1,(r.2.2.2.2.2.2.2.2.2.2.1,())))))))))))),((),((),(r.2.2.2.2.2.2.2.2.2.2.2.1,(r.2.2.2.2.2.2.2.2.2.2.2.2,()))))))}
def Yc:Cx K:={Js with mode:=iY .plain [(247,.fresh)],mv:=true,call:=callOf D [Wn M.Gp],loop:=iO []}
theorem aiq:aJ Yc:=ak aV _ (ai ami aY)
theorem anS:dD (U7 (M.Gq)):=fJ (cx:=Yc) true aiq Tryz.func210 (aS (af (by kernel_rfl))) ⟨⟨[.el U.jd],[.box [.int .i64,.bY U.Import,.bY U.Core,.str,.int .i64,.int .i64,.bool,.bY U.Ins,.own 3,.own 4,.int .i64,.bool],.dead,.dead,.arr U.CodeBlock,.arr U.i64]⟩,fun x=>(x.1.1,x.2.1.1,x.2.1.2.1,x.2.1.2.2.1,x.2.1.2.2.2.1,x.2.1.2.2.2.2.1,x.2.1.2.2.2.2.2.1,x.2.1.2.2.2.2.2.2.1,x.2.1.2.2.2.2.2.2.2.1,x.2.1.2.2.2.2.2.2.2.2.2.2.1,x.2.1.2.2.2.2.2.2.2.2.2.2.2.1,x.2.2.2.2.1,x.2.2.2.2.2.1)⟩ (fun x=>by kernel_rfl)
def Gs(m:Bool->Option Int):bG K:=cI 212 zs0 (fun x=>m x.1.1)
theorem Q7:dD (Gs (M.vT)):=fJ (cx:=bZ) true bP Tryz.func212 (aS (af (by kernel_rfl))) ⟨zs1,fun x=>x.1.1⟩ (fun x=>by kernel_rfl)
def U8(m:Bool->Int->(List M.aB)->(List M.aH)->(List UInt8)->Int->Int->Bool->(List M.bK)->Int->Bool->(List M.ax)->(List Int)->Option (Bool×Int×(List M.aB)×(List M.aH)×(List UInt8)×Int×Int×Bool×(List M.bK)×Int×Bool×(List M.ax)×(List Int))):bG K:={f:=248,sh:=⟨[.ptr 0 0,.bool],[.box [.int .i64,.bY U.Import,.bY U.Core,.str,.int .i64,.int .i64,.bool,.bY U.Ins,.own 1,.own 2,.int .i64,.bool],.arr U.CodeBlock,.arr U.i64]⟩,R:=Bool×Int×(List M.aB)×(List M.aH)×(List UInt8)×Int×Int×Bool×(List M.bK)×Int×Bool×(List M.ax)×(List Int),run:=fun x=>m x.1.2.1 x.2.1.1 x.2.1.2.1 x.2.1.2.2.1 x.2.1.2.2.2.1 x.2.1.2.2.2.2.1 x.2.1.2.2.2.2.2.1 x.2.1.2.2.2.2.2.2.1 x.2.1.2.2.2.2.2.2.2.1 x.2.1.2.2.2.2.2.2.2.2.2.2.1 x.2.1.2.2.2.2.2.2.2.2.2.2.2.1 x.2.2.1 x.2.2.2.1,dflt:=default,out:=fun r=>(Sh.enc D (.bool) r.1,ja.encs D [.box [.int .i64,.bY U.Import,.bY U.Core,.str,.int .i64,.int .i64,.bool,.bY U.Ins,.own 3,.own 4,.int .i64,.bool],.dead,.dead,.arr U.CodeBlock,.arr U.i64] ((r.2.1,(r.2.2.1,(r.2.2.2.1,(r.2.2.2.2.1,(r.2.2.2.2.2.1,(r.2.2.2.2.2.2.1,(r.2.2.2.2.2.2.2.1,(r.2.2.2.2.2.2.2.2.1,((),((),(r.2.2.2.2.2.2.2.2.2.1,(r.2.2.2.2.2.2.2.2.2.2.1,())))))))))))),((),((),(r.2.2.2.2.2.2.2.2.2.2.2.1,(r.2.2.2.2.2.2.2.2.2.2.2.2,()))))))}
def Yd:Cx K:={Js with mode:=iY .plain [(212,.plain)],cut:=true,mv:=true,call:=callOf D [Gs M.vT],loop:=iO []}
theorem air:aJ Yd:=ak aV _ (ai Q7 aY)
theorem anT:dD (U8 (M.Gt)):=fJ (cx:=Yd) true air Tryz.func248 (aS (af (by kernel_rfl))) ⟨⟨[.bool],[.box [.int .i64,.bY U.Import,.bY U.Core,.str,.int .i64,.int .i64,.bool,.bY U.Ins,.own 3,.own 4,.int .i64,.bool],.dead,.dead,.arr U.CodeBlock,.arr U.i64]⟩,fun x=>(x.1.1,x.2.1.1,x.2.1.2.1,x.2.1.2.2.1,x.2.1.2.2.2.1,x.2.1.2.2.2.2.1,x.2.1.2.2.2.2.2.1,x.2.1.2.2.2.2.2.2.1,x.2.1.2.2.2.2.2.2.2.1,x.2.1.2.2.2.2.2.2.2.2.2.2.1,x.2.1.2.2.2.2.2.2.2.2.2.2.2.1,x.2.2.2.2.1,x.2.2.2.2.2.1)⟩ (fun x=>by kernel_rfl)
def abb(m:M.aK->M.aH->M.bK->Int->Option Bool):bG K:=cB 249 ⟨[.el U.Module,.el U.Core,.el U.Ins,.int .i64],[]⟩ (fun x=>m x.1.1 x.1.2.1 x.1.2.2.1 x.1.2.2.2.1)
theorem asx:dD (abb (M.Pg)):=fJ (cx:=bZ) true bP Tryz.func249 (aS (af (by kernel_rfl))) ⟨zs0,fun x=>x.1.1⟩ (fun x=>by kernel_rfl)
def ae4(m:M.aK->M.bK->Option (Int×Int)):bG K:={f:=250,sh:=⟨[.el U.Module,.el U.Ins],[]⟩,R:=Int×Int,run:=fun x=>m x.1.1 x.1.2.1,dflt:=default,out:=fun r=>(Sh.enc D (.sO [.int .i64,.int .i64]) (r.1,(r.2,())),ja.encs D [] ())}
def Wp:Cx K:=iZ [(212,.plain)] [Gs M.vT] []
theorem abd:aJ Wp:=ak aV _ (ai Q7 aY)
theorem auT:dD (ae4 (M.U9)):=fJ (cx:=Wp) true abd Tryz.func250 (aS (af (by kernel_rfl))) ⟨aHG,fun x=>(x.1.1.1,x.1.1.2.1)⟩ (fun x=>by kernel_rfl)
def Ye(m:M.oC->Option Int):bG K:=cI 251 ⟨[.rp U.anM 0],[]⟩ (fun x=>m x.1.1)
theorem aps:dD (Ye (M.EG)):=fJ (cx:=bZ) true bP Tryz.func251 (aS (af (by kernel_rfl))) ⟨zs1,fun x=>x.1.1⟩ (fun x=>by kernel_rfl)
def Ph(m:M.oC->Int->Option Int):bG K:=cI 252 ⟨[.rp U.anM 0,.int .i64],[]⟩ (fun x=>m x.1.1 x.1.2.1)
theorem ais:dD (Ph (M.pV)):=fJ (cx:=Wp) true abd Tryz.func252 (aS (af (by kernel_rfl))) ⟨zs1,fun x=>x.1.1⟩ (fun x=>by kernel_rfl)
def Pj:cO K:=df D false 26 0 [0,1,5] [4] aI4 (fun x=>M.nZ x.1.1 x.1.2.1 az x.1.2.2.1) dL
def Q8(m:M.oC->Int->Option Int):bG K:=cI 253 ⟨[.rp U.anM 0,.int .i64],[]⟩ (fun x=>m x.1.1 x.1.2.1)
def Ci:Cx K:=iZ [] [] [(2,Pj)]
theorem Pm:aJ Ci:=ak aV _ aY
theorem abe:bH Ci (bD (bJ Tryz.f253) 0) Pj:=bf (cx:=Ci) (sh:=aI4) (run:=fun n x=>M.nZ x.1.1 x.1.2.1 n x.1.2.2.1) (cZ:=dQ) aV Pm aG (af (by kernel_rfl)) (fun _=>rfl) (fun m x=>by kernel_rfl) (ai ⟨dH,fun _ _ _=>rfl⟩ (ai ⟨bg,fun _ _ _=>rfl⟩ aY)) false az
theorem akQ:dD (Q8 (M.Dw)):=fJ (cx:=Ci) true Pm Tryz.func253 (aS (aO 1 (by kernel_rfl) (bM (.mk (by kernel_rfl) abe)))) ⟨zs1,fun x=>x.1.1⟩ (fun x=>by kernel_rfl)
def Yf(m:Int->Option Bool):bG K:=cB 254 zs1 (fun x=>m x.1.1)
theorem apt:dD (Yf (M.amj)):=fJ (cx:=bZ) true bP Tryz.func254 (aS (af (by kernel_rfl))) ⟨zs0,fun x=>x.1.1⟩ (fun x=>by kernel_rfl)
def Yg(m:Int->Int->(List M.aB)->(List M.aH)->(List UInt8)->Int->Int->Bool->(List M.bK)->Int->Bool->(List M.ax)->(List Int)->Option (Int×Int×(List M.aB)×(List M.aH)×(List UInt8)×Int×Int×Bool×(List M.bK)×Int×Bool×(List M.ax)×(List Int))):bG K:={f:=211,sh:=⟨[.ptr 0 0,.int .i64],[.box [.int .i64,.bY U.Import,.bY U.Core,.str,.int .i64,.int .i64,.bool,.bY U.Ins,.own 1,.own 2,.int .i64,.bool],.arr U.CodeBlock,.arr U.i64]⟩,R:=Int×Int×(List M.aB)×(List M.aH)×(List UInt8)×Int×Int×Bool×(List M.bK)×Int×Bool×(List M.ax)×(List Int),run:=fun x=>m x.1.2.1 x.2.1.1 x.2.1.2.1 x.2.1.2.2.1 x.2.1.2.2.2.1 x.2.1.2.2.2.2.1 x.2.1.2.2.2.2.2.1 x.2.1.2.2.2.2.2.2.1 x.2.1.2.2.2.2.2.2.2.1 x.2.1.2.2.2.2.2.2.2.2.2.2.1 x.2.1.2.2.2.2.2.2.2.2.2.2.2.1 x.2.2.1 x.2.2.2.1,dflt:=default,out:=fun r=>(Sh.enc D (.int .i64) r.1,ja.encs D [.box [.int .i64,.bY U.Import,.bY U.Core,.str,.int .i64,.int .i64,.bool,.bY U.Ins,.own 3,.own 4,.int .i64,.bool],.dead,.dead,.arr U.CodeBlock,.arr U.i64] ((r.2.1,(r.2.2.1,(r.2.2.2.1,(r.2.2.2.2.1,(r.2.2.2.2.2.1,(r.2.2.2.2.2.2.1,(r.2.2.2.2.2.2.2.1,(r.2.2.2.2.2.2.2.2.1,((),((),(r.2.2.2.2.2.2.2.2.2.1,(r.2.2.2.2.2.2.2.2.2.2.1,())))))))))))),((),((),(r.2.2.2.2.2.2.2.2.2.2.2.1,(r.2.2.2.2.2.2.2.2.2.2.2.2,()))))))}
def abf:Cx K:={Js with mode:=iY .plain [(248,.abg),(249,.plain),(250,.plain),(251,.plain),(252,.plain),(212,.plain),(246,.plain),(253,.plain),(247,.fresh),(254,.plain)],mv:=true,call:=callOf D [U8 M.Gt,abb M.Pg,ae4 M.U9,Ye M.EG,Ph M.pV,Gs M.vT,O8 M.agw,Q8 M.Dw,Wn M.Gp,Yf M.amj],loop:=iO []}
theorem akR:aJ abf:=ak aV _ (ai anT (ai asx (ai auT (ai aps (ai ais (ai Q7 (ai ae3 (ai akQ (ai ami (ai apt aY))))))))))
theorem apu:dD (Yg (M.JV)):=fJ (cx:=abf) true akR Tryz.func211 (aS (af (by kernel_rfl))) ⟨⟨[.int .i64],[.box [.int .i64,.bY U.Import,.bY U.Core,.str,.int .i64,.int .i64,.bool,.bY U.Ins,.own 3,.own 4,.int .i64,.bool],.dead,.dead,.arr U.CodeBlock,.arr U.i64]⟩,fun x=>(x.1.1,x.2.1.1,x.2.1.2.1,x.2.1.2.2.1,x.2.1.2.2.2.1,x.2.1.2.2.2.2.1,x.2.1.2.2.2.2.2.1,x.2.1.2.2.2.2.2.2.1,x.2.1.2.2.2.2.2.2.2.1,x.2.1.2.2.2.2.2.2.2.2.2.2.1,x.2.1.2.2.2.2.2.2.2.2.2.2.2.1,x.2.2.2.2.1,x.2.2.2.2.2.1)⟩ (fun x=>by kernel_rfl)
def akS(y:(Int×Int×(List M.bV))⊕(M.aH×Int×(List M.aB)×(List M.aH)×(List UInt8)×Int×Int×Bool×(List M.bK)×Int×Bool×(List M.bV)×(List M.ax)×(List Int))){R:Type}(k:KT R):R:=match y with|.inl a0=>kk k Ex.ret aI5 (((),((),((),((),((),(a0.1,(a0.2.1,()))))))),((),((),((),((),((),((),(a0.2.2,((),((),()))))))))))|.inr a1=>kk k (Ex.exit 0) aI6 (((),((),((),((),((),((),((),()))))))),(a1.1,((a1.2.1,(a1.2.2.1,(a1.2.2.2.1,(a1.2.2.2.2.1,(a1.2.2.2.2.2.1,(a1.2.2.2.2.2.2.1,(a1.2.2.2.2.2.2.2.1,(a1.2.2.2.2.2.2.2.2.1,((),((),(a1.2.2.2.2.2.2.2.2.2.1,(a1.2.2.2.2.2.2.2.2.2.2.1,())))))))))))),((),((),((),(a1.2.2.2.2.2.2.2.2.2.2.2.1,(a1.2.2.2.2.2.2.2.2.2.2.2.2.1,(a1.2.2.2.2.2.2.2.2.2.2.2.2.2,())))))))))
def anU:List (gB K ((Int×Int×(List M.bV))⊕(M.aH×Int×(List M.aB)×(List M.aH)×(List UInt8)×Int×Int×Bool×(List M.bK)×Int×Bool×(List M.bV)×(List M.ax)×(List Int)))):=[⟨Ex.ret,aI5,fun x=>.inl (x.1.2.2.2.2.2.1,x.1.2.2.2.2.2.2.1,x.2.2.2.2.2.2.2.1)⟩,⟨(Ex.exit 0),aI6,fun x=>.inr ((x.2.1,x.2.2.1.1,x.2.2.1.2.1,x.2.2.1.2.2.1,x.2.2.1.2.2.2.1,x.2.2.1.2.2.2.2.1,x.2.2.1.2.2.2.2.2.1,x.2.2.1.2.2.2.2.2.2.1,x.2.2.1.2.2.2.2.2.2.2.1,x.2.2.1.2.2.2.2.2.2.2.2.2.2.1,x.2.2.1.2.2.2.2.2.2.2.2.2.2.2.1,x.2.2.2.2.2.2.1,x.2.2.2.2.2.2.2.1,x.2.2.2.2.2.2.2.2.1))⟩]
def abh:cO K:=df D false 82 5 [8,12,13,14] [8,12,13,4,5,6,7] aI7 (fun x=>M.vU x.2.1 az x.1.2.2.2.1 x.2.2.1.1 x.2.2.1.2.1 x.2.2.1.2.2.1 x.2.2.1.2.2.2.1 x.2.2.1.2.2.2.2.1 x.2.2.1.2.2.2.2.2.1 x.2.2.1.2.2.2.2.2.2.1 x.2.2.1.2.2.2.2.2.2.2.1 x.2.2.1.2.2.2.2.2.2.2.2.2.2.1 x.2.2.1.2.2.2.2.2.2.2.2.2.2.2.1 x.2.2.2.2.2.2.1 x.2.2.2.2.2.2.2.1 x.2.2.2.2.2.2.2.2.1) akS
def aek(m:M.aK->Int->Option ((List M.bV)×Int×Int)):bG K:={f:=172,sh:=aHE,R:=(List M.bV)×Int×Int,run:=fun x=>m x.1.1 x.1.2.1,dflt:=default,out:=fun r=>(Sh.enc D (.sO [.any,.bY U.jd,.int .i64,.int .i64]) ((),(r.1,(r.2.1,(r.2.2,())))),ja.encs D [] ())}
def MQ:Cx K:={Js with mode:=iY .plain [(209,.fresh),(210,.abg),(211,.abg),(212,.plain)],aEA:=[true,false,false,false],call:=callOf D [Yb M.JU,U7 M.Gq,Yg M.JV,Gs M.vT],loop:=iO [(8,abh)]}
theorem abj:aJ MQ:=ak aV _ (ai apr (ai anS (ai apu (ai Q7 aY))))
theorem akT:bH MQ (bD (bJ Tryz.f172) 0) abh:=bf (cx:=MQ) (sh:=aI7) (run:=fun n x=>M.vU x.2.1 n x.1.2.2.2.1 x.2.2.1.1 x.2.2.1.2.1 x.2.2.1.2.2.1 x.2.2.1.2.2.2.1 x.2.2.1.2.2.2.2.1 x.2.2.1.2.2.2.2.2.1 x.2.2.1.2.2.2.2.2.2.1 x.2.2.1.2.2.2.2.2.2.2.1 x.2.2.1.2.2.2.2.2.2.2.2.2.2.1 x.2.2.1.2.2.2.2.2.2.2.2.2.2.2.1 x.2.2.2.2.2.2.1 x.2.2.2.2.2.2.2.1 x.2.2.2.2.2.2.2.2.1) (cZ:=anU) aV abj aG (af (by kernel_rfl)) (fun _=>rfl) (fun m x=>by kernel_rfl) (ai ⟨dH,fun _ _ _=>rfl⟩ (ai ⟨bg,fun _ _ _=>rfl⟩ aY)) false az
theorem auA:dD (aek (M.TM)):=fJ (cx:=MQ) true abj Tryz.func172 (aS (aO 1 (by kernel_rfl) (bM (.mk (by kernel_rfl) akT)))) ⟨⟨[.sO [.any,.bY U.jd,.int .i64,.int .i64]],[]⟩,fun x=>(x.1.1.2.1,x.1.1.2.2.1,x.1.1.2.2.2.1)⟩ (fun x=>by kernel_rfl)
def abk(m:Int->Option (Int×Int×Bool)):bG K:={f:=316,sh:=zs1,R:=Int×Int×Bool,run:=fun x=>m x.1.1,dflt:=default,out:=fun r=>(Sh.enc D (.sO [.int .i64,.int .i64,.bool]) (r.1,(r.2.1,(r.2.2,()))),ja.encs D [] ())}
theorem asy:dD (abk (M.apv)):=fJ (cx:=bZ) true bP Tryz.func316 (aS (af (by kernel_rfl))) ⟨aHF,fun x=>(x.1.1.1,x.1.1.2.1,x.1.1.2.2.1)⟩ (fun x=>by kernel_rfl)
def XE(m:Int->Option (Int×Int×Bool)):bG K:={f:=273,sh:=zs1,R:=Int×Int×Bool,run:=fun x=>m x.1.1,dflt:=default,out:=fun r=>(Sh.enc D (.sO [.int .i64,.int .i64,.bool]) (r.1,(r.2.1,(r.2.2,()))),ja.encs D [] ())}
def abl:Cx K:=iZ [(316,.plain)] [abk M.apv] []
theorem akU:aJ abl:=ak aV _ (ai asy aY)
theorem ao7:dD (XE (M.JE)):=fJ (cx:=abl) true akU Tryz.func273 (aS (af (by kernel_rfl))) ⟨aHF,fun x=>(x.1.1.1,x.1.1.2.1,x.1.1.2.2.1)⟩ (fun x=>by kernel_rfl)
def aad(m:Int->Option Bool):bG K:=cB 274 ⟨[.int .u8],[]⟩ (fun x=>m x.1.1)
theorem asb:dD (aad (M.apb)):=fJ (cx:=bZ) true bP Tryz.func274 (aS (af (by kernel_rfl))) ⟨zs0,fun x=>x.1.1⟩ (fun x=>by kernel_rfl)
def aeD(m:Int->Option Bool):bG K:=cB 275 ⟨[.int .u8],[]⟩ (fun x=>m x.1.1)
theorem auJ:dD (aeD (M.atf)):=fJ (cx:=bZ) true bP Tryz.func275 (aS (af (by kernel_rfl))) ⟨zs0,fun x=>x.1.1⟩ (fun x=>by kernel_rfl)
def ahQ(m:(List UInt8)->Option Int):bG K:=cI 277 zs6 (fun x=>m x.1.1)
theorem awj:dD (ahQ (M.awi)):=fJ (cx:=bZ) true bP Tryz.func277 (aS (af (by kernel_rfl))) ⟨zs1,fun x=>x.1.1⟩ (fun x=>by kernel_rfl)
def KN(m:(List M.aH)->Option Int):bG K:=cI 191 ⟨[.bY U.Core],[]⟩ (fun x=>m x.1.1)
theorem aaj:dD (KN (M.aai)):=fJ (cx:=bZ) true bP Tryz.func191 (aS (af (by kernel_rfl))) ⟨zs1,fun x=>x.1.1⟩ (fun x=>by kernel_rfl)
def abm(m:Int->Option Bool):bG K:=cB 278 zs1 (fun x=>m x.1.1)
theorem apw:dD (abm (M.auU)):=fJ (cx:=bZ) true bP Tryz.func278 (aS (af (by kernel_rfl))) ⟨zs0,fun x=>x.1.1⟩ (fun x=>by kernel_rfl)
def Yh:cO K:=df D false 141 3 [1,5,6,15,16,17] [1,5,6,2,3,4] aI8 (fun x=>M.mf x.1.2.2.2.1 x.1.2.2.2.2.1 x.2.1 az x.1.2.2.2.2.2.1 x.2.2.2.2.1 x.2.2.2.2.2.1) O9
def Pn(m:(List M.bK)->Option Int):bG K:=cI 236 ⟨[.bY U.Ins],[]⟩ (fun x=>m x.1.1)
theorem ae5:dD (Pn (M.agy)):=fJ (cx:=bZ) true bP Tryz.func236 (aS (af (by kernel_rfl))) ⟨zs1,fun x=>x.1.1⟩ (fun x=>by kernel_rfl)
def abn(m:M.aH->Option ((List M.ax)×Int×Int)):bG K:={f:=232,sh:=aCc,R:=(List M.ax)×Int×Int,run:=fun x=>m x.1.1,dflt:=default,out:=fun r=>(Sh.enc D (.sO [.bY U.CodeBlock,.int .i64,.int .i64]) (r.1,(r.2.1,(r.2.2,()))),ja.encs D [] ())}
def I4:Cx K:={Js with mode:=iY .plain [(278,.plain),(236,.plain)],cut:=true,call:=callOf D [abm M.auU,Pn M.agy],loop:=iO [(3,Yh)]}
theorem Yi:aJ I4:=ak aV _ (ai apw (ai ae5 aY))
theorem ait:bH I4 (bD (bJ Tryz.f232) 0) Yh:=bf (cx:=I4) (sh:=aI8) (run:=fun n x=>M.mf x.1.2.2.2.1 x.1.2.2.2.2.1 x.2.1 n x.1.2.2.2.2.2.1 x.2.2.2.2.1 x.2.2.2.2.2.1) (cZ:=Q5) aV Yi aG (af (by kernel_rfl)) (fun _=>rfl) (fun m x=>by kernel_rfl) (ai ⟨dH,fun _ _ _=>rfl⟩ (ai ⟨bg,fun _ _ _=>rfl⟩ aY)) false az
theorem asz:dD (abn (M.Po)):=fJ (cx:=I4) true Yi Tryz.func232 (aS (aO 1 (by kernel_rfl) (bM (.mk (by kernel_rfl) ait)))) ⟨⟨[.sO [.bY U.CodeBlock,.int .i64,.int .i64]],[]⟩,fun x=>(x.1.1.1,x.1.1.2.1,x.1.1.2.2.1)⟩ (fun x=>by kernel_rfl)
def Lt(m:Int->(List M.aB)->(List M.aH)->(List UInt8)->Int->Int->Bool->(List M.bK)->(List M.ax)->Int->Int->Bool->(List Int)->(List Int)->Option (Bool×Int×Int×(List M.aB)×(List M.aH)×(List UInt8)×Int×Int×Bool×(List M.bK)×(List M.ax)×Int×Int×Bool×(List Int)×(List Int)×(List Int))):bG K:={f:=233,sh:=⟨[.ptr 0 0],[.box [.int .i64,.bY U.Import,.bY U.Core,.str,.int .i64,.int .i64,.bool,.bY U.Ins,.bY U.CodeBlock,.int .i64,.own 1,.own 2,.int .i64,.bool],.arr U.i64,.arr U.i64]⟩,R:=Bool×Int×Int×(List M.aB)×(List M.aH)×(List UInt8)×Int×Int×Bool×(List M.bK)×(List M.ax)×Int×Int×Bool×(List Int)×(List Int)×(List Int),run:=fun x=>m x.2.1.1 x.2.1.2.1 x.2.1.2.2.1 x.2.1.2.2.2.1 x.2.1.2.2.2.2.1 x.2.1.2.2.2.2.2.1 x.2.1.2.2.2.2.2.2.1 x.2.1.2.2.2.2.2.2.2.1 x.2.1.2.2.2.2.2.2.2.2.1 x.2.1.2.2.2.2.2.2.2.2.2.1 x.2.1.2.2.2.2.2.2.2.2.2.2.2.2.1 x.2.1.2.2.2.2.2.2.2.2.2.2.2.2.2.1 x.2.2.1 x.2.2.2.1,dflt:=default,out:=fun r=>(Sh.enc D (.agg [.bool,.int .i64,.own 3]) (r.1,(r.2.1,((),()))),ja.encs D [.box [.int .i64,.bY U.Import,.bY U.Core,.str,.int .i64,.int .i64,.bool,.bY U.Ins,.bY U.CodeBlock,.int .i64,.own 4,.own 5,.int .i64,.bool],.dead,.dead,.arr U.i64,.arr U.i64,.arr U.i64] ((r.2.2.1,(r.2.2.2.1,(r.2.2.2.2.1,(r.2.2.2.2.2.1,(r.2.2.2.2.2.2.1,(r.2.2.2.2.2.2.2.1,(r.2.2.2.2.2.2.2.2.1,(r.2.2.2.2.2.2.2.2.2.1,(r.2.2.2.2.2.2.2.2.2.2.1,(r.2.2.2.2.2.2.2.2.2.2.2.1,((),((),(r.2.2.2.2.2.2.2.2.2.2.2.2.1,(r.2.2.2.2.2.2.2.2.2.2.2.2.2.1,())))))))))))))),((),((),(r.2.2.2.2.2.2.2.2.2.2.2.2.2.2.1,(r.2.2.2.2.2.2.2.2.2.2.2.2.2.2.2.1,(r.2.2.2.2.2.2.2.2.2.2.2.2.2.2.2.2,())))))))}
def Pq:Cx K:={Js with mode:=iY .plain [(279,.fresh)],rsl:=[[none,none,some U.i64]],deep:=fun c=>dK (D.cells c (K.zero c)),mv:=true,call:=callOf D [qJ M.iC],loop:=iO []}
theorem abo:aJ Pq:=ak aV _ (ai MR aY)
theorem agz:dD (Lt (M.zN)):=fJ (cx:=Pq) false abo Tryz.func233 (aS (af (by kernel_rfl))) ⟨⟨[.agg [.bool,.int .i64,.own 3]],[.box [.int .i64,.bY U.Import,.bY U.Core,.str,.int .i64,.int .i64,.bool,.bY U.Ins,.bY U.CodeBlock,.int .i64,.own 4,.own 5,.int .i64,.bool],.dead,.dead,.arr U.i64,.arr U.i64,.arr U.i64]⟩,fun x=>(x.1.1.1,x.1.1.2.1,x.2.1.1,x.2.1.2.1,x.2.1.2.2.1,x.2.1.2.2.2.1,x.2.1.2.2.2.2.1,x.2.1.2.2.2.2.2.1,x.2.1.2.2.2.2.2.2.1,x.2.1.2.2.2.2.2.2.2.1,x.2.1.2.2.2.2.2.2.2.2.1,x.2.1.2.2.2.2.2.2.2.2.2.1,x.2.1.2.2.2.2.2.2.2.2.2.2.2.2.1,x.2.1.2.2.2.2.2.2.2.2.2.2.2.2.2.1,x.2.2.2.2.1,x.2.2.2.2.2.1,x.2.2.2.2.2.2.1)⟩ (fun x=>by kernel_rfl)
def Va(m:Bool->Option Int):bG K:=cI 235 zs0 (fun x=>m x.1.1)
theorem aiu:dD (Va (M.Vb)):=fJ (cx:=bZ) true bP Tryz.func235 (aS (af (by kernel_rfl))) ⟨zs1,fun x=>x.1.1⟩ (fun x=>by kernel_rfl)
def Ej(m:M.fU->Option Int):bG K:=cI 283 ⟨[.rp U.checker 0],[]⟩ (fun x=>m x.1.1)
theorem Q9:dD (Ej (M.tX)):=fJ (cx:=bZ) true bP Tryz.func283 (aS (af (by kernel_rfl))) ⟨zs1,fun x=>x.1.1⟩ (fun x=>by kernel_rfl)
def Pv(m:M.bK->Int->(List M.aB)->(List M.aH)->(List UInt8)->Int->Int->Bool->(List M.bK)->(List M.ax)->Int->Int->Bool->(List Int)->(List Int)->Option (Int×Int×(List M.aB)×(List M.aH)×(List UInt8)×Int×Int×Bool×(List M.bK)×(List M.ax)×Int×Int×Bool×(List Int)×(List Int))):bG K:={f:=280,sh:=aI9,R:=Int×Int×(List M.aB)×(List M.aH)×(List UInt8)×Int×Int×Bool×(List M.bK)×(List M.ax)×Int×Int×Bool×(List Int)×(List Int),run:=fun x=>m x.1.2.1 x.2.1.1 x.2.1.2.1 x.2.1.2.2.1 x.2.1.2.2.2.1 x.2.1.2.2.2.2.1 x.2.1.2.2.2.2.2.1 x.2.1.2.2.2.2.2.2.1 x.2.1.2.2.2.2.2.2.2.1 x.2.1.2.2.2.2.2.2.2.2.1 x.2.1.2.2.2.2.2.2.2.2.2.1 x.2.1.2.2.2.2.2.2.2.2.2.2.2.2.1 x.2.1.2.2.2.2.2.2.2.2.2.2.2.2.2.1 x.2.2.1 x.2.2.2.1,dflt:=default,out:=fun r=>(Sh.enc D (.int .i64) r.1,ja.encs D [.box [.int .i64,.bY U.Import,.bY U.Core,.str,.int .i64,.int .i64,.bool,.bY U.Ins,.bY U.CodeBlock,.int .i64,.own 3,.own 4,.int .i64,.bool],.dead,.dead,.arr U.i64,.arr U.i64] ((r.2.1,(r.2.2.1,(r.2.2.2.1,(r.2.2.2.2.1,(r.2.2.2.2.2.1,(r.2.2.2.2.2.2.1,(r.2.2.2.2.2.2.2.1,(r.2.2.2.2.2.2.2.2.1,(r.2.2.2.2.2.2.2.2.2.1,(r.2.2.2.2.2.2.2.2.2.2.1,((),((),(r.2.2.2.2.2.2.2.2.2.2.2.1,(r.2.2.2.2.2.2.2.2.2.2.2.2.1,())))))))))))))),((),((),(r.2.2.2.2.2.2.2.2.2.2.2.2.2.1,(r.2.2.2.2.2.2.2.2.2.2.2.2.2.2,()))))))}
def Rf:Cx K:={Js with mode:=iY .plain [(235,.plain),(283,.plain)],cut:=true,mv:=true,call:=callOf D [Va M.Vb,Ej M.tX],loop:=iO []}
theorem adL:aJ Rf:=ak aV _ (ai aiu (ai Q9 aY))
theorem aiv:dD (Pv (M.BC)):=fJ (cx:=Rf) true adL Tryz.func280 (aS (af (by kernel_rfl))) ⟨aJa,fun x=>(x.1.1,x.2.1.1,x.2.1.2.1,x.2.1.2.2.1,x.2.1.2.2.2.1,x.2.1.2.2.2.2.1,x.2.1.2.2.2.2.2.1,x.2.1.2.2.2.2.2.2.1,x.2.1.2.2.2.2.2.2.2.1,x.2.1.2.2.2.2.2.2.2.2.1,x.2.1.2.2.2.2.2.2.2.2.2.1,x.2.1.2.2.2.2.2.2.2.2.2.2.2.2.1,x.2.1.2.2.2.2.2.2.2.2.2.2.2.2.2.1,x.2.2.2.2.1,x.2.2.2.2.2.1)⟩ (fun x=>by kernel_rfl)
def Rh(m:(List M.aB)->Option Int):bG K:=cI 317 ⟨[.bY U.Import],[]⟩ (fun x=>m x.1.1)
theorem akV:dD (Rh (M.ae6)):=fJ (cx:=bZ) true bP Tryz.func317 (aS (af (by kernel_rfl))) ⟨zs1,fun x=>x.1.1⟩ (fun x=>by kernel_rfl)
def BX(m:(List Int)->Option Int):bG K:=cI 155 awc (fun x=>m x.1.1)
theorem KQ:dD (BX (M.MH)):=fJ (cx:=bZ) true bP Tryz.func155 (aS (af (by kernel_rfl))) ⟨zs1,fun x=>x.1.1⟩ (fun x=>by kernel_rfl)
def JW(m:M.fU->M.bK->Option Bool):bG K:=cB 281 aHH (fun x=>m x.1.1 x.1.2.1)
def Lu:Cx K:=iZ [(191,.plain),(317,.plain),(155,.plain)] [KN M.aai,Rh M.ae6,BX M.MH] []
theorem YN:aJ Lu:=ak aV _ (ai aaj (ai akV (ai KQ aY)))
theorem adM:dD (JW (M.xW)):=fJ (cx:=Lu) true YN Tryz.func281 (aS (af (by kernel_rfl))) ⟨zs0,fun x=>x.1.1⟩ (fun x=>by kernel_rfl)
def JX(m:M.fU->M.bK->Option (Int×Int)):bG K:={f:=282,sh:=aHH,R:=Int×Int,run:=fun x=>m x.1.1 x.1.2.1,dflt:=default,out:=fun r=>(Sh.enc D (.sO [.int .i64,.int .i64]) (r.1,(r.2,())),ja.encs D [] ())}
def LC:Cx K:=iZ [(235,.plain)] [Va M.Vb] []
theorem YO:aJ LC:=ak aV _ (ai aiu aY)
theorem adN:dD (JX (M.xX)):=fJ (cx:=LC) true YO Tryz.func282 (aS (af (by kernel_rfl))) ⟨aHG,fun x=>(x.1.1.1,x.1.1.2.1)⟩ (fun x=>by kernel_rfl)
def Hu(m:M.fU->M.bK->Option Int):bG K:=cI 284 aHH (fun x=>m x.1.1 x.1.2.1)
def JY:Cx K:=iZ [(235,.plain),(155,.plain)] [Va M.Vb,BX M.MH] []
theorem Wq:aJ JY:=ak aV _ (ai aiu (ai KQ aY))
theorem abp:dD (Hu (M.vV)):=fJ (cx:=JY) true Wq Tryz.func284 (aS (af (by kernel_rfl))) ⟨zs1,fun x=>x.1.1⟩ (fun x=>by kernel_rfl)
def Px(m:M.bK->Int->(List M.aB)->(List M.aH)->(List UInt8)->Int->Int->Bool->(List M.bK)->(List M.ax)->Int->Int->Bool->(List Int)->(List Int)->Option (Int×Int×(List M.aB)×(List M.aH)×(List UInt8)×Int×Int×Bool×(List M.bK)×(List M.ax)×Int×Int×Bool×(List Int)×(List Int))):bG K:={f:=234,sh:=aI9,R:=Int×Int×(List M.aB)×(List M.aH)×(List UInt8)×Int×Int×Bool×(List M.bK)×(List M.ax)×Int×Int×Bool×(List Int)×(List Int),run:=fun x=>m x.1.2.1 x.2.1.1 x.2.1.2.1 x.2.1.2.2.1 x.2.1.2.2.2.1 x.2.1.2.2.2.2.1 x.2.1.2.2.2.2.2.1 x.2.1.2.2.2.2.2.2.1 x.2.1.2.2.2.2.2.2.2.1 x.2.1.2.2.2.2.2.2.2.2.1 x.2.1.2.2.2.2.2.2.2.2.2.1 x.2.1.2.2.2.2.2.2.2.2.2.2.2.2.1 x.2.1.2.2.2.2.2.2.2.2.2.2.2.2.2.1 x.2.2.1 x.2.2.2.1,dflt:=default,out:=fun r=>(Sh.enc D (.int .i64) r.1,ja.encs D [.box [.int .i64,.bY U.Import,.bY U.Core,.str,.int .i64,.int .i64,.bool,.bY U.Ins,.bY U.CodeBlock,.int .i64,.own 3,.own 4,.int .i64,.bool],.dead,.dead,.arr U.i64,.arr U.i64] ((r.2.1,(r.2.2.1,(r.2.2.2.1,(r.2.2.2.2.1,(r.2.2.2.2.2.1,(r.2.2.2.2.2.2.1,(r.2.2.2.2.2.2.2.1,(r.2.2.2.2.2.2.2.2.1,(r.2.2.2.2.2.2.2.2.2.1,(r.2.2.2.2.2.2.2.2.2.2.1,((),((),(r.2.2.2.2.2.2.2.2.2.2.2.1,(r.2.2.2.2.2.2.2.2.2.2.2.2.1,())))))))))))))),((),((),(r.2.2.2.2.2.2.2.2.2.2.2.2.2.1,(r.2.2.2.2.2.2.2.2.2.2.2.2.2.2,()))))))}
def Ri:Cx K:={Js with mode:=iY .plain [(280,.abg),(281,.plain),(282,.plain),(283,.plain),(284,.plain),(278,.plain)],mv:=true,call:=callOf D [Pv M.BC,JW M.xW,JX M.xX,Ej M.tX,Hu M.vV,abm M.auU],loop:=iO []}
theorem adO:aJ Ri:=ak aV _ (ai aiv (ai adM (ai adN (ai Q9 (ai abp (ai apw aY))))))
theorem aiw:dD (Px (M.BD)):=fJ (cx:=Ri) true adO Tryz.func234 (aS (af (by kernel_rfl))) ⟨aJa,fun x=>(x.1.1,x.2.1.1,x.2.1.2.1,x.2.1.2.2.1,x.2.1.2.2.2.1,x.2.1.2.2.2.2.1,x.2.1.2.2.2.2.2.1,x.2.1.2.2.2.2.2.2.1,x.2.1.2.2.2.2.2.2.2.1,x.2.1.2.2.2.2.2.2.2.2.1,x.2.1.2.2.2.2.2.2.2.2.2.1,x.2.1.2.2.2.2.2.2.2.2.2.2.2.2.1,x.2.1.2.2.2.2.2.2.2.2.2.2.2.2.2.1,x.2.2.2.2.1,x.2.2.2.2.2.1)⟩ (fun x=>by kernel_rfl)
def akW(y:(Int×Int×(List M.bV)×(List M.ax))⊕((List M.ax)×M.aH×Int×(List M.aB)×(List M.aH)×(List UInt8)×Int×Int×Bool×(List M.bK)×(List M.ax)×Int×Int×Bool×(List M.bV)×(List Int)×(List Int))){R:Type}(k:KT R):R:=match y with|.inl a0=>kk k Ex.ret aJb (((),((),((),((),((),((),(a0.1,(a0.2.1,())))))))),((),((),((),((),((),((),(a0.2.2.1,(a0.2.2.2,((),((),())))))))))))|.inr a1=>kk k (Ex.exit 0) aJc (((),(a1.1,((),((),((),((),((),((),())))))))),(a1.2.1,((a1.2.2.1,(a1.2.2.2.1,(a1.2.2.2.2.1,(a1.2.2.2.2.2.1,(a1.2.2.2.2.2.2.1,(a1.2.2.2.2.2.2.2.1,(a1.2.2.2.2.2.2.2.2.1,(a1.2.2.2.2.2.2.2.2.2.1,(a1.2.2.2.2.2.2.2.2.2.2.1,(a1.2.2.2.2.2.2.2.2.2.2.2.1,((),((),(a1.2.2.2.2.2.2.2.2.2.2.2.2.1,(a1.2.2.2.2.2.2.2.2.2.2.2.2.2.1,())))))))))))))),((),((),((),(a1.2.2.2.2.2.2.2.2.2.2.2.2.2.2.1,(a1.2.2.2.2.2.2.2.2.2.2.2.2.2.2.2.1,(a1.2.2.2.2.2.2.2.2.2.2.2.2.2.2.2.2,())))))))))
def anV:List (gB K ((Int×Int×(List M.bV)×(List M.ax))⊕((List M.ax)×M.aH×Int×(List M.aB)×(List M.aH)×(List UInt8)×Int×Int×Bool×(List M.bK)×(List M.ax)×Int×Int×Bool×(List M.bV)×(List Int)×(List Int)))):=[⟨Ex.ret,aJb,fun x=>.inl (x.1.2.2.2.2.2.2.1,x.1.2.2.2.2.2.2.2.1,x.2.2.2.2.2.2.2.1,x.2.2.2.2.2.2.2.2.1)⟩,⟨(Ex.exit 0),aJc,fun x=>.inr ((x.1.2.1,x.2.1,x.2.2.1.1,x.2.2.1.2.1,x.2.2.1.2.2.1,x.2.2.1.2.2.2.1,x.2.2.1.2.2.2.2.1,x.2.2.1.2.2.2.2.2.1,x.2.2.1.2.2.2.2.2.2.1,x.2.2.1.2.2.2.2.2.2.2.1,x.2.2.1.2.2.2.2.2.2.2.2.1,x.2.2.1.2.2.2.2.2.2.2.2.2.1,x.2.2.1.2.2.2.2.2.2.2.2.2.2.2.2.1,x.2.2.1.2.2.2.2.2.2.2.2.2.2.2.2.2.1,x.2.2.2.2.2.2.1,x.2.2.2.2.2.2.2.1,x.2.2.2.2.2.2.2.2.1))⟩]
def abq:cO K:=df D false 84 5 [8,9,12,13,40,41,42] [8,9,12,13,4,5,6,7] aJd (fun x=>M.vW x.1.2.1 x.1.2.2.2.2.1 x.1.2.2.2.2.2.1 x.2.1 az x.1.2.2.2.2.2.2.1 x.2.2.1.1 x.2.2.1.2.1 x.2.2.1.2.2.1 x.2.2.1.2.2.2.1 x.2.2.1.2.2.2.2.1 x.2.2.1.2.2.2.2.2.1 x.2.2.1.2.2.2.2.2.2.1 x.2.2.1.2.2.2.2.2.2.2.1 x.2.2.1.2.2.2.2.2.2.2.2.1 x.2.2.1.2.2.2.2.2.2.2.2.2.1 x.2.2.1.2.2.2.2.2.2.2.2.2.2.2.2.1 x.2.2.1.2.2.2.2.2.2.2.2.2.2.2.2.2.1 x.2.2.2.2.2.2.1 x.2.2.2.2.2.2.2.1 x.2.2.2.2.2.2.2.2.1) akW
def aeG(m:M.aK->Int->Option (Int×Int×(List M.bV))):bG K:={f:=192,sh:=aHE,R:=Int×Int×(List M.bV),run:=fun x=>m x.1.1 x.1.2.1,dflt:=default,out:=fun r=>(Sh.enc D (.sO [.own 0,.any,.int .i64,.int .i64]) ((),((),(r.1,(r.2.1,())))),ja.encs D [.tree U.jd] (r.2.2,()))}
def MS:Cx K:={Js with mode:=iY .plain [(232,.lF),(233,.abg),(234,.abg),(235,.plain),(236,.plain)],rsl:=[[some U.jd],[some U.CodeBlock],[],[]],deep:=fun c=>dK (D.cells c (K.zero c)),aEA:=[false,true,false,false],call:=callOf D [abn M.Po,Lt M.zN,Px M.BD,Va M.Vb,Pn M.agy],loop:=iO [(7,abq)]}
theorem abr:aJ MS:=ak aV _ (ai asz (ai agz (ai aiw (ai aiu (ai ae5 aY)))))
theorem akX:bH MS (bD (bJ Tryz.f192) 0) abq:=bf (cx:=MS) (sh:=aJd) (run:=fun n x=>M.vW x.1.2.1 x.1.2.2.2.2.1 x.1.2.2.2.2.2.1 x.2.1 n x.1.2.2.2.2.2.2.1 x.2.2.1.1 x.2.2.1.2.1 x.2.2.1.2.2.1 x.2.2.1.2.2.2.1 x.2.2.1.2.2.2.2.1 x.2.2.1.2.2.2.2.2.1 x.2.2.1.2.2.2.2.2.2.1 x.2.2.1.2.2.2.2.2.2.2.1 x.2.2.1.2.2.2.2.2.2.2.2.1 x.2.2.1.2.2.2.2.2.2.2.2.2.1 x.2.2.1.2.2.2.2.2.2.2.2.2.2.2.2.1 x.2.2.1.2.2.2.2.2.2.2.2.2.2.2.2.2.1 x.2.2.2.2.2.2.1 x.2.2.2.2.2.2.2.1 x.2.2.2.2.2.2.2.2.1) (cZ:=anV) aV abr aG (af (by kernel_rfl)) (fun _=>rfl) (fun m x=>by kernel_rfl) (ai ⟨dH,fun _ _ _=>rfl⟩ (ai ⟨bg,fun _ _ _=>rfl⟩ aY)) false az
theorem auL:dD (aeG (M.Ui)):=fJ (cx:=MS) false abr Tryz.func192 (aS (aO 1 (by kernel_rfl) (bM (.mk (by kernel_rfl) akX)))) ⟨⟨[.sO [.own 0,.any,.int .i64,.int .i64]],[.tree U.jd]⟩,fun x=>(x.1.1.2.2.1,x.1.1.2.2.2.1,x.2.1)⟩ (fun x=>by kernel_rfl)
def abt(m:M.aB->M.aB->Option Bool):bG K:=cB 94 ⟨[.el U.Import,.el U.Import],[]⟩ (fun x=>m x.1.1 x.1.2.1)
theorem asA:dD (abt (M.Py)):=fJ (cx:=bZ) true bP Tryz.func94 (aS (af (by kernel_rfl))) ⟨zs0,fun x=>x.1.1⟩ (fun x=>by kernel_rfl)
def dU(y:Bool⊕Unit){R:Type}(k:KT R):R:=match y with|.inl a0=>kk k Ex.ret zs0 ((a0,()),())|.inr a1=>kk k (Ex.exit 0) zs2 (((),()),())
def dZ:List (gB K ((Bool)⊕Unit)):=[⟨Ex.ret,zs0,fun x=>.inl x.1.1⟩,⟨(Ex.exit 0),zs2,fun x=>.inr (())⟩]
def Vd:cO K:=df D false 27 0 [0,1,5] [4] aJe (fun x=>M.tY x.1.1 x.1.2.1 az x.1.2.2.1) dU
def Yj(m:(List M.aB)->(List M.aB)->Option Bool):bG K:=cB 58 ⟨[.bY U.Import,.bY U.Import],[]⟩ (fun x=>m x.1.1 x.1.2.1)
def Gu:Cx K:=iZ [(94,.plain)] [abt M.Py] [(4,Vd)]
theorem Ve:aJ Gu:=ak aV _ (ai asA aY)
theorem agA:bH Gu (bD (bJ Tryz.f58) 0) Vd:=bf (cx:=Gu) (sh:=aJe) (run:=fun n x=>M.tY x.1.1 x.1.2.1 n x.1.2.2.1) (cZ:=dZ) aV Ve aG (af (by kernel_rfl)) (fun _=>rfl) (fun m x=>by kernel_rfl) (ai ⟨dH,fun _ _ _=>rfl⟩ (ai ⟨bg,fun _ _ _=>rfl⟩ aY)) false az
theorem apx:dD (Yj (M.JZ)):=fJ (cx:=Gu) true Ve Tryz.func58 (aS (aO 1 (by kernel_rfl) (bM (.mk (by kernel_rfl) agA)))) ⟨zs0,fun x=>x.1.1⟩ (fun x=>by kernel_rfl)
def amk(m:M.bK->M.bK->Option Bool):bG K:=cB 165 ⟨[.el U.Ins,.el U.Ins],[]⟩ (fun x=>m x.1.1 x.1.2.1)
theorem ayk:dD (amk (M.aix)):=fJ (cx:=bZ) true bP Tryz.func165 (aS (af (by kernel_rfl))) ⟨zs0,fun x=>x.1.1⟩ (fun x=>by kernel_rfl)
def ae7:cO K:=df D false 27 0 [0,1,5] [4] aJf (fun x=>M.BF x.1.1 x.1.2.1 az x.1.2.2.1) dU
def aiy(m:(List M.bK)->(List M.bK)->Option Bool):bG K:=cB 125 ⟨[.bY U.Ins,.bY U.Ins],[]⟩ (fun x=>m x.1.1 x.1.2.1)
def Rj:Cx K:=iZ [(165,.plain)] [amk M.aix] [(4,ae7)]
theorem ae8:aJ Rj:=ak aV _ (ai ayk aY)
theorem anW:bH Rj (bD (bJ Tryz.f125) 0) ae7:=bf (cx:=Rj) (sh:=aJf) (run:=fun n x=>M.BF x.1.1 x.1.2.1 n x.1.2.2.1) (cZ:=dZ) aV ae8 aG (af (by kernel_rfl)) (fun _=>rfl) (fun m x=>by kernel_rfl) (ai ⟨dH,fun _ _ _=>rfl⟩ (ai ⟨bg,fun _ _ _=>rfl⟩ aY)) false az
theorem awu:dD (aiy (M.abu)):=fJ (cx:=Rj) true ae8 Tryz.func125 (aS (aO 1 (by kernel_rfl) (bM (.mk (by kernel_rfl) anW)))) ⟨zs0,fun x=>x.1.1⟩ (fun x=>by kernel_rfl)
def aiz(m:M.aH->M.aH->Option Bool):bG K:=cB 95 ⟨[.el U.Core,.el U.Core],[]⟩ (fun x=>m x.1.1 x.1.2.1)
def aml:Cx K:=iZ [(125,.plain)] [aiy M.abu] []
theorem asB:aJ aml:=ak aV _ (ai awu aY)
theorem awv:dD (aiz (M.abv)):=fJ (cx:=aml) true asB Tryz.func95 (aS (af (by kernel_rfl))) ⟨zs0,fun x=>x.1.1⟩ (fun x=>by kernel_rfl)
def abw:cO K:=df D false 27 0 [0,1,5] [4] aJg (fun x=>M.zn x.1.1 x.1.2.1 az x.1.2.2.1) dU
def ae9(m:(List M.aH)->(List M.aH)->Option Bool):bG K:=cB 59 ⟨[.bY U.Core,.bY U.Core],[]⟩ (fun x=>m x.1.1 x.1.2.1)
def MV:Cx K:=iZ [(95,.plain)] [aiz M.abv] [(4,abw)]
theorem abx:aJ MV:=ak aV _ (ai awv aY)
theorem akY:bH MV (bD (bJ Tryz.f59) 0) abw:=bf (cx:=MV) (sh:=aJg) (run:=fun n x=>M.zn x.1.1 x.1.2.1 n x.1.2.2.1) (cZ:=dZ) aV abx aG (af (by kernel_rfl)) (fun _=>rfl) (fun m x=>by kernel_rfl) (ai ⟨dH,fun _ _ _=>rfl⟩ (ai ⟨bg,fun _ _ _=>rfl⟩ aY)) false az
theorem auV:dD (ae9 (M.Vf)):=fJ (cx:=MV) true abx Tryz.func59 (aS (aO 1 (by kernel_rfl) (bM (.mk (by kernel_rfl) akY)))) ⟨zs0,fun x=>x.1.1⟩ (fun x=>by kernel_rfl)
def Z9(m:M.aK->M.aK->Option Bool):bG K:=cB 31 ⟨[.el U.Module,.el U.Module],[]⟩ (fun x=>m x.1.1 x.1.2.1)
def afa:Cx K:=iZ [(58,.plain),(59,.plain)] [Yj M.JZ,ae9 M.Vf] []
theorem anX:aJ afa:=ak aV _ (ai apx (ai auV aY))
theorem asa:dD (Z9 (M.OC)):=fJ (cx:=afa) true anX Tryz.func31 (aS (af (by kernel_rfl))) ⟨zs0,fun x=>x.1.1⟩ (fun x=>by kernel_rfl)
def Vg:cO K:=df D false 28 0 [0,1,5] [1,4] aAT (fun x=>M.tZ x.1.1 az x.1.2.1 x.1.2.2.1) iG
def KW(m:(List (List UInt8))->Int->Option Int):bG K:=cI 66 aAO (fun x=>m x.1.1 x.1.2.1)
def Gv:Cx K:=iZ [] [] [(5,Vg)]
theorem Vh:aJ Gv:=ak aV _ aY
theorem agB:bH Gv (bD (bJ Tryz.f66) 0) Vg:=bf (cx:=Gv) (sh:=aAT) (run:=fun n x=>M.tZ x.1.1 n x.1.2.1 x.1.2.2.1) (cZ:=iP) aV Vh aG (af (by kernel_rfl)) (fun _=>rfl) (fun m x=>by kernel_rfl) (ai ⟨dH,fun _ _ _=>rfl⟩ (ai ⟨bg,fun _ _ _=>rfl⟩ aY)) false az
theorem aby:dD (KW (M.BG)):=fJ (cx:=Gv) true Vh Tryz.func66 (aS (aO 1 (by kernel_rfl) (bM (.mk (by kernel_rfl) agB)))) ⟨zs1,fun x=>x.1.1⟩ (fun x=>by kernel_rfl)
def ng(m:M.ae->Int->Option Int):bG K:=cI 167 aEu (fun x=>m x.1.1 x.1.2.1)
def abz(di:M.ae->Int->Option Int):cO K:=df D false 27 0 [0,1,5] [1,4] aJh (fun x=>M.zo di x.1.1 az x.1.2.1 x.1.2.2.1) iG
def afb(m:(List M.ae)->Int->Option Int):bG K:=cI 201 aHq (fun x=>m x.1.1 x.1.2.1)
def MW(di:M.ae->Int->Option Int):Cx K:=iZ [(167,.plain)] [ng di] [(5,abz di)]
theorem abA(di:M.ae->Int->Option Int)(mg:dD (ng di)):aJ (MW di):=ak aV _ (ai mg aY)
theorem akZ(di:M.ae->Int->Option Int)(mg:dD (ng di)):bH (MW di) (bD (bJ Tryz.f201) 0) (abz di):=bf (cx:=MW di) (sh:=aJh) (run:=fun n x=>M.zo di x.1.1 n x.1.2.1 x.1.2.2.1) (cZ:=iP) aV (abA di mg) aG (af (by kernel_rfl)) (fun _=>rfl) (fun m x=>by kernel_rfl) (ai ⟨dH,fun _ _ _=>rfl⟩ (ai ⟨bg,fun _ _ _=>rfl⟩ aY)) false az
theorem auW(di:M.ae->Int->Option Int)(mg:dD (ng di)):dD (afb (M.Vj di)):=vg (cx:=MW di) (fz:=true) aV (abA di mg) aG ⟨Tryz.func201,by kernel_rfl⟩ (aS (aO 1 (by kernel_rfl) (bM (.mk (by kernel_rfl) (akZ di mg))))) ⟨zs1,fun x=>x.1.1⟩ (fun x=>rfl) (fun x=>by kernel_rfl)
def amm(di:M.ae->Int->Option Int):Cx K:=iZ [(66,.plain),(201,.plain)] [KW M.BG,afb (M.Vj di)] []
theorem asC(di:M.ae->Int->Option Int)(mg:dD (ng di)):aJ (amm di):=ak aV _ (ai aby (ai (auW di mg) aY))
theorem asD(di:M.ae->Int->Option Int)(mg:dD (ng di)):dD (ng (M.Ws di)):=vg (cx:=amm di) (fz:=true) aV (asC di mg) aG ⟨Tryz.func167,by kernel_rfl⟩ (aS (af (by kernel_rfl))) ⟨zs1,fun x=>x.1.1⟩ (fun x=>rfl) (fun x=>by kernel_rfl)
theorem afc:∀n,dD (ng (M.Em n))|0=>qW fun _=>rfl|n+1=>asD (M.Em n) (afc n)
theorem amn:dD (ng (M.Vk)):=afc az
def Vl:cO K:=df D false 26 0 [0,1,5] [4] aEv (fun x=>M.kW x.1.1 x.1.2.1 az x.1.2.2.1) dU
def DR(m:(List (List UInt8))->(List (List UInt8))->Option Bool):bG K:=cB 9 ⟨[.bY U.str,.bY U.str],[]⟩ (fun x=>m x.1.1 x.1.2.1)
def Gw:Cx K:=iZ [] [] [(4,Vl)]
theorem Vm:aJ Gw:=ak aV _ aY
theorem agC:bH Gw (bD (bJ Tryz.f9) 0) Vl:=bf (cx:=Gw) (sh:=aEv) (run:=fun n x=>M.kW x.1.1 x.1.2.1 n x.1.2.2.1) (cZ:=dZ) aV Vm aG (af (by kernel_rfl)) (fun _=>rfl) (fun m x=>by kernel_rfl) (ai ⟨dH,fun _ _ _=>rfl⟩ (ai ⟨bg,fun _ _ _=>rfl⟩ aY)) false az
theorem Oh:dD (DR (M.pI)):=fJ (cx:=Gw) true Vm Tryz.func9 (aS (aO 1 (by kernel_rfl) (bM (.mk (by kernel_rfl) agC)))) ⟨zs0,fun x=>x.1.1⟩ (fun x=>by kernel_rfl)
def mX(m:M.ae->M.ae->Option Bool):bG K:=cB 199 ⟨[.el U.Type,.el U.Type],[]⟩ (fun x=>m x.1.1 x.1.2.1)
def abB(dm:M.ae->M.ae->Option Bool):cO K:=df D false 27 0 [0,1,5] [4] aJi (fun x=>M.zq dm x.1.1 x.1.2.1 az x.1.2.2.1) dU
def afd(m:(List M.ae)->(List M.ae)->Option Bool):bG K:=cB 242 ⟨[.bY U.Type,.bY U.Type],[]⟩ (fun x=>m x.1.1 x.1.2.1)
def MX(dm:M.ae->M.ae->Option Bool):Cx K:=iZ [(199,.plain)] [mX dm] [(4,abB dm)]
theorem abC(dm:M.ae->M.ae->Option Bool)(mi:dD (mX dm)):aJ (MX dm):=ak aV _ (ai mi aY)
theorem ak0(dm:M.ae->M.ae->Option Bool)(mi:dD (mX dm)):bH (MX dm) (bD (bJ Tryz.f242) 0) (abB dm):=bf (cx:=MX dm) (sh:=aJi) (run:=fun n x=>M.zq dm x.1.1 x.1.2.1 n x.1.2.2.1) (cZ:=dZ) aV (abC dm mi) aG (af (by kernel_rfl)) (fun _=>rfl) (fun m x=>by kernel_rfl) (ai ⟨dH,fun _ _ _=>rfl⟩ (ai ⟨bg,fun _ _ _=>rfl⟩ aY)) false az
theorem auX(dm:M.ae->M.ae->Option Bool)(mi:dD (mX dm)):dD (afd (M.Vo dm)):=vg (cx:=MX dm) (fz:=true) aV (abC dm mi) aG ⟨Tryz.func242,by kernel_rfl⟩ (aS (aO 1 (by kernel_rfl) (bM (.mk (by kernel_rfl) (ak0 dm mi))))) ⟨zs0,fun x=>x.1.1⟩ (fun x=>rfl) (fun x=>by kernel_rfl)
def amo(dm:M.ae->M.ae->Option Bool):Cx K:=iZ [(9,.plain),(242,.plain)] [DR M.pI,afd (M.Vo dm)] []
theorem asE(dm:M.ae->M.ae->Option Bool)(mi:dD (mX dm)):aJ (amo dm):=ak aV _ (ai Oh (ai (auX dm mi) aY))
theorem asF(dm:M.ae->M.ae->Option Bool)(mi:dD (mX dm)):dD (mX (M.Wu dm)):=vg (cx:=amo dm) (fz:=true) aV (asE dm mi) aG ⟨Tryz.func199,by kernel_rfl⟩ (aS (af (by kernel_rfl))) ⟨zs0,fun x=>x.1.1⟩ (fun x=>rfl) (fun x=>by kernel_rfl)
theorem afe:∀n,dD (mX (M.En n))|0=>qW fun _=>rfl|n+1=>asF (M.En n) (afe n)
theorem alX:dD (mX (M.Tv)):=afe az
def rH(m:M.ae->Int->Option (Int×Int)):bG K:={f:=202,sh:=aEu,R:=Int×Int,run:=fun x=>m x.1.1 x.1.2.1,dflt:=default,out:=fun r=>(Sh.enc D (.sO [.int .i64,.int .i64]) (r.1,(r.2,())),ja.encs D [] ())}
def V9(m:Int->Int->Option Int):bG K:=cI 243 ⟨[.int .i64,.int .i64],[]⟩ (fun x=>m x.1.1 x.1.2.1)
theorem al3:dD (V9 (M.Bg)):=fJ (cx:=bZ) true bP Tryz.func243 (aS (af (by kernel_rfl))) ⟨zs1,fun x=>x.1.1⟩ (fun x=>by kernel_rfl)
def ak1(y:(Int×Int)⊕(Int×Int)){R:Type}(k:KT R):R:=match y with|.inl a0=>kk k Ex.ret aJj (((),((),(a0.1,(a0.2,())))),((),()))|.inr a1=>kk k (Ex.exit 0) aJk ((a1.1,(a1.2,((),((),())))),((),()))
def anY:List (gB K ((Int×Int)⊕(Int×Int))):=[⟨Ex.ret,aJj,fun x=>.inl (x.1.2.2.1,x.1.2.2.2.1)⟩,⟨(Ex.exit 0),aJk,fun x=>.inr ((x.1.1,x.1.2.1))⟩]
def abD(dR:M.ae->Int->Option (Int×Int)):cO K:=df D false 48 1 [1,2,6,7,8] [6,7,4,5] aJl (fun x=>M.vX dR x.1.1 az x.1.2.2.1 x.1.2.2.2.1 x.1.2.2.2.2.1 x.2.1) ak1
def MZ(dR:M.ae->Int->Option (Int×Int)):Cx K:=iZ [(202,.plain),(243,.plain)] [rH dR,V9 M.Bg] [(6,abD dR)]
theorem abE(dR:M.ae->Int->Option (Int×Int))(xY:dD (rH dR)):aJ (MZ dR):=ak aV _ (ai xY (ai al3 aY))
theorem ak2(dR:M.ae->Int->Option (Int×Int))(xY:dD (rH dR)):bH (MZ dR) (bD (bJ Tryz.f202) 0) (abD dR):=bf (cx:=MZ dR) (sh:=aJl) (run:=fun n x=>M.vX dR x.1.1 n x.1.2.2.1 x.1.2.2.2.1 x.1.2.2.2.2.1 x.2.1) (cZ:=anY) aV (abE dR xY) aG (af (by kernel_rfl)) (fun _=>rfl) (fun m x=>by kernel_rfl) (ai ⟨dH,fun _ _ _=>rfl⟩ (ai ⟨bg,fun _ _ _=>rfl⟩ aY)) false az
theorem apy(dR:M.ae->Int->Option (Int×Int))(xY:dD (rH dR)):dD (rH (M.Rk dR)):=vg (cx:=MZ dR) (fz:=true) aV (abE dR xY) aG ⟨Tryz.func202,by kernel_rfl⟩ (aS (aO 1 (by kernel_rfl) (bM (.mk (by kernel_rfl) (ak2 dR xY))))) ⟨aHG,fun x=>(x.1.1.1,x.1.1.2.1)⟩ (fun x=>rfl) (fun x=>by kernel_rfl)
theorem abG:∀n,dD (rH (M.yL n))|0=>qW fun _=>rfl|n+1=>apy (M.yL n) (abG n)
theorem auY:dD (rH (M.acU)):=abG az
def vH(m:Int->Int->Int->Option Bool):bG K:=cB 73 ⟨[.int .i64,.int .i64,.int .i64],[]⟩ (fun x=>m x.1.1 x.1.2.1 x.1.2.2.1)
theorem Bd:dD (vH (M.L6)):=fJ (cx:=bZ) true bP Tryz.func73 (aS (af (by kernel_rfl))) ⟨zs0,fun x=>x.1.1⟩ (fun x=>by kernel_rfl)
def abH:cO K:=df D false 69 0 [0,3] [2] aEt (fun x=>M.zt x.1.1 az x.1.2.1) dU
def zY(m:(List UInt8)->Option Bool):bG K:=cB 70 zs6 (fun x=>m x.1.1)
def Na:Cx K:=iZ [] [] [(4,abH)]
theorem abI:aJ Na:=ak aV _ aY
theorem ak3:bH Na (bD (bJ Tryz.f70) 0) abH:=bf (cx:=Na) (sh:=aEt) (run:=fun n x=>M.zt x.1.1 n x.1.2.1) (cZ:=dZ) aV abI aG (af (by kernel_rfl)) (fun _=>rfl) (fun m x=>by kernel_rfl) (ai ⟨dH,fun _ _ _=>rfl⟩ (ai ⟨bg,fun _ _ _=>rfl⟩ aY)) false az
theorem FT:dD (zY (M.nH)):=fJ (cx:=Na) true abI Tryz.func70 (aS (aO 1 (by kernel_rfl) (bM (.mk (by kernel_rfl) ak3)))) ⟨zs0,fun x=>x.1.1⟩ (fun x=>by kernel_rfl)
def abJ(y:Bool⊕((List (List UInt8))×Int)){R:Type}(k:KT R):R:=match y with|.inl a0=>kk k Ex.ret aAM (((),((),(a0,()))),())|.inr a1=>kk k (Ex.exit 2) ⟨[.bY U.str,.int .i64,.any],[]⟩ ((a1.1,(a1.2,((),()))),())
def adP:List (gB K ((Bool)⊕((List (List UInt8))×Int))):=[⟨Ex.ret,aAM,fun x=>.inl x.1.2.2.1⟩,⟨(Ex.exit 2),⟨[.bY U.str,.int .i64,.any],[]⟩,fun x=>.inr ((x.1.1,x.1.2.1))⟩]
def Pz:cO K:=df D false 39 0 [0,3,4] [0,3,2] aAT (fun x=>M.lQ x.1.1 x.1.2.1 az x.1.2.2.1) abJ
def Vp:cO K:=df D false 39 0 [0,3] [2] aAO (fun x=>M.ni az x.1.1 x.1.2.1) dU
def Yk(m:(List (List UInt8))->Option Bool):bG K:=cB 298 aoK (fun x=>m x.1.1)
def xZ:Cx K:=iZ [(70,.plain)] [zY M.nH] [(9,Pz),(4,Vp)]
theorem Ie:aJ xZ:=ak aV _ (ai FT aY)
theorem abK:bH xZ (bD (bD (bJ Tryz.f298) 0) 0) Pz:=bf (cx:=xZ) (sh:=aAT) (run:=fun n x=>M.lQ x.1.1 x.1.2.1 n x.1.2.2.1) (cZ:=adP) aV Ie aG (af (by kernel_rfl)) (fun _=>rfl) (fun m x=>by kernel_rfl) (ai ⟨dH,fun _ _ _=>rfl⟩ (ai ⟨bg,fun _ _ _=>rfl⟩ aY)) false az
theorem agD:bH xZ (bD (bJ Tryz.f298) 0) Vp:=bf (cx:=xZ) (sh:=aAO) (run:=fun n x=>M.ni n x.1.1 x.1.2.1) (cZ:=dZ) aV Ie aG (aO 1 (by kernel_rfl) (bM (.mk (by kernel_rfl) abK))) (fun _=>rfl) (fun m x=>by kernel_rfl) (ai ⟨dH,fun _ _ _=>rfl⟩ (ai ⟨bg,fun _ _ _=>rfl⟩ aY)) false az
theorem apz:dD (Yk (M.J3)):=fJ (cx:=xZ) true Ie Tryz.func298 (aS (aO 1 (by kernel_rfl) (bM (.mk (by kernel_rfl) agD)))) ⟨zs0,fun x=>x.1.1⟩ (fun x=>by kernel_rfl)
def kN(y:Bool⊕Unit){R:Type}(k:KT R):R:=match y with|.inl a0=>kk k Ex.ret zs7 ((a0,()),((),()))|.inr a1=>kk k (Ex.exit 0) zs3 (((),()),((),()))
def lI:List (gB K ((Bool)⊕Unit)):=[⟨Ex.ret,zs7,fun x=>.inl x.1.1⟩,⟨(Ex.exit 0),zs3,fun x=>.inr (())⟩]
def Yl:cO K:=df D false 18 1 [1,3] [2] aEw (fun x=>M.mr az x.1.2.1 x.2.1) kN
def abL(m:M.ae->Option Bool):bG K:=cB 299 zs8 (fun x=>m x.1.1)
def I5:Cx K:=iZ [] [] [(2,Yl)]
theorem Ym:aJ I5:=ak aV _ aY
theorem aiA:bH I5 (bD (bJ Tryz.f299) 0) Yl:=bf (cx:=I5) (sh:=aEw) (run:=fun n x=>M.mr n x.1.2.1 x.2.1) (cZ:=lI) aV Ym aG (af (by kernel_rfl)) (fun _=>rfl) (fun m x=>by kernel_rfl) (ai ⟨dH,fun _ _ _=>rfl⟩ (ai ⟨bg,fun _ _ _=>rfl⟩ aY)) false az
theorem asG:dD (abL (M.Eo)):=fJ (cx:=I5) true Ym Tryz.func299 (aS (aO 1 (by kernel_rfl) (bM (.mk (by kernel_rfl) aiA)))) ⟨zs0,fun x=>x.1.1⟩ (fun x=>by kernel_rfl)
def oH(m:M.ae->Int->Int->Option Bool):bG K:=cB 130 ⟨[.el U.Type,.int .i64,.int .i64],[]⟩ (fun x=>m x.1.1 x.1.2.1 x.1.2.2.1)
def aff(eu:M.ae->Int->Int->Option Bool):cO K:=df D false 28 1 [1,2,3,7] [6] aGH (fun x=>M.rJ eu x.1.1 x.1.2.1 az x.1.2.2.2.1 x.2.1) kN
def Rl(eu:M.ae->Int->Int->Option Bool):Cx K:=iZ [(73,.plain),(130,.plain)] [vH M.L6,oH eu] [(4,aff eu)]
theorem afg(eu:M.ae->Int->Int->Option Bool)(Ac:dD (oH eu)):aJ (Rl eu):=ak aV _ (ai Bd (ai Ac aY))
theorem anZ(eu:M.ae->Int->Int->Option Bool)(Ac:dD (oH eu)):bH (Rl eu) (bD (bJ Tryz.f130) 0) (aff eu):=bf (cx:=Rl eu) (sh:=aGH) (run:=fun n x=>M.rJ eu x.1.1 x.1.2.1 n x.1.2.2.2.1 x.2.1) (cZ:=lI) aV (afg eu Ac) aG (af (by kernel_rfl)) (fun _=>rfl) (fun m x=>by kernel_rfl) (ai ⟨dH,fun _ _ _=>rfl⟩ (ai ⟨bg,fun _ _ _=>rfl⟩ aY)) false az
theorem asH(eu:M.ae->Int->Int->Option Bool)(Ac:dD (oH eu)):dD (oH (M.Wv eu)):=vg (cx:=Rl eu) (fz:=true) aV (afg eu Ac) aG ⟨Tryz.func130,by kernel_rfl⟩ (aS (aO 1 (by kernel_rfl) (bM (.mk (by kernel_rfl) (anZ eu Ac))))) ⟨zs0,fun x=>x.1.1⟩ (fun x=>rfl) (fun x=>by kernel_rfl)
theorem afh:∀n,dD (oH (M.oh n))|0=>qW fun _=>rfl|n+1=>asH (M.oh n) (afh n)
theorem Y3:dD (oH (M.qM)):=afh az
def abM(m:M.ae->Option Bool):bG K:=cB 244 zs8 (fun x=>m x.1.1)
def afi:Cx K:=iZ [(73,.plain),(70,.plain),(298,.plain),(299,.plain),(130,.plain)] [vH M.L6,zY M.nH,Yk M.J3,abL M.Eo,oH M.qM] []
theorem an0:aJ afi:=ak aV _ (ai Bd (ai FT (ai apz (ai asG (ai Y3 aY)))))
theorem asI:dD (abM (M.PD)):=fJ (cx:=afi) true an0 Tryz.func244 (aS (af (by kernel_rfl))) ⟨zs0,fun x=>x.1.1⟩ (fun x=>by kernel_rfl)
def pW(m:M.ae->Option Bool):bG K:=cB 203 zs8 (fun x=>m x.1.1)
def Yn(dM:M.ae->Option Bool):cO K:=df D false 21 1 [1,3] [2] aEw (fun x=>M.mD dM az x.1.2.1 x.2.1) kN
def I7(dM:M.ae->Option Bool):Cx K:=iZ [(244,.plain),(203,.plain)] [abM M.PD,pW dM] [(4,Yn dM)]
theorem Yo(dM:M.ae->Option Bool)(uU:dD (pW dM)):aJ (I7 dM):=ak aV _ (ai asI (ai uU aY))
theorem aiB(dM:M.ae->Option Bool)(uU:dD (pW dM)):bH (I7 dM) (bD (bJ Tryz.f203) 0) (Yn dM):=bf (cx:=I7 dM) (sh:=aEw) (run:=fun n x=>M.mD dM n x.1.2.1 x.2.1) (cZ:=lI) aV (Yo dM uU) aG (af (by kernel_rfl)) (fun _=>rfl) (fun m x=>by kernel_rfl) (ai ⟨dH,fun _ _ _=>rfl⟩ (ai ⟨bg,fun _ _ _=>rfl⟩ aY)) false az
theorem an1(dM:M.ae->Option Bool)(uU:dD (pW dM)):dD (pW (M.Nb dM)):=vg (cx:=I7 dM) (fz:=true) aV (Yo dM uU) aG ⟨Tryz.func203,by kernel_rfl⟩ (aS (aO 1 (by kernel_rfl) (bM (.mk (by kernel_rfl) (aiB dM uU))))) ⟨zs0,fun x=>x.1.1⟩ (fun x=>rfl) (fun x=>by kernel_rfl)
theorem Yp:∀n,dD (pW (M.oO n))|0=>qW fun _=>rfl|n+1=>an1 (M.oO n) (Yp n)
theorem asJ:dD (pW (M.Wx)):=Yp az
def A7(m:M.ae->Int->Option Int):bG K:=cI 223 aEu (fun x=>m x.1.1 x.1.2.1)
def afj(y:Int){R:Type}(k:KT R):R:=match y with|a0=>kk k (Ex.exit 0) zs1 ((a0,()),())
def aiC:List (gB K Int):=[⟨(Ex.exit 0),zs1,fun x=>x.1.1⟩]
def amq(gU:M.ae->Int->Option Int):cO K:=df D false 26 0 [1,5,11,12,13] [5] aGI (fun x=>M.EH gU x.1.1 x.1.2.2.1 x.1.2.2.2.1 az x.1.2.1 x.1.2.2.2.2.1) afj
def acV(gU:M.ae->Int->Option Int):Cx K:=iZ [(223,.plain)] [A7 gU] [(5,amq gU)]
theorem amr(gU:M.ae->Int->Option Int)(EI:dD (A7 gU)):aJ (acV gU):=ak aV _ (ai EI aY)
theorem asK(gU:M.ae->Int->Option Int)(EI:dD (A7 gU)):bH (acV gU) (bD (bJ Tryz.f223) 0) (amq gU):=bf (cx:=acV gU) (sh:=aGI) (run:=fun n x=>M.EH gU x.1.1 x.1.2.2.1 x.1.2.2.2.1 n x.1.2.1 x.1.2.2.2.2.1) (cZ:=aiC) aV (amr gU EI) aG (af (by kernel_rfl)) (fun _=>rfl) (fun m x=>by kernel_rfl) (ai ⟨bg,fun _ _ _=>rfl⟩ aY) false az
theorem aww(gU:M.ae->Int->Option Int)(EI:dD (A7 gU)):dD (A7 (M.aiD gU)):=vg (cx:=acV gU) (fz:=true) aV (amr gU EI) aG ⟨Tryz.func223,by kernel_rfl⟩ (aS (aO 1 (by kernel_rfl) (bM (.mk (by kernel_rfl) (asK gU EI))))) ⟨zs1,fun x=>x.1.1⟩ (fun x=>rfl) (fun x=>by kernel_rfl)
theorem ams:∀n,dD (A7 (M.J4 n))|0=>qW fun _=>rfl|n+1=>aww (M.J4 n) (ams n)
theorem aAP:dD (A7 (M.aum)):=ams az
def yB(m:M.ae->Option Int):bG K:=cI 224 zs8 (fun x=>m x.1.1)
def aiE(fH:M.ae->Option Int):cO K:=df D false 19 0 [3,7,8,9] [3] aGJ (fun x=>M.BH fH x.1.2.1 x.1.2.2.1 az x.1.1 x.1.2.2.2.1) afj
def Wy(fH:M.ae->Option Int):Cx K:=iZ [(224,.plain)] [yB fH] [(3,aiE fH)]
theorem aiF(fH:M.ae->Option Int)(Cj:dD (yB fH)):aJ (Wy fH):=ak aV _ (ai Cj aY)
theorem apA(fH:M.ae->Option Int)(Cj:dD (yB fH)):bH (Wy fH) (bD (bJ Tryz.f224) 0) (aiE fH):=bf (cx:=Wy fH) (sh:=aGJ) (run:=fun n x=>M.BH fH x.1.2.1 x.1.2.2.1 n x.1.1 x.1.2.2.2.1) (cZ:=aiC) aV (aiF fH Cj) aG (af (by kernel_rfl)) (fun _=>rfl) (fun m x=>by kernel_rfl) (ai ⟨bg,fun _ _ _=>rfl⟩ aY) false az
theorem auZ(fH:M.ae->Option Int)(Cj:dD (yB fH)):dD (yB (M.acW fH)):=vg (cx:=Wy fH) (fz:=true) aV (aiF fH Cj) aG ⟨Tryz.func224,by kernel_rfl⟩ (aS (aO 1 (by kernel_rfl) (bM (.mk (by kernel_rfl) (apA fH Cj))))) ⟨zs1,fun x=>x.1.1⟩ (fun x=>rfl) (fun x=>by kernel_rfl)
theorem aiG:∀n,dD (yB (M.EJ n))|0=>qW fun _=>rfl|n+1=>auZ (M.EJ n) (aiG n)
theorem ayd:dD (yB (M.aop)):=aiG az
def ji(m:M.ae->Option Bool):bG K:=cB 225 zs8 (fun x=>m x.1.1)
def Vq(m:M.ae->Option Bool):bG K:=cB 267 zs8 (fun x=>m x.1.1)
def Yq(aW:M.ae->Option Bool):Cx K:=iZ [(225,.plain)] [ji aW] []
theorem aiH(aW:M.ae->Option Bool)(fV:dD (ji aW)):aJ (Yq aW):=ak aV _ (ai fV aY)
theorem an2(aW:M.ae->Option Bool)(fV:dD (ji aW)):dD (Vq (M.Gx aW)):=vg (cx:=Yq aW) (fz:=true) aV (aiH aW fV) aG ⟨Tryz.func267,by kernel_rfl⟩ (aS (af (by kernel_rfl))) ⟨zs0,fun x=>x.1.1⟩ (fun x=>rfl) (fun x=>by kernel_rfl)
def xq(aW:M.ae->Option Bool):cO K:=df D false 19 0 [0,1,7,8] [4] aGK (fun x=>M.gV aW x.1.1 x.1.2.2.1 az x.1.2.2.2.1) dL
def yc(m:(List M.ae)->Option Int):bG K:=cI 186 ⟨[.bY U.Type,.fn 267 []],[]⟩ (fun x=>m x.1.1)
def kS(aW:M.ae->Option Bool):Cx K:=iZ [(267,.plain)] [Vq (M.Gx aW)] [(2,xq aW)]
theorem xu(aW:M.ae->Option Bool)(fV:dD (ji aW)):aJ (kS aW):=ak aV _ (ai (an2 aW fV) aY)
theorem Fe(aW:M.ae->Option Bool)(fV:dD (ji aW)):bH (kS aW) (bD (bJ Tryz.f186) 0) (xq aW):=bf (cx:=kS aW) (sh:=aGK) (run:=fun n x=>M.gV aW x.1.1 x.1.2.2.1 n x.1.2.2.2.1) (cZ:=dQ) aV (xu aW fV) aG (af (by kernel_rfl)) (fun _=>rfl) (fun m x=>by kernel_rfl) (ai ⟨dH,fun _ _ _=>rfl⟩ (ai ⟨bg,fun _ _ _=>rfl⟩ aY)) false az
theorem J5(aW:M.ae->Option Bool)(fV:dD (ji aW)):dD (yc (M.ny aW)):=vg (cx:=kS aW) (fz:=true) aV (xu aW fV) aG ⟨Tryz.func186,by kernel_rfl⟩ (aS (aO 1 (by kernel_rfl) (bM (.mk (by kernel_rfl) (Fe aW fV))))) ⟨zs1,fun x=>x.1.1⟩ (fun x=>rfl) (fun x=>by kernel_rfl)
def uJ(m:(List M.ae)->Option Bool):bG K:=cB 147 ⟨[.bY U.Type,.fn 267 []],[]⟩ (fun x=>m x.1.1)
def vY(aW:M.ae->Option Bool):Cx K:=iZ [(186,.plain)] [yc (M.ny aW)] []
theorem Ep(aW:M.ae->Option Bool)(fV:dD (ji aW)):aJ (vY aW):=ak aV _ (ai (J5 aW fV) aY)
theorem Gy(aW:M.ae->Option Bool)(fV:dD (ji aW)):dD (uJ (M.iI aW)):=vg (cx:=vY aW) (fz:=true) aV (Ep aW fV) aG ⟨Tryz.func147,by kernel_rfl⟩ (aS (af (by kernel_rfl))) ⟨zs0,fun x=>x.1.1⟩ (fun x=>rfl) (fun x=>by kernel_rfl)
def mO(m:Int->Int->Int->Option Bool):bG K:=cB 88 ⟨[.int .i64,.int .i64,.int .i64],[]⟩ (fun x=>m x.1.1 x.1.2.1 x.1.2.2.1)
theorem rf:dD (mO (M.AX)):=fJ (cx:=bZ) true bP Tryz.func88 (aS (af (by kernel_rfl))) ⟨zs0,fun x=>x.1.1⟩ (fun x=>by kernel_rfl)
def Gz(m:(List (List UInt8))->Option Int):bG K:=cI 271 aoK (fun x=>m x.1.1)
theorem Vr:dD (Gz (M.Su)):=fJ (cx:=bZ) true bP Tryz.func271 (aS (af (by kernel_rfl))) ⟨zs1,fun x=>x.1.1⟩ (fun x=>by kernel_rfl)
def afk:cO K:=df D false 75 0 [0,7,8] [0,2] aEq (fun x=>M.yM x.1.1 x.1.2.1 az x.1.2.2.1) Ib
def BQ(m:(List UInt8)->Option Bool):bG K:=cB 83 zs6 (fun x=>m x.1.1)
def Rn:Cx K:=iZ [] [] [(2,afk)]
theorem afl:aJ Rn:=ak aV _ aY
theorem an3:bH Rn (bD (bJ Tryz.f83) 0) afk:=bf (cx:=Rn) (sh:=aEq) (run:=fun n x=>M.yM x.1.1 x.1.2.1 n x.1.2.2.1) (cZ:=KL) aV afl aG (af (by kernel_rfl)) (fun _=>rfl) (fun m x=>by kernel_rfl) (ai ⟨dH,fun _ _ _=>rfl⟩ (ai ⟨bg,fun _ _ _=>rfl⟩ aY)) false az
theorem Jr:dD (BQ (M.qO)):=fJ (cx:=Rn) true afl Tryz.func83 (aS (aO 1 (by kernel_rfl) (bM (.mk (by kernel_rfl) an3)))) ⟨zs0,fun x=>x.1.1⟩ (fun x=>by kernel_rfl)
def Ro(m:(List UInt8)->Option Bool):bG K:=cB 315 zs6 (fun x=>m x.1.1)
def H7:Cx K:=iZ [(83,.plain)] [BQ M.qO] []
theorem N9:aJ H7:=ak aV _ (ai Jr aY)
theorem ak4:dD (Ro (M.Dx)):=fJ (cx:=H7) true N9 Tryz.func315 (aS (af (by kernel_rfl))) ⟨zs0,fun x=>x.1.1⟩ (fun x=>by kernel_rfl)
def rM:cO K:=df D false 19 0 [0,1,7,8] [4] aGL (fun x=>M.fF x.1.1 x.1.2.2.1 az x.1.2.2.2.1) dL
def uf(m:(List (List UInt8))->Option Int):bG K:=cI 181 ⟨[.bY U.str,.fn 315 []],[]⟩ (fun x=>m x.1.1)
def jG:Cx K:=iZ [(315,.plain)] [Ro M.Dx] [(2,rM)]
theorem rO:aJ jG:=ak aV _ (ai ak4 aY)
theorem Cm:bH jG (bD (bJ Tryz.f181) 0) rM:=bf (cx:=jG) (sh:=aGL) (run:=fun n x=>M.fF x.1.1 x.1.2.2.1 n x.1.2.2.2.1) (cZ:=dQ) aV rO aG (af (by kernel_rfl)) (fun _=>rfl) (fun m x=>by kernel_rfl) (ai ⟨dH,fun _ _ _=>rfl⟩ (ai ⟨bg,fun _ _ _=>rfl⟩ aY)) false az
theorem Ff:dD (uf (M.kJ)):=fJ (cx:=jG) true rO Tryz.func181 (aS (aO 1 (by kernel_rfl) (bM (.mk (by kernel_rfl) Cm)))) ⟨zs1,fun x=>x.1.1⟩ (fun x=>by kernel_rfl)
def qy(m:(List (List UInt8))->Option Bool):bG K:=cB 140 ⟨[.bY U.str,.fn 315 []],[]⟩ (fun x=>m x.1.1)
def qR:Cx K:=iZ [(181,.plain)] [uf M.kJ] []
theorem BI:aJ qR:=ak aV _ (ai Ff aY)
theorem CU:dD (qy (M.iK)):=fJ (cx:=qR) true BI Tryz.func140 (aS (af (by kernel_rfl))) ⟨zs0,fun x=>x.1.1⟩ (fun x=>by kernel_rfl)
def abN(m:(List (List UInt8))->Option Bool):bG K:=cB 268 aoK (fun x=>m x.1.1)
def afm:Cx K:=iZ [(271,.plain),(88,.plain),(123,.plain),(140,.plain)] [Gz M.Su,mO M.AX,xI M.mP,qy M.iK] []
theorem an4:aJ afm:=ak aV _ (ai Vr (ai rf (ai IG (ai CU aY))))
theorem asL:dD (abN (M.PE)):=fJ (cx:=afm) true an4 Tryz.func268 (aS (af (by kernel_rfl))) ⟨zs0,fun x=>x.1.1⟩ (fun x=>by kernel_rfl)
def KX(m:(List M.ae)->Option Int):bG K:=cI 270 zs9 (fun x=>m x.1.1)
theorem abO:dD (KX (M.abP)):=fJ (cx:=bZ) true bP Tryz.func270 (aS (af (by kernel_rfl))) ⟨zs1,fun x=>x.1.1⟩ (fun x=>by kernel_rfl)
def LU(m:M.ae->Option Bool):bG K:=cB 157 zs8 (fun x=>m x.1.1)
theorem Y8:dD (LU (M.ahf)):=fJ (cx:=bZ) true bP Tryz.func157 (aS (af (by kernel_rfl))) ⟨zs0,fun x=>x.1.1⟩ (fun x=>by kernel_rfl)
def uK:cO K:=df D false 19 0 [0,1,7,8] [4] aGM (fun x=>M.fM x.1.1 x.1.2.2.1 az x.1.2.2.2.1) dL
def vZ(m:(List M.ae)->Option Int):bG K:=cI 186 ⟨[.bY U.Type,.fn 157 []],[]⟩ (fun x=>m x.1.1)
def jU:Cx K:=iZ [(157,.plain)] [LU M.ahf] [(2,uK)]
theorem uM:aJ jU:=ak aV _ (ai Y8 aY)
theorem Dy:bH jU (bD (bJ Tryz.f186) 0) uK:=bf (cx:=jU) (sh:=aGM) (run:=fun n x=>M.fM x.1.1 x.1.2.2.1 n x.1.2.2.2.1) (cZ:=dQ) aV uM aG (af (by kernel_rfl)) (fun _=>rfl) (fun m x=>by kernel_rfl) (ai ⟨dH,fun _ _ _=>rfl⟩ (ai ⟨bg,fun _ _ _=>rfl⟩ aY)) false az
theorem Hm:dD (vZ (M.lh)):=fJ (cx:=jU) true uM Tryz.func186 (aS (aO 1 (by kernel_rfl) (bM (.mk (by kernel_rfl) Dy)))) ⟨zs1,fun x=>x.1.1⟩ (fun x=>by kernel_rfl)
def rP(m:(List M.ae)->Option Bool):bG K:=cB 147 ⟨[.bY U.Type,.fn 157 []],[]⟩ (fun x=>m x.1.1)
def ug:Cx K:=iZ [(186,.plain)] [vZ M.lh] []
theorem CV:aJ ug:=ak aV _ (ai Hm aY)
theorem Es:dD (rP (M.iU)):=fJ (cx:=ug) true CV Tryz.func147 (aS (af (by kernel_rfl))) ⟨zs0,fun x=>x.1.1⟩ (fun x=>by kernel_rfl)
def aiI(m:M.ae->Int->Option Bool):bG K:=cB 269 aEu (fun x=>m x.1.1 x.1.2.1)
def amu:Cx K:=iZ [(270,.plain),(147,.plain)] [KX M.abP,rP M.iU] []
theorem asM:aJ amu:=ak aV _ (ai abO (ai Es aY))
theorem awx:dD (aiI (M.J6)):=fJ (cx:=amu) true asM Tryz.func269 (aS (af (by kernel_rfl))) ⟨zs0,fun x=>x.1.1⟩ (fun x=>by kernel_rfl)
def yN:cO K:=df D false 19 0 [0,1,7,8] [4] aGN (fun x=>M.ik x.1.1 x.1.2.1 x.1.2.2.1 az x.1.2.2.2.1) dL
def zO(m:(List Int)->Int->Option Int):bG K:=cI 226 ⟨[.bY U.i64,.int .i64],[]⟩ (fun x=>m x.1.1 x.1.2.1)
def lU:Cx K:=iZ [] [] [(2,yN)]
theorem yO:aJ lU:=ak aV _ aY
theorem Hq:bH lU (bD (bJ Tryz.f226) 0) yN:=bf (cx:=lU) (sh:=aGN) (run:=fun n x=>M.ik x.1.1 x.1.2.1 x.1.2.2.1 n x.1.2.2.2.1) (cZ:=dQ) aV yO aG (af (by kernel_rfl)) (fun _=>rfl) (fun m x=>by kernel_rfl) (ai ⟨dH,fun _ _ _=>rfl⟩ (ai ⟨bg,fun _ _ _=>rfl⟩ aY)) false az
theorem Nc:dD (zO (M.oP)):=fJ (cx:=lU) true yO Tryz.func226 (aS (aO 1 (by kernel_rfl) (bM (.mk (by kernel_rfl) Hq)))) ⟨zs1,fun x=>x.1.1⟩ (fun x=>by kernel_rfl)
def xw(m:(List Int)->Int->Option Bool):bG K:=cB 187 ⟨[.bY U.i64,.int .i64],[]⟩ (fun x=>m x.1.1 x.1.2.1)
def yf:Cx K:=iZ [(226,.plain)] [zO M.oP] []
theorem GG:aJ yf:=ak aV _ (ai Nc aY)
theorem Ig:dD (xw (M.jP)):=fJ (cx:=yf) true GG Tryz.func187 (aS (af (by kernel_rfl))) ⟨zs0,fun x=>x.1.1⟩ (fun x=>by kernel_rfl)
def iJ(m:M.ae->(List Int)->Option Bool):bG K:=cB 150 ⟨[.el U.Type,.bY U.i64],[]⟩ (fun x=>m x.1.1 x.1.2.1)
def Vs(m:M.ae->(List Int)->Option Bool):bG K:=cB 188 ⟨[.el U.Type,.rp U.aaR 0],[]⟩ (fun x=>m x.1.1 x.1.2.1)
def Yr(aX:M.ae->(List Int)->Option Bool):Cx K:=iZ [(150,.plain)] [iJ aX] []
theorem aiJ(aX:M.ae->(List Int)->Option Bool)(fZ:dD (iJ aX)):aJ (Yr aX):=ak aV _ (ai fZ aY)
theorem an5(aX:M.ae->(List Int)->Option Bool)(fZ:dD (iJ aX)):dD (Vs (M.GH aX)):=vg (cx:=Yr aX) (fz:=true) aV (aiJ aX fZ) aG ⟨Tryz.func188,by kernel_rfl⟩ (aS (af (by kernel_rfl))) ⟨zs0,fun x=>x.1.1⟩ (fun x=>rfl) (fun x=>by kernel_rfl)
def uN(aX:M.ae->(List Int)->Option Bool):cO K:=df D false 19 0 [0,1,7,8] [4] aGO (fun x=>M.fO aX x.1.1 x.1.2.1.1 x.1.2.2.1 az x.1.2.2.2.1) dL
def wo(m:(List M.ae)->(List Int)->Option Int):bG K:=cI 186 aGP (fun x=>m x.1.1 x.1.2.1.1)
def jV(aX:M.ae->(List Int)->Option Bool):Cx K:=iZ [(188,.plain)] [Vs (M.GH aX)] [(2,uN aX)]
theorem uO(aX:M.ae->(List Int)->Option Bool)(fZ:dD (iJ aX)):aJ (jV aX):=ak aV _ (ai (an5 aX fZ) aY)
theorem Dz(aX:M.ae->(List Int)->Option Bool)(fZ:dD (iJ aX)):bH (jV aX) (bD (bJ Tryz.f186) 0) (uN aX):=bf (cx:=jV aX) (sh:=aGO) (run:=fun n x=>M.fO aX x.1.1 x.1.2.1.1 x.1.2.2.1 n x.1.2.2.2.1) (cZ:=dQ) aV (uO aX fZ) aG (af (by kernel_rfl)) (fun _=>rfl) (fun m x=>by kernel_rfl) (ai ⟨dH,fun _ _ _=>rfl⟩ (ai ⟨bg,fun _ _ _=>rfl⟩ aY)) false az
theorem Hr(aX:M.ae->(List Int)->Option Bool)(fZ:dD (iJ aX)):dD (wo (M.lq aX)):=vg (cx:=jV aX) (fz:=true) aV (uO aX fZ) aG ⟨Tryz.func186,by kernel_rfl⟩ (aS (aO 1 (by kernel_rfl) (bM (.mk (by kernel_rfl) (Dz aX fZ))))) ⟨zs1,fun x=>x.1.1⟩ (fun x=>rfl) (fun x=>by kernel_rfl)
def rQ(m:(List M.ae)->(List Int)->Option Bool):bG K:=cB 147 aGP (fun x=>m x.1.1 x.1.2.1.1)
def uh(aX:M.ae->(List Int)->Option Bool):Cx K:=iZ [(186,.plain)] [wo (M.lq aX)] []
theorem CW(aX:M.ae->(List Int)->Option Bool)(fZ:dD (iJ aX)):aJ (uh aX):=ak aV _ (ai (Hr aX fZ) aY)
theorem Et(aX:M.ae->(List Int)->Option Bool)(fZ:dD (iJ aX)):dD (rQ (M.iV aX)):=vg (cx:=uh aX) (fz:=true) aV (CW aX fZ) aG ⟨Tryz.func147,by kernel_rfl⟩ (aS (af (by kernel_rfl))) ⟨zs0,fun x=>x.1.1⟩ (fun x=>rfl) (fun x=>by kernel_rfl)
def aiK(aX:M.ae->(List Int)->Option Bool):Cx K:=iZ [(187,.plain),(147,.plain)] [xw M.jP,rQ (M.iV aX)] []
theorem apB(aX:M.ae->(List Int)->Option Bool)(fZ:dD (iJ aX)):aJ (aiK aX):=ak aV _ (ai Ig (ai (Et aX fZ) aY))
theorem apC(aX:M.ae->(List Int)->Option Bool)(fZ:dD (iJ aX)):dD (iJ (M.Rq aX)):=vg (cx:=aiK aX) (fz:=true) aV (apB aX fZ) aG ⟨Tryz.func150,by kernel_rfl⟩ (aS (af (by kernel_rfl))) ⟨zs0,fun x=>x.1.1⟩ (fun x=>rfl) (fun x=>by kernel_rfl)
theorem abQ:∀n,dD (iJ (M.nP n))|0=>qW fun _=>rfl|n+1=>apC (M.nP n) (abQ n)
theorem V3:dD (iJ (M.nV)):=abQ az
def aiL(aW:M.ae->Option Bool):Cx K:=iZ [(147,.plain),(88,.plain),(268,.plain),(83,.plain),(269,.plain),(270,.plain),(271,.plain),(150,.plain)] [uJ (M.iI aW),mO M.AX,abN M.PE,BQ M.qO,aiI M.J6,KX M.abP,Gz M.Su,iJ M.nV] []
theorem apD(aW:M.ae->Option Bool)(fV:dD (ji aW)):aJ (aiL aW):=ak aV _ (ai (Gy aW fV) (ai rf (ai asL (ai Jr (ai awx (ai abO (ai Vr (ai V3 aY))))))))
theorem apE(aW:M.ae->Option Bool)(fV:dD (ji aW)):dD (ji (M.J7 aW)):=vg (cx:=aiL aW) (fz:=true) aV (apD aW fV) aG ⟨Tryz.func225,by kernel_rfl⟩ (aS (af (by kernel_rfl))) ⟨zs0,fun x=>x.1.1⟩ (fun x=>rfl) (fun x=>by kernel_rfl)
theorem abR:∀n,dD (ji (M.wu n))|0=>qW fun _=>rfl|n+1=>apE (M.wu n) (abR n)
theorem aun:dD (ji (M.acQ)):=abR az
def ZC(m:M.ae->Option Bool):bG K:=cB 169 zs8 (fun x=>m x.1.1)
def apF:Cx K:=iZ [(202,.plain),(203,.plain)] [rH M.acU,pW M.Wx] []
theorem au0:aJ apF:=ak aV _ (ai auY (ai asJ aY))
theorem aoZ:dD (ZC (M.Qq)):=fJ (cx:=apF) true au0 Tryz.func169 (aS (af (by kernel_rfl))) ⟨zs0,fun x=>x.1.1⟩ (fun x=>by kernel_rfl)
def afn(m:M.ay->Int->Option Int):bG K:=cI 200 ⟨[.el U.Param,.int .i64],[]⟩ (fun x=>m x.1.1 x.1.2.1)
def aiM:Cx K:=iZ [(167,.plain)] [ng M.Vk] []
theorem apG:aJ aiM:=ak aV _ (ai amn aY)
theorem au1:dD (afn (M.Vt)):=fJ (cx:=aiM) true apG Tryz.func200 (aS (af (by kernel_rfl))) ⟨zs1,fun x=>x.1.1⟩ (fun x=>by kernel_rfl)
def Yt:cO K:=df D false 27 0 [0,1,5] [1,4] aGQ (fun x=>M.wU x.1.1 az x.1.2.1 x.1.2.2.1) iG
def abS(m:(List M.ay)->Int->Option Int):bG K:=cI 166 ⟨[.bY U.Param,.int .i64],[]⟩ (fun x=>m x.1.1 x.1.2.1)
def I8:Cx K:=iZ [(200,.plain)] [afn M.Vt] [(5,Yt)]
theorem Yu:aJ I8:=ak aV _ (ai au1 aY)
theorem aiN:bH I8 (bD (bJ Tryz.f166) 0) Yt:=bf (cx:=I8) (sh:=aGQ) (run:=fun n x=>M.wU x.1.1 n x.1.2.1 x.1.2.2.1) (cZ:=iP) aV Yu aG (af (by kernel_rfl)) (fun _=>rfl) (fun m x=>by kernel_rfl) (ai ⟨dH,fun _ _ _=>rfl⟩ (ai ⟨bg,fun _ _ _=>rfl⟩ aY)) false az
theorem asN:dD (abS (M.PG)):=fJ (cx:=I8) true Yu Tryz.func166 (aS (aO 1 (by kernel_rfl) (bM (.mk (by kernel_rfl) aiN)))) ⟨zs1,fun x=>x.1.1⟩ (fun x=>by kernel_rfl)
def Vu(m:M.ah->Int->Option Int):bG K:=cI 126 ⟨[.el U.lJ,.int .i64],[]⟩ (fun x=>m x.1.1 x.1.2.1)
def Yv:Cx K:=iZ [(166,.plain),(167,.plain)] [abS M.PG,ng M.Vk] []
theorem aiO:aJ Yv:=ak aV _ (ai asN (ai amn aY))
theorem an6:dD (Vu (M.GI)):=fJ (cx:=Yv) true aiO Tryz.func126 (aS (af (by kernel_rfl))) ⟨zs1,fun x=>x.1.1⟩ (fun x=>by kernel_rfl)
def aiP(m:M.aQ->Int->Option Int):bG K:=cI 99 ⟨[.el U.Func,.int .i64],[]⟩ (fun x=>m x.1.1 x.1.2.1)
def amv:Cx K:=iZ [(126,.plain)] [Vu M.GI] []
theorem asO:aJ amv:=ak aV _ (ai an6 aY)
theorem awy:dD (aiP (M.abT)):=fJ (cx:=amv) true asO Tryz.func99 (aS (af (by kernel_rfl))) ⟨zs1,fun x=>x.1.1⟩ (fun x=>by kernel_rfl)
def abU:cO K:=df D false 27 0 [0,1,5] [1,4] aGR (fun x=>M.zu x.1.1 az x.1.2.1 x.1.2.2.1) iG
def afo(m:(List M.aQ)->Int->Option Int):bG K:=cI 67 ⟨[.bY U.Func,.int .i64],[]⟩ (fun x=>m x.1.1 x.1.2.1)
def Nh:Cx K:=iZ [(99,.plain)] [aiP M.abT] [(5,abU)]
theorem abV:aJ Nh:=ak aV _ (ai awy aY)
theorem ak5:bH Nh (bD (bJ Tryz.f67) 0) abU:=bf (cx:=Nh) (sh:=aGR) (run:=fun n x=>M.zu x.1.1 n x.1.2.1 x.1.2.2.1) (cZ:=iP) aV abV aG (af (by kernel_rfl)) (fun _=>rfl) (fun m x=>by kernel_rfl) (ai ⟨dH,fun _ _ _=>rfl⟩ (ai ⟨bg,fun _ _ _=>rfl⟩ aY)) false az
theorem au2:dD (afo (M.Vw)):=fJ (cx:=Nh) true abV Tryz.func67 (aS (aO 1 (by kernel_rfl) (bM (.mk (by kernel_rfl) ak5)))) ⟨zs1,fun x=>x.1.1⟩ (fun x=>by kernel_rfl)
def aiQ(m:M.aI->Int->Option Int):bG K:=cI 41 ⟨[.el U.dE,.int .i64],[]⟩ (fun x=>m x.1.1 x.1.2.1)
def amw:Cx K:=iZ [(66,.plain),(67,.plain)] [KW M.BG,afo M.Vw] []
theorem asP:aJ amw:=ak aV _ (ai aby (ai au2 aY))
theorem awz:dD (aiQ (M.abW)):=fJ (cx:=amw) true asP Tryz.func41 (aS (af (by kernel_rfl))) ⟨zs1,fun x=>x.1.1⟩ (fun x=>by kernel_rfl)
def abX:cO K:=df D false 27 0 [0,1,5] [1,4] aEi (fun x=>M.zx x.1.1 az x.1.2.1 x.1.2.2.1) iG
def aeg(m:(List M.aI)->Int->Option Int):bG K:=cI 16 aHn (fun x=>m x.1.1 x.1.2.1)
def Nj:Cx K:=iZ [(41,.plain)] [aiQ M.abW] [(5,abX)]
theorem abY:aJ Nj:=ak aV _ (ai awz aY)
theorem ak6:bH Nj (bD (bJ Tryz.f16) 0) abX:=bf (cx:=Nj) (sh:=aEi) (run:=fun n x=>M.zx x.1.1 n x.1.2.1 x.1.2.2.1) (cZ:=iP) aV abY aG (af (by kernel_rfl)) (fun _=>rfl) (fun m x=>by kernel_rfl) (ai ⟨dH,fun _ _ _=>rfl⟩ (ai ⟨bg,fun _ _ _=>rfl⟩ aY)) false az
theorem auu:dD (aeg (M.NI)):=fJ (cx:=Nj) true abY Tryz.func16 (aS (aO 1 (by kernel_rfl) (bM (.mk (by kernel_rfl) ak6)))) ⟨zs1,fun x=>x.1.1⟩ (fun x=>by kernel_rfl)
def an7(y:Int⊕((List UInt8)×Int×Int×Int)){R:Type}(k:KT R):R:=match y with|.inl a0=>kk k Ex.ret aGS (((),((),((),((),(a0,()))))),())|.inr a1=>kk k (Ex.exit 0) aGT ((a1.1,(a1.2.1,(a1.2.2.1,(a1.2.2.2,((),()))))),())
def apH:List (gB K ((Int)⊕((List UInt8)×Int×Int×Int))):=[⟨Ex.ret,aGS,fun x=>.inl x.1.2.2.2.2.1⟩,⟨(Ex.exit 0),aGT,fun x=>.inr ((x.1.1,x.1.2.1,x.1.2.2.1,x.1.2.2.2.1))⟩]
def afp:cO K:=df D false 71 0 [0,3,4,5,6] [0,3,4,5,2] aGU (fun x=>M.rU x.1.1 az x.1.2.1 x.1.2.2.1 x.1.2.2.2.1 x.1.2.2.2.2.1) an7
def zy(m:Int->Option ((List UInt8))):bG K:=cS 168 zs1 (fun x=>m x.1.1)
def amx(lu:Int->Option ((List UInt8))):Cx K:=iZ [(168,.plain)] [zy lu] []
theorem asQ(lu:Int->Option ((List UInt8)))(Sv:dD (zy lu)):aJ (amx lu):=ak aV _ (ai Sv aY)
theorem asR(lu:Int->Option ((List UInt8)))(Sv:dD (zy lu)):dD (zy (M.Ih lu)):=vg (cx:=amx lu) (fz:=true) aV (asQ lu Sv) aG ⟨Tryz.func168,by kernel_rfl⟩ (aS (af (by kernel_rfl))) ⟨zs6,fun x=>x.1.1⟩ (fun x=>rfl) (fun x=>by kernel_rfl)
theorem afq:∀n,dD (zy (M.wV n))|0=>qW fun _=>rfl|n+1=>asR (M.wV n) (afq n)
theorem awC:dD (zy (M.PH)):=afq az
def afr(m:Int->Option ((List UInt8))):bG K:=cS 127 zs1 (fun x=>m x.1.1)
def aiR:Cx K:=iZ [(168,.plain)] [zy M.PH] []
theorem apI:aJ aiR:=ak aV _ (ai awC aY)
theorem au3:dD (afr (M.Vx)):=fJ (cx:=aiR) true apI Tryz.func127 (aS (af (by kernel_rfl))) ⟨zs6,fun x=>x.1.1⟩ (fun x=>by kernel_rfl)
def aiS(m:(List UInt8)->Option Int):bG K:=cI 101 zs6 (fun x=>m x.1.1)
def Rt:Cx K:=iZ [(73,.plain),(127,.plain)] [vH M.L6,afr M.Vx] [(3,afp)]
theorem afs:aJ Rt:=ak aV _ (ai Bd (ai au3 aY))
theorem an8:bH Rt (bD (bJ Tryz.f101) 0) afp:=bf (cx:=Rt) (sh:=aGU) (run:=fun n x=>M.rU x.1.1 n x.1.2.1 x.1.2.2.1 x.1.2.2.2.1 x.1.2.2.2.2.1) (cZ:=apH) aV afs aG (af (by kernel_rfl)) (fun _=>rfl) (fun m x=>by kernel_rfl) (ai ⟨dH,fun _ _ _=>rfl⟩ (ai ⟨bg,fun _ _ _=>rfl⟩ aY)) false az
theorem awD:dD (aiS (M.abZ)):=fJ (cx:=Rt) true afs Tryz.func101 (aS (aO 1 (by kernel_rfl) (bM (.mk (by kernel_rfl) an8)))) ⟨zs1,fun x=>x.1.1⟩ (fun x=>by kernel_rfl)
def KJ(m:(List UInt8)->Option Bool):bG K:=cB 71 zs6 (fun x=>m x.1.1)
def ab1:Cx K:=iZ [(101,.plain)] [aiS M.abZ] []
theorem ak7:aJ ab1:=ak aV _ (ai awD aY)
theorem ZX:dD (KJ (M.Bi)):=fJ (cx:=ab1) true ak7 Tryz.func71 (aS (af (by kernel_rfl))) ⟨zs0,fun x=>x.1.1⟩ (fun x=>by kernel_rfl)
def ak8(y:Bool⊕(M.aI)){R:Type}(k:KT R):R:=match y with|.inl a0=>kk k Ex.ret aAR (((),(a0,())),((),()))|.inr a1=>kk k (Ex.exit 0) ⟨[.ptr 0 0,.any],[.el U.dE]⟩ (((),((),())),(a1,()))
def an9:List (gB K ((Bool)⊕(M.aI))):=[⟨Ex.ret,aAR,fun x=>.inl x.1.2.1⟩,⟨(Ex.exit 0),⟨[.ptr 0 0,.any],[.el U.dE]⟩,fun x=>.inr (x.2.1)⟩]
def ab2:cO K:=df D false 122 1 [1,3] [1,2] aEx (fun x=>M.oQ x.2.1 az x.1.2.1) ak8
def agE(y:Bool⊕(Int×M.ah)){R:Type}(k:KT R):R:=match y with|.inl a0=>kk k Ex.ret aAQ (((),((),(a0,()))),((),((),())))|.inr a1=>kk k (Ex.exit 2) aGV (((),(a1.1,((),()))),(a1.2,((),())))
def aiT:List (gB K ((Bool)⊕(Int×M.ah))):=[⟨Ex.ret,aAQ,fun x=>.inl x.1.2.2.1⟩,⟨(Ex.exit 2),aGV,fun x=>.inr ((x.1.2.1,x.2.1))⟩]
def Vy:cO K:=df D false 63 2 [1,3,4,5] [1,3,2] aGW (fun x=>M.kX x.1.2.1 az x.1.2.2.2.1 x.2.1 x.2.2.1) agE
def ab3:cO K:=df D false 63 1 [1,3] [2] aEh (fun x=>M.oU az x.1.2.1 x.2.1) kN
def aft(m:M.ah->Option Bool):bG K:=cB 128 arJ (fun x=>m x.1.1)
def CB:Cx K:=iZ [(169,.plain),(130,.plain),(70,.plain)] [ZC M.Qq,oH M.qM,zY M.nH] [(10,Vy),(4,ab3)]
theorem PI:aJ CB:=ak aV _ (ai aoZ (ai Y3 (ai FT aY)))
theorem agF:bH CB (bD (bD (bJ Tryz.f128) 0) 0) Vy:=bf (cx:=CB) (sh:=aGW) (run:=fun n x=>M.kX x.1.2.1 n x.1.2.2.2.1 x.2.1 x.2.2.1) (cZ:=aiT) aV PI aG (af (by kernel_rfl)) (fun _=>rfl) (fun m x=>by kernel_rfl) (ai ⟨dH,fun _ _ _=>rfl⟩ (ai ⟨bg,fun _ _ _=>rfl⟩ aY)) false az
theorem ak9:bH CB (bD (bJ Tryz.f128) 0) ab3:=bf (cx:=CB) (sh:=aEh) (run:=fun n x=>M.oU n x.1.2.1 x.2.1) (cZ:=lI) aV PI aG (aO 1 (by kernel_rfl) (bM (.mk (by kernel_rfl) agF))) (fun _=>rfl) (fun m x=>by kernel_rfl) (ai ⟨dH,fun _ _ _=>rfl⟩ (ai ⟨bg,fun _ _ _=>rfl⟩ aY)) false az
theorem au4:dD (aft (M.Vz)):=fJ (cx:=CB) true PI Tryz.func128 (aS (aO 1 (by kernel_rfl) (bM (.mk (by kernel_rfl) ak9)))) ⟨zs0,fun x=>x.1.1⟩ (fun x=>by kernel_rfl)
def adQ(y:(List UInt8)×Bool×(List (List UInt8))){R:Type}(k:KT R):R:=match y with|a0=>kk k (Ex.exit 0) aGX ((a0.1,((),(a0.2.1,()))),((),(a0.2.2,())))
def agG:List (gB K ((List UInt8)×Bool×(List (List UInt8)))):=[⟨(Ex.exit 0),aGX,fun x=>(x.1.1,x.1.2.2.1,x.2.2.1)⟩]
def Ru:cO K:=df D false 49 1 [0,1,5,6,7] [1,5,6] aGY (fun x=>M.nR x.1.1 x.1.2.1 az x.1.2.2.2.1 x.1.2.2.2.2.1 x.2.2.1) adQ
def VA(m:(List (List UInt8))->(List UInt8)->Option ((List (List UInt8)))):bG K:={f:=204,sh:=aHo,R:=(List (List UInt8)),run:=fun x=>m x.1.1 x.1.2.1,dflt:=default,out:=fun r=>(Sh.enc D (.bY U.str) r,ja.encs D [] ())}
def D6:Cx K:=iZ [] [] [(4,Ru)]
theorem Rw:aJ D6:=ak aV _ aY
theorem adR:bH D6 (bD (bJ Tryz.f204) 0) Ru:=bf (cx:=D6) (sh:=aGY) (run:=fun n x=>M.nR x.1.1 x.1.2.1 n x.1.2.2.2.1 x.1.2.2.2.2.1 x.2.2.1) (cZ:=agG) aV Rw aG (af (by kernel_rfl)) (fun _=>rfl) (fun m x=>by kernel_rfl) (ai ⟨bg,fun _ _ _=>rfl⟩ aY) false az
theorem aoa:dD (VA (M.GK)):=fJ (cx:=D6) true Rw Tryz.func204 (aS (aO 1 (by kernel_rfl) (bM (.mk (by kernel_rfl) adR)))) ⟨aoK,fun x=>x.1.1⟩ (fun x=>by kernel_rfl)
def jZ(m:M.ae->(List (List UInt8))->Option ((List (List UInt8)))):bG K:={f:=170,sh:=⟨[.el U.Type,.bY U.str],[]⟩,R:=(List (List UInt8)),run:=fun x=>m x.1.1 x.1.2.1,dflt:=default,out:=fun r=>(Sh.enc D (.bY U.str) r,ja.encs D [] ())}
def YP(y:(List (List UInt8))){R:Type}(k:KT R):R:=match y with|a0=>kk k (Ex.exit 0) ⟨[.bY U.str],[.dead]⟩ ((a0,()),((),()))
def ab4:List (gB K ((List (List UInt8)))):=[⟨(Ex.exit 0),⟨[.bY U.str],[.dead]⟩,fun x=>x.1.1⟩]
def LD(cu:M.ae->(List (List UInt8))->Option ((List (List UInt8)))):cO K:=df D false 28 1 [1,2,5] [1] aGZ (fun x=>M.jQ cu az x.1.1 x.1.2.2.1 x.2.1) YP
def Ar(cu:M.ae->(List (List UInt8))->Option ((List (List UInt8)))):Cx K:=iZ [(204,.lF),(170,.lF)] [VA M.GK,jZ cu] [(4,LD cu)]
theorem LG(cu:M.ae->(List (List UInt8))->Option ((List (List UInt8))))(nI:dD (jZ cu)):aJ (Ar cu):=ak aV _ (ai aoa (ai nI aY))
theorem YQ(cu:M.ae->(List (List UInt8))->Option ((List (List UInt8))))(nI:dD (jZ cu)):bH (Ar cu) (bD (bJ Tryz.f170) 0) (LD cu):=bf (cx:=Ar cu) (sh:=aGZ) (run:=fun n x=>M.jQ cu n x.1.1 x.1.2.2.1 x.2.1) (cZ:=ab4) aV (LG cu nI) aG (af (by kernel_rfl)) (fun _=>rfl) (fun m x=>by kernel_rfl) (ai ⟨bg,fun _ _ _=>rfl⟩ aY) false az
theorem adS(cu:M.ae->(List (List UInt8))->Option ((List (List UInt8))))(nI:dD (jZ cu)):dD (jZ (M.CE cu)):=vg (cx:=Ar cu) (fz:=true) aV (LG cu nI) aG ⟨Tryz.func170,by kernel_rfl⟩ (aS (aO 1 (by kernel_rfl) (bM (.mk (by kernel_rfl) (YQ cu nI))))) ⟨aoK,fun x=>x.1.1⟩ (fun x=>rfl) (fun x=>by kernel_rfl)
theorem LH:∀n,dD (jZ (M.kK n))|0=>qW fun _=>rfl|n+1=>adS (M.kK n) (LH n)
theorem aiU:dD (jZ (M.yg)):=LH az
def aiV(y:(List (List UInt8))×(List (List UInt8))){R:Type}(k:KT R):R:=match y with|a0=>kk k (Ex.exit 0) ⟨[.bY U.str,.bY U.str],[.dead]⟩ ((a0.1,(a0.2,())),((),()))
def ala:List (gB K ((List (List UInt8))×(List (List UInt8)))):=[⟨(Ex.exit 0),⟨[.bY U.str,.bY U.str],[.dead]⟩,fun x=>(x.1.1,x.1.2.1)⟩]
def Yw:cO K:=df D false 55 1 [1,2,5,6] [1,5] aG0 (fun x=>M.wW x.1.1 az x.1.2.2.1 x.1.2.2.2.1 x.2.1) aiV
def adT(y:(List (List UInt8))×(List (List UInt8))×Int×Bool){R:Type}(k:KT R):R:=match y with|a0=>kk k (Ex.exit 4) aG1 ((a0.1,(a0.2.1,(a0.2.2.1,(a0.2.2.2,())))),())
def agH:List (gB K ((List (List UInt8))×(List (List UInt8))×Int×Bool)):=[⟨(Ex.exit 4),aG1,fun x=>(x.1.1,x.1.2.1,x.1.2.2.1,x.1.2.2.2.1)⟩]
def Rx:cO K:=df D false 55 0 [1,5,7,8,9] [1,5,7,8] aG2 (fun x=>M.qK x.1.1 x.1.2.1 x.1.2.2.1 az x.1.2.2.2.1 x.1.2.2.2.2.1) adT
def aiW(y:Bool⊕Unit){R:Type}(k:KT R):R:=match y with|.inl a0=>kk k Ex.ret zs0 ((a0,()),())|.inr a1=>kk k (Ex.exit 2) zs2 (((),()),())
def alb:List (gB K ((Bool)⊕Unit)):=[⟨Ex.ret,zs0,fun x=>.inl x.1.1⟩,⟨(Ex.exit 2),zs2,fun x=>.inr (())⟩]
def Yx:cO K:=df D false 55 0 [1,5,7] [4] aEv (fun x=>M.mF az x.1.1 x.1.2.1 x.1.2.2.1) aiW
def ab5(m:M.ah->(List (List UInt8))->Option Bool):bG K:=cB 129 ⟨[.el U.lJ,.bY U.str],[]⟩ (fun x=>m x.1.1 x.1.2.1)
def rV:Cx K:=iZ [(170,.lF)] [jZ M.yg] [(3,Yw),(11,Rx),(7,Yx)]
theorem D7:aJ rV:=ak aV _ (ai aiU aY)
theorem adU:bH rV (bD (bD (bJ Tryz.f129) 1) 0) Rx:=bf (cx:=rV) (sh:=aG2) (run:=fun n x=>M.qK x.1.1 x.1.2.1 x.1.2.2.1 n x.1.2.2.2.1 x.1.2.2.2.2.1) (cZ:=agH) aV D7 aG (af (by kernel_rfl)) (fun _=>rfl) (fun m x=>by kernel_rfl) (ai ⟨bg,fun _ _ _=>rfl⟩ aY) false az
theorem aiX:bH rV (bD (bJ Tryz.f129) 0) Yw:=bf (cx:=rV) (sh:=aG0) (run:=fun n x=>M.wW x.1.1 n x.1.2.2.1 x.1.2.2.2.1 x.2.1) (cZ:=ala) aV D7 aG (af (by kernel_rfl)) (fun _=>rfl) (fun m x=>by kernel_rfl) (ai ⟨bg,fun _ _ _=>rfl⟩ aY) false az
theorem aiY:bH rV (bD (bJ Tryz.f129) 1) Yx:=bf (cx:=rV) (sh:=aEv) (run:=fun n x=>M.mF n x.1.1 x.1.2.1 x.1.2.2.1) (cZ:=alb) aV D7 aG (aO 1 (by kernel_rfl) (bM (.mk (by kernel_rfl) adU))) (fun _=>rfl) (fun m x=>by kernel_rfl) (ai ⟨dH,fun _ _ _=>rfl⟩ (ai ⟨bg,fun _ _ _=>rfl⟩ aY)) false az
theorem asT:dD (ab5 (M.PK)):=fJ (cx:=rV) true D7 Tryz.func129 (aS (aO 2 (by kernel_rfl) (lt_succ (bM (.mk (by kernel_rfl) aiX)) (.mk (by kernel_rfl) aiY)))) ⟨zs0,fun x=>x.1.1⟩ (fun x=>by kernel_rfl)
def TK(y:Bool⊕Unit){R:Type}(k:KT R):R:=match y with|.inl a0=>kk k Ex.ret zs7 ((a0,()),((),()))|.inr a1=>kk k (Ex.exit 2) zs3 (((),()),((),()))
def Xt:List (gB K ((Bool)⊕Unit)):=[⟨Ex.ret,zs7,fun x=>.inl x.1.1⟩,⟨(Ex.exit 2),zs3,fun x=>.inr (())⟩]
def ab6:cO K:=df D false 122 1 [1,4] [2] aEx (fun x=>M.oV x.2.1 az x.1.2.1) TK
def ad5(m:M.aI->Option Bool):bG K:=cB 102 aB9 (fun x=>m x.1.1)
def BP:Cx K:=iZ [(70,.plain),(71,.plain),(128,.plain),(129,.plain)] [zY M.nH,KJ M.Bi,aft M.Vz,ab5 M.PK] [(4,ab2),(9,ab6)]
theorem N7:aJ BP:=ak aV _ (ai FT (ai ZX (ai au4 (ai asT aY))))
theorem ajR:bH BP (bD (bJ Tryz.f102) 0) ab2:=bf (cx:=BP) (sh:=aEx) (run:=fun n x=>M.oQ x.2.1 n x.1.2.1) (cZ:=an9) aV N7 aG (af (by kernel_rfl)) (fun _=>rfl) (fun m x=>by kernel_rfl) (ai ⟨dH,fun _ _ _=>rfl⟩ (ai ⟨bg,fun _ _ _=>rfl⟩ aY)) false az
theorem ajS:bH BP (bD (bJ Tryz.f102) 1) ab6:=bf (cx:=BP) (sh:=aEx) (run:=fun n x=>M.oV x.2.1 n x.1.2.1) (cZ:=Xt) aV N7 aG (af (by kernel_rfl)) (fun _=>rfl) (fun m x=>by kernel_rfl) (ai ⟨dH,fun _ _ _=>rfl⟩ (ai ⟨bg,fun _ _ _=>rfl⟩ aY)) false az
