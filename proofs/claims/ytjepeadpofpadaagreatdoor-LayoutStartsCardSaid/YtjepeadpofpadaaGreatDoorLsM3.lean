/- Models of the functions that the laws reach, each with the proof that the evaluator gives it. Written by sym.py. -/
import Derived.Test.YtjepeadpofpadaaGreatDoorLsM2
set_option linter.unusedSimpArgs false
set_option linter.unusedVariables false
set_option linter.unusedSectionVars false
namespace Go.Ev.Tryz
open Go Go.Ev Go.Proofs
set_option maxRecDepth 1000000
def ref18_R_operandso (n : Nat) (s0 : Unit) (s1 : Unit) (o0 : ((List GTok) × Int × Int × Unit)) (o1 : (ByteArray × Int × Int × Int × Int × Int × Int × Int × Int × Int × Bool × Int × ByteArray × Bool × Int × Int × Int × ByteArray × (List GExpr) × Unit)) : Option ((Unit) × (((List GTok) × Int × Int × Unit) × (ByteArray × Int × Int × Int × Int × Int × Int × Int × Int × Int × Bool × Int × ByteArray × Bool × Int × Int × Int × ByteArray × (List GExpr) × Unit) × Unit)) :=
 bif (bif (ile o1.2.2.1 9) then true else (bif (ile 16 o1.2.2.1) then (ile o1.2.2.1 19) else false)) then
 ((ref18_R_rego n () o0)).bind fun y1 =>
 ((ref18_R_musto () (⟨#[44]⟩ : ByteArray) y1.2.1)).bind fun y2 =>
 ((ref18_R_rego n () y2.2.1)).bind fun y3 =>
 ((ref18_R_musto () (⟨#[44]⟩ : ByteArray) y3.2.1)).bind fun y4 =>
 ((ref18_R_lasto n () () y4.2.1 (o1.1, o1.2.1, o1.2.2.1, o1.2.2.2.1, y1.1, y3.1, o1.2.2.2.2.2.2.1, o1.2.2.2.2.2.2.2.1, o1.2.2.2.2.2.2.2.2.1, o1.2.2.2.2.2.2.2.2.2.1, o1.2.2.2.2.2.2.2.2.2.2.1, o1.2.2.2.2.2.2.2.2.2.2.2.1, o1.2.2.2.2.2.2.2.2.2.2.2.2.1, o1.2.2.2.2.2.2.2.2.2.2.2.2.2.1, o1.2.2.2.2.2.2.2.2.2.2.2.2.2.2.1, o1.2.2.2.2.2.2.2.2.2.2.2.2.2.2.2.1, o1.2.2.2.2.2.2.2.2.2.2.2.2.2.2.2.2.1, o1.2.2.2.2.2.2.2.2.2.2.2.2.2.2.2.2.2.1, o1.2.2.2.2.2.2.2.2.2.2.2.2.2.2.2.2.2.2.1, ()))).bind fun y5 =>
 some ((), (y5.2.1, y5.2.2.1, ()))
 else
 bif (ile o1.2.2.1 11) then
 ((ref18_R_rego n () o0)).bind fun y6 =>
 ((ref18_R_musto () (⟨#[44]⟩ : ByteArray) y6.2.1)).bind fun y7 =>
 ((ref18_R_lasto n () () y7.2.1 (o1.1, o1.2.1, o1.2.2.1, o1.2.2.2.1, y6.1, o1.2.2.2.2.2.1, o1.2.2.2.2.2.2.1, o1.2.2.2.2.2.2.2.1, o1.2.2.2.2.2.2.2.2.1, o1.2.2.2.2.2.2.2.2.2.1, o1.2.2.2.2.2.2.2.2.2.2.1, o1.2.2.2.2.2.2.2.2.2.2.2.1, o1.2.2.2.2.2.2.2.2.2.2.2.2.1, o1.2.2.2.2.2.2.2.2.2.2.2.2.2.1, o1.2.2.2.2.2.2.2.2.2.2.2.2.2.2.1, o1.2.2.2.2.2.2.2.2.2.2.2.2.2.2.2.1, o1.2.2.2.2.2.2.2.2.2.2.2.2.2.2.2.2.1, o1.2.2.2.2.2.2.2.2.2.2.2.2.2.2.2.2.2.1, o1.2.2.2.2.2.2.2.2.2.2.2.2.2.2.2.2.2.2.1, ()))).bind fun y8 =>
 some ((), (y8.2.1, y8.2.2.1, ()))
 else
 bif (ile o1.2.2.1 15) then
 ((ref18_R_rego n () o0)).bind fun y9 =>
 ((ref18_R_musto () (⟨#[44]⟩ : ByteArray) y9.2.1)).bind fun y10 =>
 ((ref18_R_lasto n () () y10.2.1 (o1.1, o1.2.1, o1.2.2.1, o1.2.2.2.1, o1.2.2.2.2.1, y9.1, o1.2.2.2.2.2.2.1, o1.2.2.2.2.2.2.2.1, o1.2.2.2.2.2.2.2.2.1, o1.2.2.2.2.2.2.2.2.2.1, o1.2.2.2.2.2.2.2.2.2.2.1, o1.2.2.2.2.2.2.2.2.2.2.2.1, o1.2.2.2.2.2.2.2.2.2.2.2.2.1, o1.2.2.2.2.2.2.2.2.2.2.2.2.2.1, o1.2.2.2.2.2.2.2.2.2.2.2.2.2.2.1, o1.2.2.2.2.2.2.2.2.2.2.2.2.2.2.2.1, o1.2.2.2.2.2.2.2.2.2.2.2.2.2.2.2.2.1, o1.2.2.2.2.2.2.2.2.2.2.2.2.2.2.2.2.2.1, o1.2.2.2.2.2.2.2.2.2.2.2.2.2.2.2.2.2.2.1, ()))).bind fun y11 =>
 some ((), (y11.2.1, y11.2.2.1, ()))
 else
 bif (ile o1.2.2.1 22) then
 ((ref18_R_rego n () o0)).bind fun y12 =>
 ((ref18_R_musto () (⟨#[44]⟩ : ByteArray) y12.2.1)).bind fun y13 =>
 ((ref18_R_rego n () y13.2.1)).bind fun y14 =>
 ((ref18_R_musto () (⟨#[44]⟩ : ByteArray) y14.2.1)).bind fun y15 =>
 ((ref18_R_rego n () y15.2.1)).bind fun y16 =>
 some ((), (y16.2.1, (o1.1, o1.2.1, o1.2.2.1, o1.2.2.2.1, y12.1, y14.1, y16.1, o1.2.2.2.2.2.2.2.1, (2 : Int), o1.2.2.2.2.2.2.2.2.2.1, o1.2.2.2.2.2.2.2.2.2.2.1, o1.2.2.2.2.2.2.2.2.2.2.2.1, o1.2.2.2.2.2.2.2.2.2.2.2.2.1, o1.2.2.2.2.2.2.2.2.2.2.2.2.2.1, o1.2.2.2.2.2.2.2.2.2.2.2.2.2.2.1, o1.2.2.2.2.2.2.2.2.2.2.2.2.2.2.2.1, o1.2.2.2.2.2.2.2.2.2.2.2.2.2.2.2.2.1, o1.2.2.2.2.2.2.2.2.2.2.2.2.2.2.2.2.2.1, o1.2.2.2.2.2.2.2.2.2.2.2.2.2.2.2.2.2.2.1, ()), ()))
 else
 bif (ile o1.2.2.1 24) then
 ((ref18_R_rego n () o0)).bind fun y17 =>
 ((ref18_R_musto () (⟨#[44]⟩ : ByteArray) y17.2.1)).bind fun y18 =>
 ((ref18_R_musto () (⟨#[35]⟩ : ByteArray) y18.2.1)).bind fun y19 =>
 ((ref18_R_Termo n () y19.2.1)).bind fun y20 =>
 some ((), (y20.2.1, (o1.1, o1.2.1, o1.2.2.1, o1.2.2.2.1, y17.1, o1.2.2.2.2.2.1, o1.2.2.2.2.2.2.1, o1.2.2.2.2.2.2.2.1, (1 : Int), o1.2.2.2.2.2.2.2.2.2.1, o1.2.2.2.2.2.2.2.2.2.2.1, o1.2.2.2.2.2.2.2.2.2.2.2.1, o1.2.2.2.2.2.2.2.2.2.2.2.2.1, o1.2.2.2.2.2.2.2.2.2.2.2.2.2.1, o1.2.2.2.2.2.2.2.2.2.2.2.2.2.2.1, y20.1.op, y20.1.n, y20.1.name, y20.1.args, ()), ()))
 else
 bif (ile o1.2.2.1 30) then
 ((ref18_R_loadso n () () o0 o1)).bind fun y21 =>
 some ((), (y21.2.1, y21.2.2.1, ()))
 else
 ((ref18_R_otherso n () () o0 o1)).bind fun y22 =>
 some ((), (y22.2.1, y22.2.2.1, ()))
def ref18_R_operands_fm (n : Nat) : FM := ⟨[(.ptr 0 0), (.ptr 1 0)], [(.box [(.ty (.sl .tok)), (.ty (.i .i64)), (.ty (.i .i64))]), (.box [(.ty .s), (.ty (.i .i64)), (.ty (.i .i64)), (.ty (.i .i64)), (.ty (.i .i64)), (.ty (.i .i64)), (.ty (.i .i64)), (.ty (.i .i64)), (.ty (.i .i64)), (.ty (.i .i64)), (.ty .b), (.ty (.i .i64)), (.ty .s), (.ty .b), (.ty (.i .i64)), (.ty (.i .i64)), (.ty (.i .i64)), (.ty .s), (.ty (.sl .expr))])], (.tup []), false, none, fun a o => ref18_R_operandso n a.1 a.2.1 o.1 o.2.1⟩
def ref18_R_operands_cx (n : Nat) : Cx := ⟨ti, ty, gl, fun g => find [] g [(146, [ref18_R_reg_fm n]), (147, [ref18_R_must_fm]), (148, [ref18_R_last_fm n]), (106, [ref18_R_Term_fm n]), (149, [ref18_R_loads_fm n]), (150, [ref18_R_others_fm n])], fun k => find none k [], [], false, false⟩
theorem ref18_R_operands_ev (n : Nat) (a : ShTs (ref18_R_operands_fm n).ash) (o : ObTs (ref18_R_operands_fm n).os) : evalF (ref18_R_operands_cx n) Tryz.f112 (ref18_R_operands_fm n) a o = (ref18_R_operands_fm n).run a o := by kernel_rfl
def ref18_Reado (n : Nat) (s0 : (List GTok)) (s1 : Int) : Option ((GLine × Int × Unit) × Unit) :=
 ((ref18_R_to () (s0, s1, (0 : Int), ()))).bind fun y1 =>
 bif (bNot (ieq y1.1.kind 1)) then
 some (((⟨(⟨#[]⟩ : ByteArray), 0, (⟨0, 0, 0, 0, 0, 0, 0, 0, false⟩ : GIns), 0, (⟨#[]⟩ : ByteArray), false, 0, (GExpr.mk 0 0 (⟨#[]⟩ : ByteArray) ([] : List GExpr))⟩ : GLine), (3 : Int), ()), ())
 else
 ((ref18_blocko n y1.1.text)).bind fun y2 =>
 bif y2.1.2.1 then
 ((ref18_R_ito n () () y2.1.1 (s0, (wr .i64 (iadd s1 1)), (0 : Int), ()) ((⟨#[]⟩ : ByteArray), (1 : Int), (0 : Int), (0 : Int), (0 : Int), (0 : Int), (0 : Int), (0 : Int), (0 : Int), (0 : Int), false, (14 : Int), (⟨#[]⟩ : ByteArray), false, (0 : Int), (0 : Int), (0 : Int), (⟨#[]⟩ : ByteArray), ([] : List GExpr), ()))).bind fun y3 =>
 bif (bif (ieq y3.2.1.2.2.1 0) then (bNot (ieq y3.2.1.2.1 (iof (@xlen .tok s0)))) else false) then
 ((ref18_R_bado () (3 : Int) y3.2.1)).bind fun y4 =>
 bif (bNot (ieq y4.2.1.2.2.1 0)) then
 some (((⟨(⟨#[]⟩ : ByteArray), 0, (⟨0, 0, 0, 0, 0, 0, 0, 0, false⟩ : GIns), 0, (⟨#[]⟩ : ByteArray), false, 0, (GExpr.mk 0 0 (⟨#[]⟩ : ByteArray) ([] : List GExpr))⟩ : GLine), y4.2.1.2.2.1, ()), ())
 else
 some (((⟨y3.2.2.1.1, y3.2.2.1.2.1, (⟨y3.2.2.1.2.2.1, y3.2.2.1.2.2.2.1, y3.2.2.1.2.2.2.2.1, y3.2.2.1.2.2.2.2.2.1, y3.2.2.1.2.2.2.2.2.2.1, y3.2.2.1.2.2.2.2.2.2.2.1, y3.2.2.1.2.2.2.2.2.2.2.2.1, y3.2.2.1.2.2.2.2.2.2.2.2.2.1, y3.2.2.1.2.2.2.2.2.2.2.2.2.2.1⟩ : GIns), y3.2.2.1.2.2.2.2.2.2.2.2.2.2.2.1, y3.2.2.1.2.2.2.2.2.2.2.2.2.2.2.2.1, y3.2.2.1.2.2.2.2.2.2.2.2.2.2.2.2.2.1, y3.2.2.1.2.2.2.2.2.2.2.2.2.2.2.2.2.2.1, (GExpr.mk y3.2.2.1.2.2.2.2.2.2.2.2.2.2.2.2.2.2.2.1 y3.2.2.1.2.2.2.2.2.2.2.2.2.2.2.2.2.2.2.2.1 y3.2.2.1.2.2.2.2.2.2.2.2.2.2.2.2.2.2.2.2.2.1 y3.2.2.1.2.2.2.2.2.2.2.2.2.2.2.2.2.2.2.2.2.2.1)⟩ : GLine), (0 : Int), ()), ())
 else
 bif (bNot (ieq y3.2.1.2.2.1 0)) then
 some (((⟨(⟨#[]⟩ : ByteArray), 0, (⟨0, 0, 0, 0, 0, 0, 0, 0, false⟩ : GIns), 0, (⟨#[]⟩ : ByteArray), false, 0, (GExpr.mk 0 0 (⟨#[]⟩ : ByteArray) ([] : List GExpr))⟩ : GLine), y3.2.1.2.2.1, ()), ())
 else
 some (((⟨y3.2.2.1.1, y3.2.2.1.2.1, (⟨y3.2.2.1.2.2.1, y3.2.2.1.2.2.2.1, y3.2.2.1.2.2.2.2.1, y3.2.2.1.2.2.2.2.2.1, y3.2.2.1.2.2.2.2.2.2.1, y3.2.2.1.2.2.2.2.2.2.2.1, y3.2.2.1.2.2.2.2.2.2.2.2.1, y3.2.2.1.2.2.2.2.2.2.2.2.2.1, y3.2.2.1.2.2.2.2.2.2.2.2.2.2.1⟩ : GIns), y3.2.2.1.2.2.2.2.2.2.2.2.2.2.2.1, y3.2.2.1.2.2.2.2.2.2.2.2.2.2.2.2.1, y3.2.2.1.2.2.2.2.2.2.2.2.2.2.2.2.2.1, y3.2.2.1.2.2.2.2.2.2.2.2.2.2.2.2.2.2.1, (GExpr.mk y3.2.2.1.2.2.2.2.2.2.2.2.2.2.2.2.2.2.2.1 y3.2.2.1.2.2.2.2.2.2.2.2.2.2.2.2.2.2.2.2.1 y3.2.2.1.2.2.2.2.2.2.2.2.2.2.2.2.2.2.2.2.2.1 y3.2.2.1.2.2.2.2.2.2.2.2.2.2.2.2.2.2.2.2.2.2.1)⟩ : GLine), (0 : Int), ()), ())
 else
 ((ref18_wordo n y1.1.text)).bind fun y5 =>
 bif (bNot y5.1.2.2.2.2.1) then
 some (((⟨(⟨#[]⟩ : ByteArray), 0, (⟨0, 0, 0, 0, 0, 0, 0, 0, false⟩ : GIns), 0, (⟨#[]⟩ : ByteArray), false, 0, (GExpr.mk 0 0 (⟨#[]⟩ : ByteArray) ([] : List GExpr))⟩ : GLine), (4 : Int), ()), ())
 else
 bif (ieq y5.1.1 35) then
 ((ref18_R_operandso n () () (s0, (wr .i64 (iadd s1 1)), (0 : Int), ()) ((⟨#[]⟩ : ByteArray), (1 : Int), y5.1.1, y5.1.2.2.1, (0 : Int), (0 : Int), (0 : Int), (0 : Int), (0 : Int), (0 : Int), y5.1.2.1, y5.1.2.2.1, (⟨#[]⟩ : ByteArray), y5.1.2.2.2.1, (0 : Int), (0 : Int), (0 : Int), (⟨#[]⟩ : ByteArray), ([] : List GExpr), ()))).bind fun y6 =>
 bif (bif (ieq y6.2.1.2.2.1 0) then (bNot (ieq y6.2.1.2.1 (iof (@xlen .tok s0)))) else false) then
 ((ref18_R_bado () (3 : Int) y6.2.1)).bind fun y7 =>
 bif (bNot (ieq y7.2.1.2.2.1 0)) then
 some (((⟨(⟨#[]⟩ : ByteArray), 0, (⟨0, 0, 0, 0, 0, 0, 0, 0, false⟩ : GIns), 0, (⟨#[]⟩ : ByteArray), false, 0, (GExpr.mk 0 0 (⟨#[]⟩ : ByteArray) ([] : List GExpr))⟩ : GLine), y7.2.1.2.2.1, ()), ())
 else
 some (((⟨y6.2.2.1.1, y6.2.2.1.2.1, (⟨y6.2.2.1.2.2.1, y6.2.2.1.2.2.2.1, y6.2.2.1.2.2.2.2.1, y6.2.2.1.2.2.2.2.2.1, y6.2.2.1.2.2.2.2.2.2.1, y6.2.2.1.2.2.2.2.2.2.2.1, y6.2.2.1.2.2.2.2.2.2.2.2.1, y6.2.2.1.2.2.2.2.2.2.2.2.2.1, y6.2.2.1.2.2.2.2.2.2.2.2.2.2.1⟩ : GIns), y6.2.2.1.2.2.2.2.2.2.2.2.2.2.2.1, y6.2.2.1.2.2.2.2.2.2.2.2.2.2.2.2.1, y6.2.2.1.2.2.2.2.2.2.2.2.2.2.2.2.2.1, y6.2.2.1.2.2.2.2.2.2.2.2.2.2.2.2.2.2.1, (GExpr.mk y6.2.2.1.2.2.2.2.2.2.2.2.2.2.2.2.2.2.2.1 y6.2.2.1.2.2.2.2.2.2.2.2.2.2.2.2.2.2.2.2.1 y6.2.2.1.2.2.2.2.2.2.2.2.2.2.2.2.2.2.2.2.2.1 y6.2.2.1.2.2.2.2.2.2.2.2.2.2.2.2.2.2.2.2.2.2.1)⟩ : GLine), (0 : Int), ()), ())
 else
 bif (bNot (ieq y6.2.1.2.2.1 0)) then
 some (((⟨(⟨#[]⟩ : ByteArray), 0, (⟨0, 0, 0, 0, 0, 0, 0, 0, false⟩ : GIns), 0, (⟨#[]⟩ : ByteArray), false, 0, (GExpr.mk 0 0 (⟨#[]⟩ : ByteArray) ([] : List GExpr))⟩ : GLine), y6.2.1.2.2.1, ()), ())
 else
 some (((⟨y6.2.2.1.1, y6.2.2.1.2.1, (⟨y6.2.2.1.2.2.1, y6.2.2.1.2.2.2.1, y6.2.2.1.2.2.2.2.1, y6.2.2.1.2.2.2.2.2.1, y6.2.2.1.2.2.2.2.2.2.1, y6.2.2.1.2.2.2.2.2.2.2.1, y6.2.2.1.2.2.2.2.2.2.2.2.1, y6.2.2.1.2.2.2.2.2.2.2.2.2.1, y6.2.2.1.2.2.2.2.2.2.2.2.2.2.1⟩ : GIns), y6.2.2.1.2.2.2.2.2.2.2.2.2.2.2.1, y6.2.2.1.2.2.2.2.2.2.2.2.2.2.2.2.1, y6.2.2.1.2.2.2.2.2.2.2.2.2.2.2.2.2.1, y6.2.2.1.2.2.2.2.2.2.2.2.2.2.2.2.2.2.1, (GExpr.mk y6.2.2.1.2.2.2.2.2.2.2.2.2.2.2.2.2.2.2.1 y6.2.2.1.2.2.2.2.2.2.2.2.2.2.2.2.2.2.2.2.1 y6.2.2.1.2.2.2.2.2.2.2.2.2.2.2.2.2.2.2.2.2.1 y6.2.2.1.2.2.2.2.2.2.2.2.2.2.2.2.2.2.2.2.2.2.1)⟩ : GLine), (0 : Int), ()), ())
 else
 ((ref18_R_operandso n () () (s0, (wr .i64 (iadd s1 1)), (0 : Int), ()) ((⟨#[]⟩ : ByteArray), (1 : Int), y5.1.1, (0 : Int), (0 : Int), (0 : Int), (0 : Int), (0 : Int), (0 : Int), (0 : Int), y5.1.2.1, y5.1.2.2.1, (⟨#[]⟩ : ByteArray), y5.1.2.2.2.1, (0 : Int), (0 : Int), (0 : Int), (⟨#[]⟩ : ByteArray), ([] : List GExpr), ()))).bind fun y8 =>
 bif (bif (ieq y8.2.1.2.2.1 0) then (bNot (ieq y8.2.1.2.1 (iof (@xlen .tok s0)))) else false) then
 ((ref18_R_bado () (3 : Int) y8.2.1)).bind fun y9 =>
 bif (bNot (ieq y9.2.1.2.2.1 0)) then
 some (((⟨(⟨#[]⟩ : ByteArray), 0, (⟨0, 0, 0, 0, 0, 0, 0, 0, false⟩ : GIns), 0, (⟨#[]⟩ : ByteArray), false, 0, (GExpr.mk 0 0 (⟨#[]⟩ : ByteArray) ([] : List GExpr))⟩ : GLine), y9.2.1.2.2.1, ()), ())
 else
 some (((⟨y8.2.2.1.1, y8.2.2.1.2.1, (⟨y8.2.2.1.2.2.1, y8.2.2.1.2.2.2.1, y8.2.2.1.2.2.2.2.1, y8.2.2.1.2.2.2.2.2.1, y8.2.2.1.2.2.2.2.2.2.1, y8.2.2.1.2.2.2.2.2.2.2.1, y8.2.2.1.2.2.2.2.2.2.2.2.1, y8.2.2.1.2.2.2.2.2.2.2.2.2.1, y8.2.2.1.2.2.2.2.2.2.2.2.2.2.1⟩ : GIns), y8.2.2.1.2.2.2.2.2.2.2.2.2.2.2.1, y8.2.2.1.2.2.2.2.2.2.2.2.2.2.2.2.1, y8.2.2.1.2.2.2.2.2.2.2.2.2.2.2.2.2.1, y8.2.2.1.2.2.2.2.2.2.2.2.2.2.2.2.2.2.1, (GExpr.mk y8.2.2.1.2.2.2.2.2.2.2.2.2.2.2.2.2.2.2.1 y8.2.2.1.2.2.2.2.2.2.2.2.2.2.2.2.2.2.2.2.1 y8.2.2.1.2.2.2.2.2.2.2.2.2.2.2.2.2.2.2.2.2.1 y8.2.2.1.2.2.2.2.2.2.2.2.2.2.2.2.2.2.2.2.2.2.1)⟩ : GLine), (0 : Int), ()), ())
 else
 bif (bNot (ieq y8.2.1.2.2.1 0)) then
 some (((⟨(⟨#[]⟩ : ByteArray), 0, (⟨0, 0, 0, 0, 0, 0, 0, 0, false⟩ : GIns), 0, (⟨#[]⟩ : ByteArray), false, 0, (GExpr.mk 0 0 (⟨#[]⟩ : ByteArray) ([] : List GExpr))⟩ : GLine), y8.2.1.2.2.1, ()), ())
 else
 some (((⟨y8.2.2.1.1, y8.2.2.1.2.1, (⟨y8.2.2.1.2.2.1, y8.2.2.1.2.2.2.1, y8.2.2.1.2.2.2.2.1, y8.2.2.1.2.2.2.2.2.1, y8.2.2.1.2.2.2.2.2.2.1, y8.2.2.1.2.2.2.2.2.2.2.1, y8.2.2.1.2.2.2.2.2.2.2.2.1, y8.2.2.1.2.2.2.2.2.2.2.2.2.1, y8.2.2.1.2.2.2.2.2.2.2.2.2.2.1⟩ : GIns), y8.2.2.1.2.2.2.2.2.2.2.2.2.2.2.1, y8.2.2.1.2.2.2.2.2.2.2.2.2.2.2.2.1, y8.2.2.1.2.2.2.2.2.2.2.2.2.2.2.2.2.1, y8.2.2.1.2.2.2.2.2.2.2.2.2.2.2.2.2.2.1, (GExpr.mk y8.2.2.1.2.2.2.2.2.2.2.2.2.2.2.2.2.2.2.1 y8.2.2.1.2.2.2.2.2.2.2.2.2.2.2.2.2.2.2.2.1 y8.2.2.1.2.2.2.2.2.2.2.2.2.2.2.2.2.2.2.2.2.1 y8.2.2.1.2.2.2.2.2.2.2.2.2.2.2.2.2.2.2.2.2.2.1)⟩ : GLine), (0 : Int), ()), ())
def ref18_Read_fm (n : Nat) : FM := ⟨[(.ty (.sl .tok)), (.ty (.i .i64))], [], (.tup [(.ty .line), (.ty (.i .i64))]), true, none, fun a o => ref18_Reado n a.1 a.2.1⟩
def ref18_Read_cx (n : Nat) : Cx := ⟨ti, ty, gl, fun g => find [] g [(108, [ref18_R_t_fm]), (109, [ref18_block_fm n]), (110, [ref18_R_it_fm n]), (113, [ref18_R_bad_fm]), (111, [ref18_word_fm n]), (112, [ref18_R_operands_fm n])], fun k => find none k [], [], false, false⟩
theorem ref18_Read_ev (n : Nat) (a : ShTs (ref18_Read_fm n).ash) (o : ObTs (ref18_Read_fm n).os) : evalF (ref18_Read_cx n) Tryz.f78 (ref18_Read_fm n) a o = (ref18_Read_fm n).run a o := by kernel_rfl
def ref17_Same_L4 (n : Nat) (r_ref17_Same : GExpr → GExpr → Option (Bool × Unit)) (a_2 : Unit) (b_3 : Unit) (s_4 : Bool) (i_5 : Int) (o0 : (Int × Int × ByteArray × (List GExpr) × Unit)) (o1 : (Int × Int × ByteArray × (List GExpr) × Unit)) : Option (Option Nat × (Unit × Unit × Bool × Int × Unit) × ((Int × Int × ByteArray × (List GExpr) × Unit) × (Int × Int × ByteArray × (List GExpr) × Unit) × Unit)) :=
 bif (ilt i_5 (iof (@xlen .expr o0.2.2.2.1))) then
 chk (inside i_5 (iof (@xlen .expr o0.2.2.2.1))) (
 let x1 : GExpr := (@xget .expr o0.2.2.2.1 (Int.toNat i_5))
 chk (inside i_5 (iof (@xlen .expr o1.2.2.2.1))) (
 let x2 : GExpr := (@xget .expr o1.2.2.2.1 (Int.toNat i_5))
 ((r_ref17_Same (GExpr.mk x1.op x1.n x1.name x1.args) (GExpr.mk x2.op x2.n x2.name x2.args))).bind fun y3 =>
 bif (bNot y3.1) then
 some ((some 1), ((), (), false, i_5, ()), (o0, o1, ()))
 else
 some (none, ((), (), s_4, (wr .i64 (iadd i_5 1)), ()), (o0, o1, ()))))
 else
 some ((some 0), ((), (), s_4, i_5, ()), (o0, o1, ()))
def ref17_Same_L4f (n : Nat) (r_ref17_Same : GExpr → GExpr → Option (Bool × Unit)) (s : (Unit × Unit × Bool × Int × Unit) × ((Int × Int × ByteArray × (List GExpr) × Unit) × (Int × Int × ByteArray × (List GExpr) × Unit) × Unit)) := ref17_Same_L4 n r_ref17_Same s.1.1 s.1.2.1 s.1.2.2.1 s.1.2.2.2.1 s.2.1 s.2.2.1
def ref17_Same_L4m (n : Nat) (r_ref17_Same : GExpr → GExpr → Option (Bool × Unit)) : LM := ⟨53, [(2, (.ptr 0 0)), (3, (.ptr 1 0)), (4, (.ty .b)), (5, (.ty (.i .i64)))], [(.box [(.ty (.i .i64)), (.ty (.i .i64)), (.ty .s), (.ty (.sl .expr))]), (.box [(.ty (.i .i64)), (.ty (.i .i64)), (.ty .s), (.ty (.sl .expr))])], [.exit 0, .ret], fun x o => iter (ref17_Same_L4f n r_ref17_Same) n (x, o)⟩
def ref17_SameB (n : Nat) (r_ref17_Same : GExpr → GExpr → Option (Bool × Unit)) (a0 : GExpr) (b1 : GExpr) : Option (Bool × Unit) :=
 bif (bif (bif (bif (bNot (ieq a0.op b1.op)) then true else (bNot (ieq a0.n b1.n))) then true else (bNot (strEq a0.name b1.name))) then true else (bNot (ieq (iof (@xlen .expr a0.args)) (iof (@xlen .expr b1.args))))) then
 some (false, ())
 else
 ((iter (ref17_Same_L4f n r_ref17_Same) n (((), (), false, (0 : Int), ()), ((a0.op, a0.n, a0.name, a0.args, ()), (b1.op, b1.n, b1.name, b1.args, ()), ())))).bind fun z4 =>
 bif (Nat.beq z4.1 0) then
 some (true, ())
 else
 some (z4.2.1.2.2.1, ())
def ref17_Sameo : Nat → GExpr → GExpr → Option (Bool × Unit)
 | 0 => fun _ _ => none
 | n + 1 => ref17_SameB n (ref17_Sameo n)
def ref17_Same_fmr (f : GExpr → GExpr → Option (Bool × Unit)) : FM := ⟨[(.ty .expr), (.ty .expr)], [], (.ty .b), true, none, fun a o => f a.1 a.2.1⟩
def ref17_Same_fm (n : Nat) : FM := ref17_Same_fmr (ref17_Sameo n)
def ref17_Same_cx (n : Nat) (r_ref17_Same : GExpr → GExpr → Option (Bool × Unit)) : Cx := ⟨ti, ty, gl, fun g => find [] g [(79, [ref17_Same_fmr r_ref17_Same])], fun k => find none k [(4, some (ref17_Same_L4m n r_ref17_Same))], [], false, false⟩
theorem ref17_Same_L4r (n : Nat) (r_ref17_Same : GExpr → GExpr → Option (Bool × Unit)) (s : FrT (ref17_Same_L4m n r_ref17_Same).fs × ObTs (ref17_Same_L4m n r_ref17_Same).os) : ref17_Same_L4f n r_ref17_Same s = roundF { ref17_Same_cx n r_ref17_Same with res := [] } (loopOf Tryz.f79 4) (ref17_Same_L4m n r_ref17_Same) s.1 s.2 := by kernel_rfl
theorem ref17_Same_ev (n : Nat) (r_ref17_Same : GExpr → GExpr → Option (Bool × Unit)) (a : ShTs (ref17_Same_fmr r_ref17_Same).ash) (o : ObTs (ref17_Same_fmr r_ref17_Same).os) : evalF (ref17_Same_cx n r_ref17_Same) Tryz.f79 (ref17_Same_fmr r_ref17_Same) a o = ref17_SameB n r_ref17_Same a.1 a.2.1 := by kernel_rfl
def ref18_Sameo (n : Nat) (a0 : GLine) (b1 : GLine) : Option (Bool × Unit) :=
 ((bif (bif (bif (bif (bif (bif (bif (strEq a0.label b1.label) then (ieq a0.kind b1.kind) else false) then (bAnd (ieq a0.ins.op b1.ins.op) (bAnd (ieq a0.ins.cond b1.ins.cond) (bAnd (ieq a0.ins.rd b1.ins.rd) (bAnd (ieq a0.ins.rn b1.ins.rn) (bAnd (ieq a0.ins.rm b1.ins.rm) (bAnd (ieq a0.ins.imm b1.ins.imm) (bAnd (ieq a0.ins.mode b1.ins.mode) (bAnd (ieq a0.ins.list b1.ins.list) (bAnd (bEq a0.ins.s b1.ins.s) true))))))))) else false) then (ieq a0.cond b1.cond) else false) then (strEq a0.ref b1.ref) else false) then (bEq a0.wide b1.wide) else false) then (ieq a0.size b1.size) else false) then (ref17_Sameo n (GExpr.mk a0.expr.op a0.expr.n a0.expr.name a0.expr.args) (GExpr.mk b1.expr.op b1.expr.n b1.expr.name b1.expr.args)) else (some (dfS (.ty .b), dfObs [])))).bind fun y1 =>
 some ((bif (bif (bif (bif (bif (bif (bif (strEq a0.label b1.label) then (ieq a0.kind b1.kind) else false) then (bAnd (ieq a0.ins.op b1.ins.op) (bAnd (ieq a0.ins.cond b1.ins.cond) (bAnd (ieq a0.ins.rd b1.ins.rd) (bAnd (ieq a0.ins.rn b1.ins.rn) (bAnd (ieq a0.ins.rm b1.ins.rm) (bAnd (ieq a0.ins.imm b1.ins.imm) (bAnd (ieq a0.ins.mode b1.ins.mode) (bAnd (ieq a0.ins.list b1.ins.list) (bAnd (bEq a0.ins.s b1.ins.s) true))))))))) else false) then (ieq a0.cond b1.cond) else false) then (strEq a0.ref b1.ref) else false) then (bEq a0.wide b1.wide) else false) then (ieq a0.size b1.size) else false) then y1.1 else false), ())
def ref18_Same_fm (n : Nat) : FM := ⟨[(.ty .line), (.ty .line)], [], (.ty .b), true, none, fun a o => ref18_Sameo n a.1 a.2.1⟩
def ref18_Same_cx (n : Nat) : Cx := ⟨ti, ty, gl, fun g => find [] g [(79, [ref17_Same_fm n])], fun k => find none k [], [], false, false⟩
theorem ref18_Same_ev (n : Nat) (a : ShTs (ref18_Same_fm n).ash) (o : ObTs (ref18_Same_fm n).os) : evalF (ref18_Same_cx n) Tryz.f51 (ref18_Same_fm n) a o = (ref18_Same_fm n).run a o := by kernel_rfl
def ref18_Printo (n : Nat) (l0 : GLine) : Option (ByteArray × Unit) :=
 ((ref18_texto n l0)).bind fun y1 =>
 ((ref16_Lineo n y1.1)).bind fun y2 =>
 bif (bif (bNot y2.1.2.1) then true else (strEq y1.1 (⟨#[]⟩ : ByteArray))) then
 some ((⟨#[]⟩ : ByteArray), ())
 else
 ((ref18_Reado n y2.1.1 (0 : Int))).bind fun y3 =>
 ((bif (bNot (bNot (ieq y3.1.2.1 0))) then (ref18_Sameo n y3.1.1 l0) else (some (dfS (.ty .b), dfObs [])))).bind fun y4 =>
 bif (bif (bNot (ieq y3.1.2.1 0)) then true else (bNot y4.1)) then
 some ((⟨#[]⟩ : ByteArray), ())
 else
 some (y1.1, ())
def ref18_Print_fm (n : Nat) : FM := ⟨[(.ty .line)], [], (.ty .s), true, none, fun a o => ref18_Printo n a.1⟩
def ref18_Print_cx (n : Nat) : Cx := ⟨ti, ty, gl, fun g => find [] g [(97, [ref18_text_fm n]), (75, [ref16_Line_fm n]), (78, [ref18_Read_fm n]), (51, [ref18_Same_fm n])], fun k => find none k [], [], false, false⟩
theorem ref18_Print_ev (n : Nat) (a : ShTs (ref18_Print_fm n).ash) (o : ObTs (ref18_Print_fm n).os) : evalF (ref18_Print_cx n) Tryz.f71 (ref18_Print_fm n) a o = (ref18_Print_fm n).run a o := by kernel_rfl
def ref19_log_L2 (n : Nat) (n_0 : Int) (s_2 : Int) (k_3 : Int) : Option (Option Nat × (Int × Int × Int × Unit) × Unit) :=
 bif (ilt 1 n_0) then
 some (none, ((wquo .i64 n_0 2), s_2, (wr .i64 (iadd k_3 1)), ()), ())
 else
 some ((some 0), (n_0, s_2, k_3, ()), ())
def ref19_log_L2f (n : Nat) (s : (Int × Int × Int × Unit) × Unit) := ref19_log_L2 n s.1.1 s.1.2.1 s.1.2.2.1
def ref19_log_L2m (n : Nat) : LM := ⟨11, [(0, (.ty (.i .i64))), (2, (.ty (.i .i64))), (3, (.ty (.i .i64)))], [], [.exit 0], fun x o => iter (ref19_log_L2f n) n (x, o)⟩
def ref19_logo (n : Nat) (n0 : Int) : Option (Int × Unit) :=
 ((iter (ref19_log_L2f n) n ((n0, (0 : Int), (0 : Int), ()), ()))).bind fun z1 =>
 some (z1.2.1.2.2.1, ())
def ref19_log_fm (n : Nat) : FM := ⟨[(.ty (.i .i64))], [], (.ty (.i .i64)), true, none, fun a o => ref19_logo n a.1⟩
def ref19_log_cx (n : Nat) : Cx := ⟨ti, ty, gl, fun g => find [] g [], fun k => find none k [(2, some (ref19_log_L2m n))], [], false, false⟩
theorem ref19_log_L2r (n : Nat) (s : FrT (ref19_log_L2m n).fs × ObTs (ref19_log_L2m n).os) : ref19_log_L2f n s = roundF { ref19_log_cx n with res := [] } (loopOf Tryz.f74 2) (ref19_log_L2m n) s.1 s.2 := by kernel_rfl
theorem ref19_log_ev (n : Nat) (a : ShTs (ref19_log_fm n).ash) (o : ObTs (ref19_log_fm n).os) : evalF (ref19_log_cx n) Tryz.f74 (ref19_log_fm n) a o = (ref19_log_fm n).run a o := by kernel_rfl
def ref19_texto (n : Nat) (l0 : GLine) : Option (ByteArray × Unit) :=
 bif (ieq l0.kind 1) then
 bif (ieq l0.kind 1) then
 ((ref18_Printo n (⟨(⟨#[]⟩ : ByteArray), l0.kind, l0.ins, l0.cond, l0.ref, l0.wide, l0.size, (GExpr.mk l0.expr.op l0.expr.n l0.expr.name l0.expr.args)⟩ : GLine))).bind fun y1 =>
 some (y1.1, ())
 else
 bif (ieq l0.kind 3) then
 bif (ieq l0.size 2) then
 bif (ieq l0.size 1) then
 ((ref17_Printo n (GExpr.mk l0.expr.op l0.expr.n l0.expr.name l0.expr.args))).bind fun y2 =>
 chk (sroom (⟨#[46, 98, 121, 116, 101, 32]⟩ : ByteArray) y2.1) (
 some ((scat (⟨#[46, 98, 121, 116, 101, 32]⟩ : ByteArray) y2.1), ()))
 else
 ((ref17_Printo n (GExpr.mk l0.expr.op l0.expr.n l0.expr.name l0.expr.args))).bind fun y3 =>
 chk (sroom (⟨#[46, 104, 119, 111, 114, 100, 32]⟩ : ByteArray) y3.1) (
 some ((scat (⟨#[46, 104, 119, 111, 114, 100, 32]⟩ : ByteArray) y3.1), ()))
 else
 bif (ieq l0.size 1) then
 ((ref17_Printo n (GExpr.mk l0.expr.op l0.expr.n l0.expr.name l0.expr.args))).bind fun y4 =>
 chk (sroom (⟨#[46, 98, 121, 116, 101, 32]⟩ : ByteArray) y4.1) (
 some ((scat (⟨#[46, 98, 121, 116, 101, 32]⟩ : ByteArray) y4.1), ()))
 else
 ((ref17_Printo n (GExpr.mk l0.expr.op l0.expr.n l0.expr.name l0.expr.args))).bind fun y5 =>
 chk (sroom (⟨#[46, 119, 111, 114, 100, 32]⟩ : ByteArray) y5.1) (
 some ((scat (⟨#[46, 119, 111, 114, 100, 32]⟩ : ByteArray) y5.1), ()))
 else
 bif (ieq l0.kind 4) then
 ((ref19_logo n l0.size)).bind fun y6 =>
 ((ref16_Digitso n y6.1)).bind fun y7 =>
 chk (sroom (⟨#[46, 97, 108, 105, 103, 110, 32]⟩ : ByteArray) y7.1) (
 some ((scat (⟨#[46, 97, 108, 105, 103, 110, 32]⟩ : ByteArray) y7.1), ()))
 else
 bif (ieq l0.kind 5) then
 some ((⟨#[46, 108, 116, 111, 114, 103]⟩ : ByteArray), ())
 else
 bif (ieq l0.kind 6) then
 chk (sroom (⟨#[46, 101, 113, 117, 32]⟩ : ByteArray) l0.ref) (
 chk (sroom (scat (⟨#[46, 101, 113, 117, 32]⟩ : ByteArray) l0.ref) (⟨#[44, 32]⟩ : ByteArray)) (
 ((ref17_Printo n (GExpr.mk l0.expr.op l0.expr.n l0.expr.name l0.expr.args))).bind fun y8 =>
 chk (sroom (scat (scat (⟨#[46, 101, 113, 117, 32]⟩ : ByteArray) l0.ref) (⟨#[44, 32]⟩ : ByteArray)) y8.1) (
 some ((scat (scat (scat (⟨#[46, 101, 113, 117, 32]⟩ : ByteArray) l0.ref) (⟨#[44, 32]⟩ : ByteArray)) y8.1), ()))))
 else
 bif (ieq l0.kind 7) then
 ((ref16_Digitso n (imax l0.size 0))).bind fun y9 =>
 chk (sroom (⟨#[46, 115, 112, 97, 99, 101, 32]⟩ : ByteArray) y9.1) (
 some ((scat (⟨#[46, 115, 112, 97, 99, 101, 32]⟩ : ByteArray) y9.1), ()))
 else
 some ((⟨#[]⟩ : ByteArray), ())
 else
 bif (ieq l0.kind 2) then
 ((ref18_Printo n (⟨(⟨#[]⟩ : ByteArray), l0.kind, l0.ins, l0.cond, l0.ref, l0.wide, l0.size, (GExpr.mk l0.expr.op l0.expr.n l0.expr.name l0.expr.args)⟩ : GLine))).bind fun y10 =>
 some (y10.1, ())
 else
 bif (ieq l0.kind 3) then
 bif (ieq l0.size 2) then
 bif (ieq l0.size 1) then
 ((ref17_Printo n (GExpr.mk l0.expr.op l0.expr.n l0.expr.name l0.expr.args))).bind fun y11 =>
 chk (sroom (⟨#[46, 98, 121, 116, 101, 32]⟩ : ByteArray) y11.1) (
 some ((scat (⟨#[46, 98, 121, 116, 101, 32]⟩ : ByteArray) y11.1), ()))
 else
 ((ref17_Printo n (GExpr.mk l0.expr.op l0.expr.n l0.expr.name l0.expr.args))).bind fun y12 =>
 chk (sroom (⟨#[46, 104, 119, 111, 114, 100, 32]⟩ : ByteArray) y12.1) (
 some ((scat (⟨#[46, 104, 119, 111, 114, 100, 32]⟩ : ByteArray) y12.1), ()))
 else
 bif (ieq l0.size 1) then
 ((ref17_Printo n (GExpr.mk l0.expr.op l0.expr.n l0.expr.name l0.expr.args))).bind fun y13 =>
 chk (sroom (⟨#[46, 98, 121, 116, 101, 32]⟩ : ByteArray) y13.1) (
 some ((scat (⟨#[46, 98, 121, 116, 101, 32]⟩ : ByteArray) y13.1), ()))
 else
 ((ref17_Printo n (GExpr.mk l0.expr.op l0.expr.n l0.expr.name l0.expr.args))).bind fun y14 =>
 chk (sroom (⟨#[46, 119, 111, 114, 100, 32]⟩ : ByteArray) y14.1) (
 some ((scat (⟨#[46, 119, 111, 114, 100, 32]⟩ : ByteArray) y14.1), ()))
 else
 bif (ieq l0.kind 4) then
 ((ref19_logo n l0.size)).bind fun y15 =>
 ((ref16_Digitso n y15.1)).bind fun y16 =>
 chk (sroom (⟨#[46, 97, 108, 105, 103, 110, 32]⟩ : ByteArray) y16.1) (
 some ((scat (⟨#[46, 97, 108, 105, 103, 110, 32]⟩ : ByteArray) y16.1), ()))
 else
 bif (ieq l0.kind 5) then
 some ((⟨#[46, 108, 116, 111, 114, 103]⟩ : ByteArray), ())
 else
 bif (ieq l0.kind 6) then
 chk (sroom (⟨#[46, 101, 113, 117, 32]⟩ : ByteArray) l0.ref) (
 chk (sroom (scat (⟨#[46, 101, 113, 117, 32]⟩ : ByteArray) l0.ref) (⟨#[44, 32]⟩ : ByteArray)) (
 ((ref17_Printo n (GExpr.mk l0.expr.op l0.expr.n l0.expr.name l0.expr.args))).bind fun y17 =>
 chk (sroom (scat (scat (⟨#[46, 101, 113, 117, 32]⟩ : ByteArray) l0.ref) (⟨#[44, 32]⟩ : ByteArray)) y17.1) (
 some ((scat (scat (scat (⟨#[46, 101, 113, 117, 32]⟩ : ByteArray) l0.ref) (⟨#[44, 32]⟩ : ByteArray)) y17.1), ()))))
 else
 bif (ieq l0.kind 7) then
 ((ref16_Digitso n (imax l0.size 0))).bind fun y18 =>
 chk (sroom (⟨#[46, 115, 112, 97, 99, 101, 32]⟩ : ByteArray) y18.1) (
 some ((scat (⟨#[46, 115, 112, 97, 99, 101, 32]⟩ : ByteArray) y18.1), ()))
 else
 some ((⟨#[]⟩ : ByteArray), ())
def ref19_text_fm (n : Nat) : FM := ⟨[(.ty .line)], [], (.ty .s), true, none, fun a o => ref19_texto n a.1⟩
def ref19_text_cx (n : Nat) : Cx := ⟨ti, ty, gl, fun g => find [] g [(71, [ref18_Print_fm n]), (72, [ref17_Print_fm n]), (74, [ref19_log_fm n]), (73, [ref16_Digits_fm n])], fun k => find none k [], [], false, false⟩
theorem ref19_text_ev (n : Nat) (a : ShTs (ref19_text_fm n).ash) (o : ObTs (ref19_text_fm n).os) : evalF (ref19_text_cx n) Tryz.f49 (ref19_text_fm n) a o = (ref19_text_fm n).run a o := by kernel_rfl
def ref19_sizeo (w0 : ByteArray) : Option (Int × Unit) :=
 bif (strEq w0 (⟨#[46, 119, 111, 114, 100]⟩ : ByteArray)) then
 some ((4 : Int), ())
 else
 bif (strEq w0 (⟨#[46, 104, 119, 111, 114, 100]⟩ : ByteArray)) then
 some ((2 : Int), ())
 else
 bif (strEq w0 (⟨#[46, 98, 121, 116, 101]⟩ : ByteArray)) then
 some ((1 : Int), ())
 else
 some ((0 : Int), ())
theorem ref19_size_tot (w0 : ByteArray) : ∃ r, ref19_sizeo w0 = some (r, ()) := by
 unfold ref19_sizeo
 repeat' (first | exact ⟨_, rfl⟩ | refine ex_bif ?_ ?_)
def ref19_size (w0 : ByteArray) : Int := ((ref19_sizeo w0).map Prod.fst).getD (dfS (.ty (.i .i64)))
theorem ref19_size_eq (w0 : ByteArray) : ref19_sizeo w0 = some (ref19_size w0, ()) := by
 obtain ⟨r, h⟩ := ref19_size_tot w0
 unfold ref19_size; rw [h]; rfl
def ref19_size_fm : FM := ⟨[(.ty .s)], [], (.ty (.i .i64)), true, some (fun a o => ref19_size a.1), fun a o => some (ref19_size a.1, o)⟩
def ref19_size_cx : Cx := ⟨ti, ty, gl, fun g => find [] g [], fun k => find none k [], [], false, false⟩
theorem ref19_size_ev (a : ShTs (ref19_size_fm).ash) (o : ObTs (ref19_size_fm).os) : evalF (ref19_size_cx) Tryz.f105 (ref19_size_fm) a o = ref19_sizeo a.1 := by kernel_rfl
theorem ref19_size_evt (a : ShTs (ref19_size_fm).ash) (o : ObTs (ref19_size_fm).os) : evalF (ref19_size_cx) Tryz.f105 (ref19_size_fm) a o = (ref19_size_fm).run a o := (ref19_size_ev a o).trans (ref19_size_eq a.1)
def ref19_directiveo (n : Nat) (s0 : (List GTok)) : Option ((GLine × Bool × Int × Unit) × Unit) :=
 chk (inside 0 (iof (@xlen .tok s0))) (
 let x1 : GTok := (@xget .tok s0 0)
 bif (ilt 0 (ref19_size x1.text)) then
 ((ref18_R_Termo n () (s0, (1 : Int), (0 : Int), ()))).bind fun y2 =>
 bif (bif (ieq y2.2.1.2.2.1 0) then (bNot (ieq y2.2.1.2.1 (iof (@xlen .tok s0)))) else false) then
 some (((⟨(⟨#[]⟩ : ByteArray), 0, (⟨0, 0, 0, 0, 0, 0, 0, 0, false⟩ : GIns), 0, (⟨#[]⟩ : ByteArray), false, 0, (GExpr.mk 0 0 (⟨#[]⟩ : ByteArray) ([] : List GExpr))⟩ : GLine), true, (3 : Int), ()), ())
 else
 bif (bNot (ieq y2.2.1.2.2.1 0)) then
 some (((⟨(⟨#[]⟩ : ByteArray), 0, (⟨0, 0, 0, 0, 0, 0, 0, 0, false⟩ : GIns), 0, (⟨#[]⟩ : ByteArray), false, 0, (GExpr.mk 0 0 (⟨#[]⟩ : ByteArray) ([] : List GExpr))⟩ : GLine), true, y2.2.1.2.2.1, ()), ())
 else
 some (((⟨(⟨#[]⟩ : ByteArray), 3, (⟨0, 0, 0, 0, 0, 0, 0, 0, false⟩ : GIns), 0, (⟨#[]⟩ : ByteArray), false, (ref19_size x1.text), (GExpr.mk y2.1.op y2.1.n y2.1.name y2.1.args)⟩ : GLine), true, (0 : Int), ()), ())
 else
 bif (strEq x1.text (⟨#[46, 108, 116, 111, 114, 103]⟩ : ByteArray)) then
 bif (bNot (ieq 1 (iof (@xlen .tok s0)))) then
 some (((⟨(⟨#[]⟩ : ByteArray), 0, (⟨0, 0, 0, 0, 0, 0, 0, 0, false⟩ : GIns), 0, (⟨#[]⟩ : ByteArray), false, 0, (GExpr.mk 0 0 (⟨#[]⟩ : ByteArray) ([] : List GExpr))⟩ : GLine), true, (3 : Int), ()), ())
 else
 some (((⟨(⟨#[]⟩ : ByteArray), 5, (⟨0, 0, 0, 0, 0, 0, 0, 0, false⟩ : GIns), 0, (⟨#[]⟩ : ByteArray), false, 0, (GExpr.mk 0 0 (⟨#[]⟩ : ByteArray) ([] : List GExpr))⟩ : GLine), true, (0 : Int), ()), ())
 else
 bif (strEq x1.text (⟨#[46, 101, 113, 117]⟩ : ByteArray)) then
 ((ref18_R_Nameo n () (s0, (1 : Int), (0 : Int), ()))).bind fun y3 =>
 chk (bNot (bAnd (bNot (inside y3.2.1.2.1 (iof (@xlen .tok s0)))) (bAnd (ieq y3.2.1.2.2.1 0) (bNot (ile (iof (@xlen .tok s0)) y3.2.1.2.1))))) (
 let x4 : GTok := (@xget .tok s0 (Int.toNat y3.2.1.2.1))
 chk (bNot (bAnd (bNot (inside y3.2.1.2.1 (iof (@xlen .tok s0)))) (bAnd (ieq y3.2.1.2.2.1 0) (bNot (bif (ile (iof (@xlen .tok s0)) y3.2.1.2.1) then true else (bNot (ieq x4.kind 3))))))) (
 let x5 : GTok := (@xget .tok s0 (Int.toNat y3.2.1.2.1))
 bif (bif (ieq y3.2.1.2.2.1 0) then (bif (bif (ile (iof (@xlen .tok s0)) y3.2.1.2.1) then true else (bNot (ieq x4.kind 3))) then true else (bNot (strEq x5.text (⟨#[44]⟩ : ByteArray)))) else false) then
 ((ref18_R_Termo n () (y3.2.1.1, (wr .i64 (iadd y3.2.1.2.1 1)), (3 : Int), ()))).bind fun y6 =>
 bif (bif (ieq y6.2.1.2.2.1 0) then (bNot (ieq y6.2.1.2.1 (iof (@xlen .tok s0)))) else false) then
 some (((⟨(⟨#[]⟩ : ByteArray), 0, (⟨0, 0, 0, 0, 0, 0, 0, 0, false⟩ : GIns), 0, (⟨#[]⟩ : ByteArray), false, 0, (GExpr.mk 0 0 (⟨#[]⟩ : ByteArray) ([] : List GExpr))⟩ : GLine), true, (3 : Int), ()), ())
 else
 bif (bNot (ieq y6.2.1.2.2.1 0)) then
 some (((⟨(⟨#[]⟩ : ByteArray), 0, (⟨0, 0, 0, 0, 0, 0, 0, 0, false⟩ : GIns), 0, (⟨#[]⟩ : ByteArray), false, 0, (GExpr.mk 0 0 (⟨#[]⟩ : ByteArray) ([] : List GExpr))⟩ : GLine), true, y6.2.1.2.2.1, ()), ())
 else
 some (((⟨(⟨#[]⟩ : ByteArray), 6, (⟨0, 0, 0, 0, 0, 0, 0, 0, false⟩ : GIns), 0, y3.1, false, 0, (GExpr.mk y6.1.op y6.1.n y6.1.name y6.1.args)⟩ : GLine), true, (0 : Int), ()), ())
 else
 ((ref18_R_Termo n () (y3.2.1.1, (wr .i64 (iadd y3.2.1.2.1 1)), y3.2.1.2.2.1, ()))).bind fun y7 =>
 bif (bif (ieq y7.2.1.2.2.1 0) then (bNot (ieq y7.2.1.2.1 (iof (@xlen .tok s0)))) else false) then
 some (((⟨(⟨#[]⟩ : ByteArray), 0, (⟨0, 0, 0, 0, 0, 0, 0, 0, false⟩ : GIns), 0, (⟨#[]⟩ : ByteArray), false, 0, (GExpr.mk 0 0 (⟨#[]⟩ : ByteArray) ([] : List GExpr))⟩ : GLine), true, (3 : Int), ()), ())
 else
 bif (bNot (ieq y7.2.1.2.2.1 0)) then
 some (((⟨(⟨#[]⟩ : ByteArray), 0, (⟨0, 0, 0, 0, 0, 0, 0, 0, false⟩ : GIns), 0, (⟨#[]⟩ : ByteArray), false, 0, (GExpr.mk 0 0 (⟨#[]⟩ : ByteArray) ([] : List GExpr))⟩ : GLine), true, y7.2.1.2.2.1, ()), ())
 else
 some (((⟨(⟨#[]⟩ : ByteArray), 6, (⟨0, 0, 0, 0, 0, 0, 0, 0, false⟩ : GIns), 0, y3.1, false, 0, (GExpr.mk y7.1.op y7.1.n y7.1.name y7.1.args)⟩ : GLine), true, (0 : Int), ()), ())))
 else
 bif (bif (strEq x1.text (⟨#[46, 97, 108, 105, 103, 110]⟩ : ByteArray)) then true else (strEq x1.text (⟨#[46, 115, 112, 97, 99, 101]⟩ : ByteArray))) then
 chk (bNot (bAnd (bNot (inside 1 (iof (@xlen .tok s0)))) (bNot (bNot (ieq (iof (@xlen .tok s0)) 2))))) (
 let x8 : GTok := (@xget .tok s0 1)
 bif (bif (bNot (ieq (iof (@xlen .tok s0)) 2)) then true else (bNot (ieq x8.kind 2))) then
 some (((⟨(⟨#[]⟩ : ByteArray), 0, (⟨0, 0, 0, 0, 0, 0, 0, 0, false⟩ : GIns), 0, (⟨#[]⟩ : ByteArray), false, 0, (GExpr.mk 0 0 (⟨#[]⟩ : ByteArray) ([] : List GExpr))⟩ : GLine), true, (3 : Int), ()), ())
 else
 chk (inside 1 (iof (@xlen .tok s0))) (
 let x9 : GTok := (@xget .tok s0 1)
 bif (strEq x1.text (⟨#[46, 97, 108, 105, 103, 110]⟩ : ByteArray)) then
 chk (ile 0 (wr .u64 (wrem x9.n 16))) (
 bif (bNot (ieq 2 (iof (@xlen .tok s0)))) then
 some (((⟨(⟨#[]⟩ : ByteArray), 0, (⟨0, 0, 0, 0, 0, 0, 0, 0, false⟩ : GIns), 0, (⟨#[]⟩ : ByteArray), false, 0, (GExpr.mk 0 0 (⟨#[]⟩ : ByteArray) ([] : List GExpr))⟩ : GLine), true, (3 : Int), ()), ())
 else
 bif (bif (ilt x9.n 1) then true else (ilt 8 x9.n)) then
 some (((⟨(⟨#[]⟩ : ByteArray), 0, (⟨0, 0, 0, 0, 0, 0, 0, 0, false⟩ : GIns), 0, (⟨#[]⟩ : ByteArray), false, 0, (GExpr.mk 0 0 (⟨#[]⟩ : ByteArray) ([] : List GExpr))⟩ : GLine), true, (2 : Int), ()), ())
 else
 some (((⟨(⟨#[]⟩ : ByteArray), 4, (⟨0, 0, 0, 0, 0, 0, 0, 0, false⟩ : GIns), 0, (⟨#[]⟩ : ByteArray), false, (wshl .i64 1 (wr .u64 (wrem x9.n 16))), (GExpr.mk 0 0 (⟨#[]⟩ : ByteArray) ([] : List GExpr))⟩ : GLine), true, (0 : Int), ()), ()))
 else
 bif (bNot (ieq 2 (iof (@xlen .tok s0)))) then
 some (((⟨(⟨#[]⟩ : ByteArray), 0, (⟨0, 0, 0, 0, 0, 0, 0, 0, false⟩ : GIns), 0, (⟨#[]⟩ : ByteArray), false, 0, (GExpr.mk 0 0 (⟨#[]⟩ : ByteArray) ([] : List GExpr))⟩ : GLine), true, (3 : Int), ()), ())
 else
 bif (ilt 1048576 x9.n) then
 some (((⟨(⟨#[]⟩ : ByteArray), 0, (⟨0, 0, 0, 0, 0, 0, 0, 0, false⟩ : GIns), 0, (⟨#[]⟩ : ByteArray), false, 0, (GExpr.mk 0 0 (⟨#[]⟩ : ByteArray) ([] : List GExpr))⟩ : GLine), true, (2 : Int), ()), ())
 else
 some (((⟨(⟨#[]⟩ : ByteArray), 7, (⟨0, 0, 0, 0, 0, 0, 0, 0, false⟩ : GIns), 0, (⟨#[]⟩ : ByteArray), false, x9.n, (GExpr.mk 0 0 (⟨#[]⟩ : ByteArray) ([] : List GExpr))⟩ : GLine), true, (0 : Int), ()), ())))
 else
 some (((⟨(⟨#[]⟩ : ByteArray), 0, (⟨0, 0, 0, 0, 0, 0, 0, 0, false⟩ : GIns), 0, (⟨#[]⟩ : ByteArray), false, 0, (GExpr.mk 0 0 (⟨#[]⟩ : ByteArray) ([] : List GExpr))⟩ : GLine), false, (0 : Int), ()), ()))
def ref19_directive_fm (n : Nat) : FM := ⟨[(.ty (.sl .tok))], [], (.tup [(.ty .line), (.ty .b), (.ty (.i .i64))]), true, none, fun a o => ref19_directiveo n a.1⟩
def ref19_directive_cx (n : Nat) : Cx := ⟨ti, ty, gl, fun g => find [] g [(105, [ref19_size_fm]), (106, [ref18_R_Term_fm n]), (107, [ref18_R_Name_fm n])], fun k => find none k [], [], false, false⟩
theorem ref19_directive_ev (n : Nat) (a : ShTs (ref19_directive_fm n).ash) (o : ObTs (ref19_directive_fm n).os) : evalF (ref19_directive_cx n) Tryz.f77 (ref19_directive_fm n) a o = (ref19_directive_fm n).run a o := by kernel_rfl
def ref19_Oneo (n : Nat) (s0 : ByteArray) : Option ((GLine × Int × Unit) × Unit) :=
 ((ref16_Lineo n s0)).bind fun y1 =>
 bif (bNot y1.1.2.1) then
 some (((⟨(⟨#[]⟩ : ByteArray), 0, (⟨0, 0, 0, 0, 0, 0, 0, 0, false⟩ : GIns), 0, (⟨#[]⟩ : ByteArray), false, 0, (GExpr.mk 0 0 (⟨#[]⟩ : ByteArray) ([] : List GExpr))⟩ : GLine), (3 : Int), ()), ())
 else
 chk (bNot (bAnd (bNot (inside 0 (iof (@xlen .tok y1.1.1)))) (ilt 1 (iof (@xlen .tok y1.1.1))))) (
 let x2 : GTok := (@xget .tok y1.1.1 0)
 chk (bNot (bAnd (bNot (inside 1 (iof (@xlen .tok y1.1.1)))) (bif (ilt 1 (iof (@xlen .tok y1.1.1))) then (ieq x2.kind 1) else false))) (
 let x3 : GTok := (@xget .tok y1.1.1 1)
 chk (bNot (bAnd (bNot (inside 1 (iof (@xlen .tok y1.1.1)))) (bif (bif (ilt 1 (iof (@xlen .tok y1.1.1))) then (ieq x2.kind 1) else false) then (ieq x3.kind 3) else false))) (
 let x4 : GTok := (@xget .tok y1.1.1 1)
 chk (bNot (bAnd (bNot (inside 0 (iof (@xlen .tok y1.1.1)))) (bif (bif (bif (ilt 1 (iof (@xlen .tok y1.1.1))) then (ieq x2.kind 1) else false) then (ieq x3.kind 3) else false) then (strEq x4.text (⟨#[58]⟩ : ByteArray)) else false))) (
 let x5 : GTok := (@xget .tok y1.1.1 0)
 ((bif (bif (bif (bif (ilt 1 (iof (@xlen .tok y1.1.1))) then (ieq x2.kind 1) else false) then (ieq x3.kind 3) else false) then (strEq x4.text (⟨#[58]⟩ : ByteArray)) else false) then (ref16_Nameo n x5.text) else (some (dfS (.ty .b), dfObs [])))).bind fun y6 =>
 bif (bif (bif (bif (bif (ilt 1 (iof (@xlen .tok y1.1.1))) then (ieq x2.kind 1) else false) then (ieq x3.kind 3) else false) then (strEq x4.text (⟨#[58]⟩ : ByteArray)) else false) then y6.1 else false) then
 chk (inside 0 (iof (@xlen .tok y1.1.1))) (
 let x7 : GTok := (@xget .tok y1.1.1 0)
 chk (bounds 2 (iof (@xlen .tok y1.1.1)) (iof (@xlen .tok y1.1.1))) (
 bif (ieq (iof (@xlen .tok (@xdrop .tok y1.1.1 2))) 0) then
 some (((⟨x7.text, 0, (⟨0, 0, 0, 0, 0, 0, 0, 0, false⟩ : GIns), 0, (⟨#[]⟩ : ByteArray), false, 0, (GExpr.mk 0 0 (⟨#[]⟩ : ByteArray) ([] : List GExpr))⟩ : GLine), (0 : Int), ()), ())
 else
 chk (inside 0 (iof (@xlen .tok (@xdrop .tok y1.1.1 2)))) (
 let x8 : GTok := (@xget .tok (@xdrop .tok y1.1.1 2) 0)
 bif (bNot (ieq x8.kind 1)) then
 some (((⟨(⟨#[]⟩ : ByteArray), 0, (⟨0, 0, 0, 0, 0, 0, 0, 0, false⟩ : GIns), 0, (⟨#[]⟩ : ByteArray), false, 0, (GExpr.mk 0 0 (⟨#[]⟩ : ByteArray) ([] : List GExpr))⟩ : GLine), (3 : Int), ()), ())
 else
 ((ref19_directiveo n (@xdrop .tok y1.1.1 2))).bind fun y9 =>
 bif (bNot y9.1.2.1) then
 ((ref18_Reado n (@xdrop .tok y1.1.1 2) (0 : Int))).bind fun y10 =>
 bif (bNot (ieq y10.1.2.1 0)) then
 some (((⟨(⟨#[]⟩ : ByteArray), 0, (⟨0, 0, 0, 0, 0, 0, 0, 0, false⟩ : GIns), 0, (⟨#[]⟩ : ByteArray), false, 0, (GExpr.mk 0 0 (⟨#[]⟩ : ByteArray) ([] : List GExpr))⟩ : GLine), y10.1.2.1, ()), ())
 else
 some (((⟨x7.text, y10.1.1.kind, y10.1.1.ins, y10.1.1.cond, y10.1.1.ref, y10.1.1.wide, y10.1.1.size, (GExpr.mk y10.1.1.expr.op y10.1.1.expr.n y10.1.1.expr.name y10.1.1.expr.args)⟩ : GLine), (0 : Int), ()), ())
 else
 bif (bNot (ieq y9.1.2.2.1 0)) then
 some (((⟨(⟨#[]⟩ : ByteArray), 0, (⟨0, 0, 0, 0, 0, 0, 0, 0, false⟩ : GIns), 0, (⟨#[]⟩ : ByteArray), false, 0, (GExpr.mk 0 0 (⟨#[]⟩ : ByteArray) ([] : List GExpr))⟩ : GLine), y9.1.2.2.1, ()), ())
 else
 some (((⟨x7.text, y9.1.1.kind, y9.1.1.ins, y9.1.1.cond, y9.1.1.ref, y9.1.1.wide, y9.1.1.size, (GExpr.mk y9.1.1.expr.op y9.1.1.expr.n y9.1.1.expr.name y9.1.1.expr.args)⟩ : GLine), (0 : Int), ()), ()))))
 else
 bif (ieq (iof (@xlen .tok y1.1.1)) 0) then
 some (((⟨(⟨#[]⟩ : ByteArray), 0, (⟨0, 0, 0, 0, 0, 0, 0, 0, false⟩ : GIns), 0, (⟨#[]⟩ : ByteArray), false, 0, (GExpr.mk 0 0 (⟨#[]⟩ : ByteArray) ([] : List GExpr))⟩ : GLine), (0 : Int), ()), ())
 else
 chk (inside 0 (iof (@xlen .tok y1.1.1))) (
 let x11 : GTok := (@xget .tok y1.1.1 0)
 bif (bNot (ieq x11.kind 1)) then
 some (((⟨(⟨#[]⟩ : ByteArray), 0, (⟨0, 0, 0, 0, 0, 0, 0, 0, false⟩ : GIns), 0, (⟨#[]⟩ : ByteArray), false, 0, (GExpr.mk 0 0 (⟨#[]⟩ : ByteArray) ([] : List GExpr))⟩ : GLine), (3 : Int), ()), ())
 else
 ((ref19_directiveo n y1.1.1)).bind fun y12 =>
 bif (bNot y12.1.2.1) then
 ((ref18_Reado n y1.1.1 (0 : Int))).bind fun y13 =>
 bif (bNot (ieq y13.1.2.1 0)) then
 some (((⟨(⟨#[]⟩ : ByteArray), 0, (⟨0, 0, 0, 0, 0, 0, 0, 0, false⟩ : GIns), 0, (⟨#[]⟩ : ByteArray), false, 0, (GExpr.mk 0 0 (⟨#[]⟩ : ByteArray) ([] : List GExpr))⟩ : GLine), y13.1.2.1, ()), ())
 else
 some (((⟨(⟨#[]⟩ : ByteArray), y13.1.1.kind, y13.1.1.ins, y13.1.1.cond, y13.1.1.ref, y13.1.1.wide, y13.1.1.size, (GExpr.mk y13.1.1.expr.op y13.1.1.expr.n y13.1.1.expr.name y13.1.1.expr.args)⟩ : GLine), (0 : Int), ()), ())
 else
 bif (bNot (ieq y12.1.2.2.1 0)) then
 some (((⟨(⟨#[]⟩ : ByteArray), 0, (⟨0, 0, 0, 0, 0, 0, 0, 0, false⟩ : GIns), 0, (⟨#[]⟩ : ByteArray), false, 0, (GExpr.mk 0 0 (⟨#[]⟩ : ByteArray) ([] : List GExpr))⟩ : GLine), y12.1.2.2.1, ()), ())
 else
 some (((⟨(⟨#[]⟩ : ByteArray), y12.1.1.kind, y12.1.1.ins, y12.1.1.cond, y12.1.1.ref, y12.1.1.wide, y12.1.1.size, (GExpr.mk y12.1.1.expr.op y12.1.1.expr.n y12.1.1.expr.name y12.1.1.expr.args)⟩ : GLine), (0 : Int), ()), ()))))))
def ref19_One_fm (n : Nat) : FM := ⟨[(.ty .s)], [], (.tup [(.ty .line), (.ty (.i .i64))]), true, none, fun a o => ref19_Oneo n a.1⟩
def ref19_One_cx (n : Nat) : Cx := ⟨ti, ty, gl, fun g => find [] g [(75, [ref16_Line_fm n]), (76, [ref16_Name_fm n]), (77, [ref19_directive_fm n]), (78, [ref18_Read_fm n])], fun k => find none k [], [], false, false⟩
theorem ref19_One_ev (n : Nat) (a : ShTs (ref19_One_fm n).ash) (o : ObTs (ref19_One_fm n).os) : evalF (ref19_One_cx n) Tryz.f50 (ref19_One_fm n) a o = (ref19_One_fm n).run a o := by kernel_rfl
def ref19_Lineo (n : Nat) (l0 : GLine) : Option ((ByteArray × Bool × Unit) × Unit) :=
 ((ref19_texto n l0)).bind fun y1 =>
 bif (bNot (strEq l0.label (⟨#[]⟩ : ByteArray))) then
 bif (strEq y1.1 (⟨#[]⟩ : ByteArray)) then
 chk (sroom l0.label (⟨#[58]⟩ : ByteArray)) (
 ((ref19_Oneo n (scat l0.label (⟨#[58]⟩ : ByteArray)))).bind fun y2 =>
 ((bif (ieq y2.1.2.1 0) then (ref18_Sameo n y2.1.1 l0) else (some (dfS (.ty .b), dfObs [])))).bind fun y3 =>
 some (((scat l0.label (⟨#[58]⟩ : ByteArray)), (bif (ieq y2.1.2.1 0) then y3.1 else false), ()), ()))
 else
 chk (sroom l0.label (⟨#[58, 32]⟩ : ByteArray)) (
 chk (sroom (scat l0.label (⟨#[58, 32]⟩ : ByteArray)) y1.1) (
 ((ref19_Oneo n (scat (scat l0.label (⟨#[58, 32]⟩ : ByteArray)) y1.1))).bind fun y4 =>
 ((bif (ieq y4.1.2.1 0) then (ref18_Sameo n y4.1.1 l0) else (some (dfS (.ty .b), dfObs [])))).bind fun y5 =>
 some (((scat (scat l0.label (⟨#[58, 32]⟩ : ByteArray)) y1.1), (bif (ieq y4.1.2.1 0) then y5.1 else false), ()), ())))
 else
 ((ref19_Oneo n y1.1)).bind fun y6 =>
 ((bif (ieq y6.1.2.1 0) then (ref18_Sameo n y6.1.1 l0) else (some (dfS (.ty .b), dfObs [])))).bind fun y7 =>
 some ((y1.1, (bif (ieq y6.1.2.1 0) then y7.1 else false), ()), ())
def ref19_Line_fm (n : Nat) : FM := ⟨[(.ty .line)], [], (.tup [(.ty .s), (.ty .b)]), true, none, fun a o => ref19_Lineo n a.1⟩
def ref19_Line_cx (n : Nat) : Cx := ⟨ti, ty, gl, fun g => find [] g [(49, [ref19_text_fm n]), (50, [ref19_One_fm n]), (51, [ref18_Same_fm n])], fun k => find none k [], [], false, false⟩
theorem ref19_Line_ev (n : Nat) (a : ShTs (ref19_Line_fm n).ash) (o : ObTs (ref19_Line_fm n).os) : evalF (ref19_Line_cx n) Tryz.f21 (ref19_Line_fm n) a o = (ref19_Line_fm n).run a o := by kernel_rfl
def law23_May_L5 (n : Nat) (l_0 : (List GLine)) (s_2 : Int) (n_3 : Int) (i_4 : Int) : Option (Option Nat × ((List GLine) × Int × Int × Int × Unit) × Unit) :=
 bif (ilt i_4 (iof (@xlen .line l_0))) then
 chk (inside i_4 (iof (@xlen .line l_0))) (
 let x2 : GLine := (@xget .line l_0 (Int.toNat i_4))
 ((ref19_Lineo n x2)).bind fun y3 =>
 bif (bNot y3.1.2.1) then
 some ((some 1), (l_0, (0 : Int), n_3, i_4, ()), ())
 else
 chk (inside i_4 (iof (@xlen .line l_0))) (
 let x4 : GLine := (@xget .line l_0 (Int.toNat i_4))
 some (none, (l_0, s_2, (wr .i64 (iadd n_3 x4.size)), (wr .i64 (iadd i_4 1)), ()), ())))
 else
 some ((some 0), (l_0, s_2, n_3, i_4, ()), ())
def law23_May_L5f (n : Nat) (s : ((List GLine) × Int × Int × Int × Unit) × Unit) := law23_May_L5 n s.1.1 s.1.2.1 s.1.2.2.1 s.1.2.2.2.1
def law23_May_L5m (n : Nat) : LM := ⟨40, [(0, (.ty (.sl .line))), (2, (.ty (.i .i64))), (3, (.ty (.i .i64))), (4, (.ty (.i .i64)))], [], [.exit 0, .ret], fun x o => iter (law23_May_L5f n) n (x, o)⟩
def law23_Mayo (n : Nat) (l0 : (List GLine)) : Option (Int × Unit) :=
 ((law19_Fewo n l0)).bind fun y1 =>
 bif (bif (ieq y1.1 0) then true else (ilt 60 (iof (@xlen .line l0)))) then
 some ((0 : Int), ())
 else
 ((iter (law23_May_L5f n) n ((l0, (0 : Int), (0 : Int), (0 : Int), ()), ()))).bind fun z5 =>
 bif (Nat.beq z5.1 0) then
 bif (ilt 3145728 z5.2.1.2.2.1) then
 some ((0 : Int), ())
 else
 some ((1 : Int), ())
 else
 some (z5.2.1.2.1, ())
def law23_May_fm (n : Nat) : FM := ⟨[(.ty (.sl .line))], [], (.ty (.i .i64)), true, none, fun a o => law23_Mayo n a.1⟩
def law23_May_cx (n : Nat) : Cx := ⟨ti, ty, gl, fun g => find [] g [(20, [law19_Few_fm n]), (21, [ref19_Line_fm n])], fun k => find none k [(5, some (law23_May_L5m n))], [], false, false⟩
theorem law23_May_L5r (n : Nat) (s : FrT (law23_May_L5m n).fs × ObTs (law23_May_L5m n).os) : law23_May_L5f n s = roundF { law23_May_cx n with res := [] } (loopOf Tryz.f6 5) (law23_May_L5m n) s.1 s.2 := by kernel_rfl
theorem law23_May_ev (n : Nat) (a : ShTs (law23_May_fm n).ash) (o : ObTs (law23_May_fm n).os) : evalF (law23_May_cx n) Tryz.f6 (law23_May_fm n) a o = (law23_May_fm n).run a o := by kernel_rfl
def blocks_inso (l0 : GLine) : Option (Bool × Unit) :=
 some ((bif (ieq l0.kind 1) then true else (ieq l0.kind 2)), ())
theorem blocks_ins_tot (l0 : GLine) : ∃ r, blocks_inso l0 = some (r, ()) := by
 unfold blocks_inso
 repeat' (first | exact ⟨_, rfl⟩ | refine ex_bif ?_ ?_)
def blocks_ins (l0 : GLine) : Bool := ((blocks_inso l0).map Prod.fst).getD (dfS (.ty .b))
theorem blocks_ins_eq (l0 : GLine) : blocks_inso l0 = some (blocks_ins l0, ()) := by
 obtain ⟨r, h⟩ := blocks_ins_tot l0
 unfold blocks_ins; rw [h]; rfl
def blocks_ins_fm : FM := ⟨[(.ty .line)], [], (.ty .b), true, some (fun a o => blocks_ins a.1), fun a o => some (blocks_ins a.1, o)⟩
def blocks_ins_cx : Cx := ⟨ti, ty, gl, fun g => find [] g [], fun k => find none k [], [], false, false⟩
theorem blocks_ins_ev (a : ShTs (blocks_ins_fm).ash) (o : ObTs (blocks_ins_fm).os) : evalF (blocks_ins_cx) Tryz.f80 (blocks_ins_fm) a o = blocks_inso a.1 := by kernel_rfl
theorem blocks_ins_evt (a : ShTs (blocks_ins_fm).ash) (o : ObTs (blocks_ins_fm).os) : evalF (blocks_ins_cx) Tryz.f80 (blocks_ins_fm) a o = (blocks_ins_fm).run a o := (blocks_ins_ev a o).trans (blocks_ins_eq a.1)
def conds_Nexto (it0 : Int) : Option (Int × Unit) :=
 bif (ieq (wand .i64 it0 7) 0) then
 some ((0 : Int), ())
 else
 some ((wor .i64 (wand .i64 it0 224) (wand .i64 (wshl .i64 it0 1) 31)), ())
theorem conds_Next_tot (it0 : Int) : ∃ r, conds_Nexto it0 = some (r, ()) := by
 unfold conds_Nexto
 repeat' (first | exact ⟨_, rfl⟩ | refine ex_bif ?_ ?_)
def conds_Next (it0 : Int) : Int := ((conds_Nexto it0).map Prod.fst).getD (dfS (.ty (.i .i64)))
theorem conds_Next_eq (it0 : Int) : conds_Nexto it0 = some (conds_Next it0, ()) := by
 obtain ⟨r, h⟩ := conds_Next_tot it0
 unfold conds_Next; rw [h]; rfl
def conds_Next_fm : FM := ⟨[(.ty (.i .i64))], [], (.ty (.i .i64)), true, some (fun a o => conds_Next a.1), fun a o => some (conds_Next a.1, o)⟩
def conds_Next_cx : Cx := ⟨ti, ty, gl, fun g => find [] g [], fun k => find none k [], [], false, false⟩
theorem conds_Next_ev (a : ShTs (conds_Next_fm).ash) (o : ObTs (conds_Next_fm).os) : evalF (conds_Next_cx) Tryz.f114 (conds_Next_fm) a o = conds_Nexto a.1 := by kernel_rfl
theorem conds_Next_evt (a : ShTs (conds_Next_fm).ash) (o : ObTs (conds_Next_fm).os) : evalF (conds_Next_cx) Tryz.f114 (conds_Next_fm) a o = (conds_Next_fm).run a o := (conds_Next_ev a o).trans (conds_Next_eq a.1)
def conds_Conds_L5 (n : Nat) (s_4 : (List Int)) (out_5 : (List Int)) (it_6 : Int) : Option (Option Nat × ((List Int) × (List Int) × Int × Unit) × Unit) :=
 bif (bNot (ieq (wand .i64 it_6 7) 0)) then
 bif (ieq (wshr .i64 (conds_Next it_6) 4) 15) then
 some ((some 1), (([] : List Int), out_5, (conds_Next it_6), ()), ())
 else
 chk (room ((@xlen (.i .i64) out_5) + (@xlen (.i .i64) ([(wshr .i64 (conds_Next it_6) 4)] : List Int))) 8) (
 some (none, (s_4, (@xapp (.i .i64) out_5 ([(wshr .i64 (conds_Next it_6) 4)] : List Int)), (conds_Next it_6), ()), ()))
 else
 some ((some 0), (s_4, out_5, it_6, ()), ())
def conds_Conds_L5f (n : Nat) (s : ((List Int) × (List Int) × Int × Unit) × Unit) := conds_Conds_L5 n s.1.1 s.1.2.1 s.1.2.2.1
def conds_Conds_L5m (n : Nat) : LM := ⟨41, [(4, (.own (.i .i64))), (5, (.own (.i .i64))), (6, (.ty (.i .i64)))], [], [.exit 0, .ret], fun x o => iter (conds_Conds_L5f n) n (x, o)⟩
def conds_Condso (n : Nat) (c0 : Int) (mask1 : Int) : Option ((List Int) × Unit) :=
 bif (bif (bif (bif (ilt c0 0) then true else (ilt 14 c0)) then true else (ilt mask1 1)) then true else (ilt 15 mask1)) then
 some (([] : List Int), ())
 else
 ((iter (conds_Conds_L5f n) n ((([] : List Int), ([c0] : List Int), (wor .i64 (wshl .i64 c0 4) mask1), ()), ()))).bind fun z1 =>
 bif (Nat.beq z1.1 0) then
 some (z1.2.1.2.1, ())
 else
 some (z1.2.1.1, ())
def conds_Conds_fm (n : Nat) : FM := ⟨[(.ty (.i .i64)), (.ty (.i .i64))], [], (.own (.i .i64)), true, none, fun a o => conds_Condso n a.1 a.2.1⟩
def conds_Conds_cx (n : Nat) : Cx := ⟨ti, ty, gl, fun g => find [] g [(114, [conds_Next_fm])], fun k => find none k [(5, some (conds_Conds_L5m n))], [], false, true⟩
theorem conds_Conds_L5r (n : Nat) (s : FrT (conds_Conds_L5m n).fs × ObTs (conds_Conds_L5m n).os) : conds_Conds_L5f n s = roundF { conds_Conds_cx n with res := [] } (loopOf Tryz.f81 5) (conds_Conds_L5m n) s.1 s.2 := by kernel_rfl
theorem conds_Conds_ev (n : Nat) (a : ShTs (conds_Conds_fm n).ash) (o : ObTs (conds_Conds_fm n).os) : evalF (conds_Conds_cx n) Tryz.f81 (conds_Conds_fm n) a o = (conds_Conds_fm n).run a o := by kernel_rfl
def blocks_asked_L4 (n : Nat) (s_2 : (List Int)) (s_3 : Bool) (out_4 : Unit) (left_5 : (List Int)) (s_11 : (List GLine)) (s_12 : Int) (s_13 : Int) (o0 : (List Int)) : Option (Option Nat × ((List Int) × Bool × Unit × (List Int) × (List GLine) × Int × Int × Unit) × ((List Int) × Unit)) :=
 bif (ilt s_13 s_12) then
 chk (inside s_13 (iof (@xlen .line s_11))) (
 let x3 : GLine := (@xget .line s_11 (Int.toNat s_13))
 chk (inside s_13 (iof (@xlen (.i .i64) o0))) (
 bif (bNot (blocks_ins x3)) then
 some (none, (s_2, s_3, (), left_5, s_11, s_12, (wr .i64 (iadd s_13 1)), ()), ((@xset (.i .i64) o0 (Int.toNat s_13) ((-1) : Int)), ()))
 else
 bif (ilt 0 (iof (@xlen (.i .i64) left_5))) then
 chk (inside 0 (iof (@xlen (.i .i64) left_5))) (
 chk (bounds 1 (iof (@xlen (.i .i64) left_5)) (iof (@xlen (.i .i64) left_5))) (
 chk (inside s_13 (iof (@xlen (.i .i64) (@xset (.i .i64) o0 (Int.toNat s_13) ((-1) : Int))))) (
 some (none, (s_2, s_3, (), (@xdrop (.i .i64) left_5 1), s_11, s_12, (wr .i64 (iadd s_13 1)), ()), ((@xset (.i .i64) (@xset (.i .i64) o0 (Int.toNat s_13) ((-1) : Int)) (Int.toNat s_13) (@xget (.i .i64) left_5 0)), ())))))
 else
 bif (bif (ieq x3.kind 1) then (ieq x3.ins.op 42) else false) then
 ((conds_Condso n x3.ins.cond x3.ins.imm)).bind fun y4 =>
 some (none, (s_2, s_3, (), y4.1, s_11, s_12, (wr .i64 (iadd s_13 1)), ()), ((@xset (.i .i64) o0 (Int.toNat s_13) ((-1) : Int)), ()))
 else
 some (none, (s_2, s_3, (), left_5, s_11, s_12, (wr .i64 (iadd s_13 1)), ()), ((@xset (.i .i64) o0 (Int.toNat s_13) ((-1) : Int)), ()))))
 else
 some ((some 0), (s_2, s_3, (), left_5, s_11, s_12, s_13, ()), (o0, ()))
def blocks_asked_L4f (n : Nat) (s : ((List Int) × Bool × Unit × (List Int) × (List GLine) × Int × Int × Unit) × ((List Int) × Unit)) := blocks_asked_L4 n s.1.1 s.1.2.1 s.1.2.2.1 s.1.2.2.2.1 s.1.2.2.2.2.1 s.1.2.2.2.2.2.1 s.1.2.2.2.2.2.2.1 s.2.1
def blocks_asked_L4m (n : Nat) : LM := ⟨59, [(2, (.own (.i .i64))), (3, (.ty .b)), (4, (.ms 0)), (5, (.ty (.sl (.i .i64)))), (11, (.ty (.sl .line))), (12, (.ty (.i .i64))), (13, (.ty (.i .i64)))], [(.arr (.i .i64))], [.exit 0], fun x o => iter (blocks_asked_L4f n) n (x, o)⟩
def blocks_askedo (n : Nat) (l0 : (List GLine)) : Option (((List Int) × Bool × Unit) × Unit) :=
 chk (bAnd (ieq (iof (@xlen .line l0)) (iof (@xlen .line l0))) (bAnd (ile 0 (iof (@xlen .line l0))) (room (Int.toNat (iof (@xlen .line l0))) 8))) (
 ((iter (blocks_asked_L4f n) n ((([] : List Int), false, (), ([] : List Int), l0, (iof (@xlen .line l0)), (0 : Int), ()), ((xrep (.i .i64) (Int.toNat (iof (@xlen .line l0)))), ())))).bind fun z5 =>
 some ((z5.2.2.1, (ilt 0 (iof (@xlen (.i .i64) z5.2.1.2.2.2.1))), ()), ()))
def blocks_asked_fm (n : Nat) : FM := ⟨[(.ty (.sl .line))], [], (.tup [(.ty (.sl (.i .i64))), (.ty .b)]), true, none, fun a o => blocks_askedo n a.1⟩
def blocks_asked_cx (n : Nat) : Cx := ⟨ti, ty, gl, fun g => find [] g [(80, [blocks_ins_fm]), (81, [conds_Conds_fm n])], fun k => find none k [(4, some (blocks_asked_L4m n))], [], false, false⟩
theorem blocks_asked_L4r (n : Nat) (s : FrT (blocks_asked_L4m n).fs × ObTs (blocks_asked_L4m n).os) : blocks_asked_L4f n s = roundF { blocks_asked_cx n with res := [] } (loopOf Tryz.f52 4) (blocks_asked_L4m n) s.1 s.2 := by kernel_rfl
theorem blocks_asked_ev (n : Nat) (a : ShTs (blocks_asked_fm n).ash) (o : ObTs (blocks_asked_fm n).os) : evalF (blocks_asked_cx n) Tryz.f52 (blocks_asked_fm n) a o = (blocks_asked_fm n).run a o := by kernel_rfl
def blocks_Inside_L4 (n : Nat) (s_2 : (List Bool)) (c_3 : (List Int)) (out_5 : Unit) (s_16 : Int) (s_17 : Int) (o0 : (List Bool)) : Option (Option Nat × ((List Bool) × (List Int) × Unit × Int × Int × Unit) × ((List Bool) × Unit)) :=
 bif (ilt s_17 s_16) then
 chk (inside s_17 (iof (@xlen (.i .i64) c_3))) (
 chk (inside s_17 (iof (@xlen .b o0))) (
 some (none, (s_2, c_3, (), s_16, (wr .i64 (iadd s_17 1)), ()), ((@xset .b o0 (Int.toNat s_17) (bNot (ieq (@xget (.i .i64) c_3 (Int.toNat s_17)) (-1)))), ()))))
 else
 some ((some 0), (s_2, c_3, (), s_16, s_17, ()), (o0, ()))
def blocks_Inside_L4f (n : Nat) (s : ((List Bool) × (List Int) × Unit × Int × Int × Unit) × ((List Bool) × Unit)) := blocks_Inside_L4 n s.1.1 s.1.2.1 s.1.2.2.1 s.1.2.2.2.1 s.1.2.2.2.2.1 s.2.1
def blocks_Inside_L4m (n : Nat) : LM := ⟨30, [(2, (.own .b)), (3, (.ty (.sl (.i .i64)))), (5, (.ms 0)), (16, (.ty (.i .i64))), (17, (.ty (.i .i64)))], [(.arr .b)], [.exit 0], fun x o => iter (blocks_Inside_L4f n) n (x, o)⟩
def blocks_Insideo (n : Nat) (l0 : (List GLine)) : Option ((List Bool) × Unit) :=
 ((blocks_askedo n l0)).bind fun y1 =>
 chk (bAnd (ieq (iof (@xlen .line l0)) (iof (@xlen .line l0))) (bAnd (ile 0 (iof (@xlen .line l0))) (room (Int.toNat (iof (@xlen .line l0))) 1))) (
 ((iter (blocks_Inside_L4f n) n ((([] : List Bool), y1.1.1, (), (iof (@xlen (.i .i64) y1.1.1)), (0 : Int), ()), ((xrep .b (Int.toNat (iof (@xlen .line l0)))), ())))).bind fun z2 =>
 some (z2.2.2.1, ()))
def blocks_Inside_fm (n : Nat) : FM := ⟨[(.ty (.sl .line))], [], (.own .b), true, none, fun a o => blocks_Insideo n a.1⟩
def blocks_Inside_cx (n : Nat) : Cx := ⟨ti, ty, gl, fun g => find [] g [(52, [blocks_asked_fm n])], fun k => find none k [(4, some (blocks_Inside_L4m n))], [], false, true⟩
theorem blocks_Inside_L4r (n : Nat) (s : FrT (blocks_Inside_L4m n).fs × ObTs (blocks_Inside_L4m n).os) : blocks_Inside_L4f n s = roundF { blocks_Inside_cx n with res := [] } (loopOf Tryz.f22 4) (blocks_Inside_L4m n) s.1 s.2 := by kernel_rfl
theorem blocks_Inside_ev (n : Nat) (a : ShTs (blocks_Inside_fm n).ash) (o : ObTs (blocks_Inside_fm n).os) : evalF (blocks_Inside_cx n) Tryz.f22 (blocks_Inside_fm n) a o = (blocks_Inside_fm n).run a o := by kernel_rfl
def layout_placeso (l0 : GLine) : Option (Bool × Unit) :=
 some ((bif (ieq l0.kind 2) then true else (bif (ieq l0.kind 1) then (bif (ieq l0.ins.op 40) then true else (ieq l0.ins.op 41)) else false)), ())
theorem layout_places_tot (l0 : GLine) : ∃ r, layout_placeso l0 = some (r, ()) := by
 unfold layout_placeso
 repeat' (first | exact ⟨_, rfl⟩ | refine ex_bif ?_ ?_)
def layout_places (l0 : GLine) : Bool := ((layout_placeso l0).map Prod.fst).getD (dfS (.ty .b))
theorem layout_places_eq (l0 : GLine) : layout_placeso l0 = some (layout_places l0, ()) := by
 obtain ⟨r, h⟩ := layout_places_tot l0
 unfold layout_places; rw [h]; rfl
def layout_places_fm : FM := ⟨[(.ty .line)], [], (.ty .b), true, some (fun a o => layout_places a.1), fun a o => some (layout_places a.1, o)⟩
def layout_places_cx : Cx := ⟨ti, ty, gl, fun g => find [] g [], fun k => find none k [], [], false, false⟩
theorem layout_places_ev (a : ShTs (layout_places_fm).ash) (o : ObTs (layout_places_fm).os) : evalF (layout_places_cx) Tryz.f23 (layout_places_fm) a o = layout_placeso a.1 := by kernel_rfl
theorem layout_places_evt (a : ShTs (layout_places_fm).ash) (o : ObTs (layout_places_fm).os) : evalF (layout_places_cx) Tryz.f23 (layout_places_fm) a o = (layout_places_fm).run a o := (layout_places_ev a o).trans (layout_places_eq a.1)
def isa_Lowo (r0 : Int) : Option (Bool × Unit) :=
 some ((bif (ile 0 r0) then (ilt r0 8) else false), ())
theorem isa_Low_tot (r0 : Int) : ∃ r, isa_Lowo r0 = some (r, ()) := by
 unfold isa_Lowo
 repeat' (first | exact ⟨_, rfl⟩ | refine ex_bif ?_ ?_)
def isa_Low (r0 : Int) : Bool := ((isa_Lowo r0).map Prod.fst).getD (dfS (.ty .b))
theorem isa_Low_eq (r0 : Int) : isa_Lowo r0 = some (isa_Low r0, ()) := by
 obtain ⟨r, h⟩ := isa_Low_tot r0
 unfold isa_Low; rw [h]; rfl
def isa_Low_fm : FM := ⟨[(.ty (.i .i64))], [], (.ty .b), true, some (fun a o => isa_Low a.1), fun a o => some (isa_Low a.1, o)⟩
def isa_Low_cx : Cx := ⟨ti, ty, gl, fun g => find [] g [], fun k => find none k [], [], false, false⟩
theorem isa_Low_ev (a : ShTs (isa_Low_fm).ash) (o : ObTs (isa_Low_fm).os) : evalF (isa_Low_cx) Tryz.f24 (isa_Low_fm) a o = isa_Lowo a.1 := by kernel_rfl
theorem isa_Low_evt (a : ShTs (isa_Low_fm).ash) (o : ObTs (isa_Low_fm).os) : evalF (isa_Low_cx) Tryz.f24 (isa_Low_fm) a o = (isa_Low_fm).run a o := (isa_Low_ev a o).trans (isa_Low_eq a.1)
def layout_inso (l0 : GLine) : Option (Bool × Unit) :=
 some ((bif (ieq l0.kind 1) then true else (ieq l0.kind 2)), ())
theorem layout_ins_tot (l0 : GLine) : ∃ r, layout_inso l0 = some (r, ()) := by
 unfold layout_inso
 repeat' (first | exact ⟨_, rfl⟩ | refine ex_bif ?_ ?_)
def layout_ins (l0 : GLine) : Bool := ((layout_inso l0).map Prod.fst).getD (dfS (.ty .b))
theorem layout_ins_eq (l0 : GLine) : layout_inso l0 = some (layout_ins l0, ()) := by
 obtain ⟨r, h⟩ := layout_ins_tot l0
 unfold layout_ins; rw [h]; rfl
def layout_ins_fm : FM := ⟨[(.ty .line)], [], (.ty .b), true, some (fun a o => layout_ins a.1), fun a o => some (layout_ins a.1, o)⟩
def layout_ins_cx : Cx := ⟨ti, ty, gl, fun g => find [] g [], fun k => find none k [], [], false, false⟩
theorem layout_ins_ev (a : ShTs (layout_ins_fm).ash) (o : ObTs (layout_ins_fm).os) : evalF (layout_ins_cx) Tryz.f25 (layout_ins_fm) a o = layout_inso a.1 := by kernel_rfl
theorem layout_ins_evt (a : ShTs (layout_ins_fm).ash) (o : ObTs (layout_ins_fm).os) : evalF (layout_ins_cx) Tryz.f25 (layout_ins_fm) a o = (layout_ins_fm).run a o := (layout_ins_ev a o).trans (layout_ins_eq a.1)
def layout_Reacheso (l0 : GLine) : Option (Bool × Unit) :=
 bif (bNot (ieq l0.kind 1)) then
 some ((ieq l0.kind 2), ())
 else
 bif (ieq l0.ins.op 40) then
 bif (ieq l0.ins.op 40) then
 some (true, ())
 else
 some (false, ())
 else
 bif (ieq l0.ins.op 41) then
 bif (ieq l0.ins.op 41) then
 some (true, ())
 else
 some (false, ())
 else
 bif (ieq l0.ins.op 35) then
 bif (ieq l0.ins.op 35) then
 some (true, ())
 else
 some (false, ())
 else
 bif (ieq l0.ins.op 36) then
 bif (ieq l0.ins.op 36) then
 some (true, ())
 else
 some (false, ())
 else
 bif (ieq l0.ins.op 37) then
 bif (ieq l0.ins.op 37) then
 some (true, ())
 else
 some (false, ())
 else
 bif (ieq l0.ins.op 38) then
 some (true, ())
 else
 some (false, ())
theorem layout_Reaches_tot (l0 : GLine) : ∃ r, layout_Reacheso l0 = some (r, ()) := by
 unfold layout_Reacheso
 repeat' (first | exact ⟨_, rfl⟩ | refine ex_bif ?_ ?_)
def layout_Reaches (l0 : GLine) : Bool := ((layout_Reacheso l0).map Prod.fst).getD (dfS (.ty .b))
theorem layout_Reaches_eq (l0 : GLine) : layout_Reacheso l0 = some (layout_Reaches l0, ()) := by
 obtain ⟨r, h⟩ := layout_Reaches_tot l0
 unfold layout_Reaches; rw [h]; rfl
def layout_Reaches_fm : FM := ⟨[(.ty .line)], [], (.ty .b), true, some (fun a o => layout_Reaches a.1), fun a o => some (layout_Reaches a.1, o)⟩
def layout_Reaches_cx : Cx := ⟨ti, ty, gl, fun g => find [] g [], fun k => find none k [], [], false, false⟩
theorem layout_Reaches_ev (a : ShTs (layout_Reaches_fm).ash) (o : ObTs (layout_Reaches_fm).os) : evalF (layout_Reaches_cx) Tryz.f26 (layout_Reaches_fm) a o = layout_Reacheso a.1 := by kernel_rfl
theorem layout_Reaches_evt (a : ShTs (layout_Reaches_fm).ash) (o : ObTs (layout_Reaches_fm).os) : evalF (layout_Reaches_cx) Tryz.f26 (layout_Reaches_fm) a o = (layout_Reaches_fm).run a o := (layout_Reaches_ev a o).trans (layout_Reaches_eq a.1)
def isa_Plaino (r0 : Int) : Option (Bool × Unit) :=
 some ((bif (bif (ile 0 r0) then (ile r0 12) else false) then true else (ieq r0 14)), ())
theorem isa_Plain_tot (r0 : Int) : ∃ r, isa_Plaino r0 = some (r, ()) := by
 unfold isa_Plaino
 repeat' (first | exact ⟨_, rfl⟩ | refine ex_bif ?_ ?_)
def isa_Plain (r0 : Int) : Bool := ((isa_Plaino r0).map Prod.fst).getD (dfS (.ty .b))
theorem isa_Plain_eq (r0 : Int) : isa_Plaino r0 = some (isa_Plain r0, ()) := by
 obtain ⟨r, h⟩ := isa_Plain_tot r0
 unfold isa_Plain; rw [h]; rfl
def isa_Plain_fm : FM := ⟨[(.ty (.i .i64))], [], (.ty .b), true, some (fun a o => isa_Plain a.1), fun a o => some (isa_Plain a.1, o)⟩
def isa_Plain_cx : Cx := ⟨ti, ty, gl, fun g => find [] g [], fun k => find none k [], [], false, false⟩
theorem isa_Plain_ev (a : ShTs (isa_Plain_fm).ash) (o : ObTs (isa_Plain_fm).os) : evalF (isa_Plain_cx) Tryz.f155 (isa_Plain_fm) a o = isa_Plaino a.1 := by kernel_rfl
theorem isa_Plain_evt (a : ShTs (isa_Plain_fm).ash) (o : ObTs (isa_Plain_fm).os) : evalF (isa_Plain_cx) Tryz.f155 (isa_Plain_fm) a o = (isa_Plain_fm).run a o := (isa_Plain_ev a o).trans (isa_Plain_eq a.1)
def isa_look_iso (k0 : Unit) (ok1 : Bool) (o0 : (Int × Int × Int × Int × Int × Int × Int × Int × Bool × Bool × Unit)) : Option ((Unit) × ((Int × Int × Int × Int × Int × Int × Int × Int × Bool × Bool × Unit) × Unit)) :=
 some ((), ((o0.1, o0.2.1, o0.2.2.1, o0.2.2.2.1, o0.2.2.2.2.1, o0.2.2.2.2.2.1, o0.2.2.2.2.2.2.1, o0.2.2.2.2.2.2.2.1, o0.2.2.2.2.2.2.2.2.1, (bif o0.2.2.2.2.2.2.2.2.2.1 then ok1 else false), ()), ()))
def isa_look_is_fm : FM := ⟨[(.ptr 0 0), (.ty .b)], [(.box [(.ty (.i .i64)), (.ty (.i .i64)), (.ty (.i .i64)), (.ty (.i .i64)), (.ty (.i .i64)), (.ty (.i .i64)), (.ty (.i .i64)), (.ty (.i .i64)), (.ty .b), (.ty .b)])], (.tup []), false, none, fun a o => isa_look_iso a.1 a.2.1 o.1⟩
def isa_look_is_cx : Cx := ⟨ti, ty, gl, fun g => find [] g [], fun k => find none k [], [], false, false⟩
theorem isa_look_is_ev (a : ShTs (isa_look_is_fm).ash) (o : ObTs (isa_look_is_fm).os) : evalF (isa_look_is_cx) Tryz.f151 (isa_look_is_fm) a o = (isa_look_is_fm).run a o := by kernel_rfl
def isa_look_do (k0 : Unit) (o0 : (Int × Int × Int × Int × Int × Int × Int × Int × Bool × Bool × Unit)) : Option ((Unit) × ((Int × Int × Int × Int × Int × Int × Int × Int × Bool × Bool × Unit) × Unit)) :=
 ((isa_look_iso () (isa_Plain o0.2.2.1) o0)).bind fun y1 =>
 some ((), ((y1.2.1.1, y1.2.1.2.1, (0 : Int), y1.2.1.2.2.2.1, y1.2.1.2.2.2.2.1, y1.2.1.2.2.2.2.2.1, y1.2.1.2.2.2.2.2.2.1, y1.2.1.2.2.2.2.2.2.2.1, y1.2.1.2.2.2.2.2.2.2.2.1, y1.2.1.2.2.2.2.2.2.2.2.2.1, ()), ()))
def isa_look_d_fm : FM := ⟨[(.ptr 0 0)], [(.box [(.ty (.i .i64)), (.ty (.i .i64)), (.ty (.i .i64)), (.ty (.i .i64)), (.ty (.i .i64)), (.ty (.i .i64)), (.ty (.i .i64)), (.ty (.i .i64)), (.ty .b), (.ty .b)])], (.tup []), false, none, fun a o => isa_look_do a.1 o.1⟩
def isa_look_d_cx : Cx := ⟨ti, ty, gl, fun g => find [] g [(155, [isa_Plain_fm]), (151, [isa_look_is_fm])], fun k => find none k [], [], false, false⟩
theorem isa_look_d_ev (a : ShTs (isa_look_d_fm).ash) (o : ObTs (isa_look_d_fm).os) : evalF (isa_look_d_cx) Tryz.f116 (isa_look_d_fm) a o = (isa_look_d_fm).run a o := by kernel_rfl
def isa_look_no (k0 : Unit) (o0 : (Int × Int × Int × Int × Int × Int × Int × Int × Bool × Bool × Unit)) : Option ((Unit) × ((Int × Int × Int × Int × Int × Int × Int × Int × Bool × Bool × Unit) × Unit)) :=
 ((isa_look_iso () (isa_Plain o0.2.2.2.1) o0)).bind fun y1 =>
 some ((), ((y1.2.1.1, y1.2.1.2.1, y1.2.1.2.2.1, (0 : Int), y1.2.1.2.2.2.2.1, y1.2.1.2.2.2.2.2.1, y1.2.1.2.2.2.2.2.2.1, y1.2.1.2.2.2.2.2.2.2.1, y1.2.1.2.2.2.2.2.2.2.2.1, y1.2.1.2.2.2.2.2.2.2.2.2.1, ()), ()))
def isa_look_n_fm : FM := ⟨[(.ptr 0 0)], [(.box [(.ty (.i .i64)), (.ty (.i .i64)), (.ty (.i .i64)), (.ty (.i .i64)), (.ty (.i .i64)), (.ty (.i .i64)), (.ty (.i .i64)), (.ty (.i .i64)), (.ty .b), (.ty .b)])], (.tup []), false, none, fun a o => isa_look_no a.1 o.1⟩
def isa_look_n_cx : Cx := ⟨ti, ty, gl, fun g => find [] g [(155, [isa_Plain_fm]), (151, [isa_look_is_fm])], fun k => find none k [], [], false, false⟩
theorem isa_look_n_ev (a : ShTs (isa_look_n_fm).ash) (o : ObTs (isa_look_n_fm).os) : evalF (isa_look_n_cx) Tryz.f117 (isa_look_n_fm) a o = (isa_look_n_fm).run a o := by kernel_rfl
def isa_look_rego (k0 : Unit) (o0 : (Int × Int × Int × Int × Int × Int × Int × Int × Bool × Bool × Unit)) : Option ((Unit) × ((Int × Int × Int × Int × Int × Int × Int × Int × Bool × Bool × Unit) × Unit)) :=
 ((isa_look_iso () (bif (ieq o0.2.2.2.2.2.2.1 2) then (isa_Plain o0.2.2.2.2.1) else false) o0)).bind fun y1 =>
 some ((), ((y1.2.1.1, y1.2.1.2.1, y1.2.1.2.2.1, y1.2.1.2.2.2.1, (0 : Int), y1.2.1.2.2.2.2.2.1, (0 : Int), y1.2.1.2.2.2.2.2.2.2.1, y1.2.1.2.2.2.2.2.2.2.2.1, y1.2.1.2.2.2.2.2.2.2.2.2.1, ()), ()))
def isa_look_reg_fm : FM := ⟨[(.ptr 0 0)], [(.box [(.ty (.i .i64)), (.ty (.i .i64)), (.ty (.i .i64)), (.ty (.i .i64)), (.ty (.i .i64)), (.ty (.i .i64)), (.ty (.i .i64)), (.ty (.i .i64)), (.ty .b), (.ty .b)])], (.tup []), false, none, fun a o => isa_look_rego a.1 o.1⟩
def isa_look_reg_cx : Cx := ⟨ti, ty, gl, fun g => find [] g [(155, [isa_Plain_fm]), (151, [isa_look_is_fm])], fun k => find none k [], [], false, false⟩
theorem isa_look_reg_ev (a : ShTs (isa_look_reg_fm).ash) (o : ObTs (isa_look_reg_fm).os) : evalF (isa_look_reg_cx) Tryz.f153 (isa_look_reg_fm) a o = (isa_look_reg_fm).run a o := by kernel_rfl
def isa_withino (n0 : Int) (low1 : Int) (high2 : Int) : Option (Bool × Unit) :=
 some ((bif (ile low1 n0) then (ile n0 high2) else false), ())
theorem isa_within_tot (n0 : Int) (low1 : Int) (high2 : Int) : ∃ r, isa_withino n0 low1 high2 = some (r, ()) := by
 unfold isa_withino
 repeat' (first | exact ⟨_, rfl⟩ | refine ex_bif ?_ ?_)
def isa_within (n0 : Int) (low1 : Int) (high2 : Int) : Bool := ((isa_withino n0 low1 high2).map Prod.fst).getD (dfS (.ty .b))
theorem isa_within_eq (n0 : Int) (low1 : Int) (high2 : Int) : isa_withino n0 low1 high2 = some (isa_within n0 low1 high2, ()) := by
 obtain ⟨r, h⟩ := isa_within_tot n0 low1 high2
 unfold isa_within; rw [h]; rfl
def isa_within_fm : FM := ⟨[(.ty (.i .i64)), (.ty (.i .i64)), (.ty (.i .i64))], [], (.ty .b), true, some (fun a o => isa_within a.1 a.2.1 a.2.2.1), fun a o => some (isa_within a.1 a.2.1 a.2.2.1, o)⟩
def isa_within_cx : Cx := ⟨ti, ty, gl, fun g => find [] g [], fun k => find none k [], [], false, false⟩
theorem isa_within_ev (a : ShTs (isa_within_fm).ash) (o : ObTs (isa_within_fm).os) : evalF (isa_within_cx) Tryz.f152 (isa_within_fm) a o = isa_withino a.1 a.2.1 a.2.2.1 := by kernel_rfl
theorem isa_within_evt (a : ShTs (isa_within_fm).ash) (o : ObTs (isa_within_fm).os) : evalF (isa_within_cx) Tryz.f152 (isa_within_fm) a o = (isa_within_fm).run a o := (isa_within_ev a o).trans (isa_within_eq a.1 a.2.1 a.2.2.1)
def isa_look_immo (k0 : Unit) (low1 : Int) (high2 : Int) (o0 : (Int × Int × Int × Int × Int × Int × Int × Int × Bool × Bool × Unit)) : Option ((Unit) × ((Int × Int × Int × Int × Int × Int × Int × Int × Bool × Bool × Unit) × Unit)) :=
 ((isa_look_iso () (bif (ieq o0.2.2.2.2.2.2.1 1) then (isa_within o0.2.2.2.2.2.1 low1 high2) else false) o0)).bind fun y1 =>
 some ((), ((y1.2.1.1, y1.2.1.2.1, y1.2.1.2.2.1, y1.2.1.2.2.2.1, y1.2.1.2.2.2.2.1, (0 : Int), (0 : Int), y1.2.1.2.2.2.2.2.2.2.1, y1.2.1.2.2.2.2.2.2.2.2.1, y1.2.1.2.2.2.2.2.2.2.2.2.1, ()), ()))
def isa_look_imm_fm : FM := ⟨[(.ptr 0 0), (.ty (.i .i64)), (.ty (.i .i64))], [(.box [(.ty (.i .i64)), (.ty (.i .i64)), (.ty (.i .i64)), (.ty (.i .i64)), (.ty (.i .i64)), (.ty (.i .i64)), (.ty (.i .i64)), (.ty (.i .i64)), (.ty .b), (.ty .b)])], (.tup []), false, none, fun a o => isa_look_immo a.1 a.2.1 a.2.2.1 o.1⟩
def isa_look_imm_cx : Cx := ⟨ti, ty, gl, fun g => find [] g [(152, [isa_within_fm]), (151, [isa_look_is_fm])], fun k => find none k [], [], false, false⟩
theorem isa_look_imm_ev (a : ShTs (isa_look_imm_fm).ash) (o : ObTs (isa_look_imm_fm).os) : evalF (isa_look_imm_cx) Tryz.f154 (isa_look_imm_fm) a o = (isa_look_imm_fm).run a o := by kernel_rfl
def isa_look_lasto (k0 : Unit) (low1 : Int) (high2 : Int) (o0 : (Int × Int × Int × Int × Int × Int × Int × Int × Bool × Bool × Unit)) : Option ((Unit) × ((Int × Int × Int × Int × Int × Int × Int × Int × Bool × Bool × Unit) × Unit)) :=
 bif (ieq o0.2.2.2.2.2.2.1 2) then
 ((isa_look_rego () o0)).bind fun y1 =>
 some ((), (y1.2.1, ()))
 else
 ((isa_look_immo () low1 high2 o0)).bind fun y2 =>
 some ((), (y2.2.1, ()))
def isa_look_last_fm : FM := ⟨[(.ptr 0 0), (.ty (.i .i64)), (.ty (.i .i64))], [(.box [(.ty (.i .i64)), (.ty (.i .i64)), (.ty (.i .i64)), (.ty (.i .i64)), (.ty (.i .i64)), (.ty (.i .i64)), (.ty (.i .i64)), (.ty (.i .i64)), (.ty .b), (.ty .b)])], (.tup []), false, none, fun a o => isa_look_lasto a.1 a.2.1 a.2.2.1 o.1⟩
def isa_look_last_cx : Cx := ⟨ti, ty, gl, fun g => find [] g [(153, [isa_look_reg_fm]), (154, [isa_look_imm_fm])], fun k => find none k [], [], false, false⟩
theorem isa_look_last_ev (a : ShTs (isa_look_last_fm).ash) (o : ObTs (isa_look_last_fm).os) : evalF (isa_look_last_cx) Tryz.f118 (isa_look_last_fm) a o = (isa_look_last_fm).run a o := by kernel_rfl
def isa_look_datao (s0 : Unit) (o0 : (Int × Int × Int × Int × Int × Int × Int × Int × Bool × Bool × Unit)) : Option ((Unit) × ((Int × Int × Int × Int × Int × Int × Int × Int × Bool × Bool × Unit) × Unit)) :=
 bif (ile o0.1 9) then
 ((isa_look_do () o0)).bind fun y1 =>
 ((isa_look_no () y1.2.1)).bind fun y2 =>
 ((isa_look_lasto () (0 : Int) (4294967295 : Int) y2.2.1)).bind fun y3 =>
 some ((), ((y3.2.1.1, y3.2.1.2.1, y3.2.1.2.2.1, y3.2.1.2.2.2.1, y3.2.1.2.2.2.2.1, y3.2.1.2.2.2.2.2.1, y3.2.1.2.2.2.2.2.2.1, y3.2.1.2.2.2.2.2.2.2.1, false, y3.2.1.2.2.2.2.2.2.2.2.2.1, ()), ()))
 else
 bif (bif (bif (ieq o0.1 10) then (ieq o0.2.2.2.2.2.2.1 2) else false) then (bNot o0.2.2.2.2.2.2.2.2.1) else false) then
 ((isa_look_iso () (bif (isa_within o0.2.2.1 (0 : Int) (14 : Int)) then (isa_within o0.2.2.2.2.1 (0 : Int) (14 : Int)) else false) o0)).bind fun y4 =>
 some ((), ((y4.2.1.1, y4.2.1.2.1, (0 : Int), y4.2.1.2.2.2.1, (0 : Int), y4.2.1.2.2.2.2.2.1, (0 : Int), y4.2.1.2.2.2.2.2.2.2.1, y4.2.1.2.2.2.2.2.2.2.2.1, y4.2.1.2.2.2.2.2.2.2.2.2.1, ()), ()))
 else
 bif (ile o0.1 11) then
 ((isa_look_do () o0)).bind fun y5 =>
 ((isa_look_lasto () (0 : Int) (4294967295 : Int) y5.2.1)).bind fun y6 =>
 some ((), ((y6.2.1.1, y6.2.1.2.1, y6.2.1.2.2.1, y6.2.1.2.2.2.1, y6.2.1.2.2.2.2.1, y6.2.1.2.2.2.2.2.1, y6.2.1.2.2.2.2.2.2.1, y6.2.1.2.2.2.2.2.2.2.1, false, y6.2.1.2.2.2.2.2.2.2.2.2.1, ()), ()))
 else
 bif (ile o0.1 15) then
 ((isa_look_no () o0)).bind fun y7 =>
 ((isa_look_lasto () (0 : Int) (4294967295 : Int) y7.2.1)).bind fun y8 =>
 some ((), (y8.2.1, ()))
 else
 bif (ile o0.1 19) then
 bif (bif (ieq o0.1 17) then true else (ieq o0.1 18)) then
 ((isa_look_do () o0)).bind fun y9 =>
 ((isa_look_no () y9.2.1)).bind fun y10 =>
 ((isa_look_lasto () (1 : Int) (32 : Int) y10.2.1)).bind fun y11 =>
 some ((), ((y11.2.1.1, y11.2.1.2.1, y11.2.1.2.2.1, y11.2.1.2.2.2.1, y11.2.1.2.2.2.2.1, y11.2.1.2.2.2.2.2.1, y11.2.1.2.2.2.2.2.2.1, y11.2.1.2.2.2.2.2.2.2.1, false, y11.2.1.2.2.2.2.2.2.2.2.2.1, ()), ()))
 else
 ((isa_look_do () o0)).bind fun y12 =>
 ((isa_look_no () y12.2.1)).bind fun y13 =>
 ((isa_look_lasto () (1 : Int) (31 : Int) y13.2.1)).bind fun y14 =>
 some ((), ((y14.2.1.1, y14.2.1.2.1, y14.2.1.2.2.1, y14.2.1.2.2.2.1, y14.2.1.2.2.2.2.1, y14.2.1.2.2.2.2.2.1, y14.2.1.2.2.2.2.2.2.1, y14.2.1.2.2.2.2.2.2.2.1, false, y14.2.1.2.2.2.2.2.2.2.2.2.1, ()), ()))
 else
 bif (ile o0.1 22) then
 ((isa_look_do () o0)).bind fun y15 =>
 ((isa_look_no () y15.2.1)).bind fun y16 =>
 ((isa_look_rego () y16.2.1)).bind fun y17 =>
 some ((), (y17.2.1, ()))
 else
 ((isa_look_do () o0)).bind fun y18 =>
 ((isa_look_immo () (0 : Int) (65535 : Int) y18.2.1)).bind fun y19 =>
 some ((), (y19.2.1, ()))
def isa_look_data_fm : FM := ⟨[(.ptr 0 0)], [(.box [(.ty (.i .i64)), (.ty (.i .i64)), (.ty (.i .i64)), (.ty (.i .i64)), (.ty (.i .i64)), (.ty (.i .i64)), (.ty (.i .i64)), (.ty (.i .i64)), (.ty .b), (.ty .b)])], (.tup []), false, none, fun a o => isa_look_datao a.1 o.1⟩
def isa_look_data_cx : Cx := ⟨ti, ty, gl, fun g => find [] g [(116, [isa_look_d_fm]), (117, [isa_look_n_fm]), (118, [isa_look_last_fm]), (152, [isa_within_fm]), (151, [isa_look_is_fm]), (153, [isa_look_reg_fm]), (154, [isa_look_imm_fm])], fun k => find none k [], [], false, false⟩
theorem isa_look_data_ev (a : ShTs (isa_look_data_fm).ash) (o : ObTs (isa_look_data_fm).os) : evalF (isa_look_data_cx) Tryz.f115 (isa_look_data_fm) a o = (isa_look_data_fm).run a o := by kernel_rfl
def math_bits_OnesCount64o (x0 : Int) : Option (Int × Unit) :=
 some ((wand .i64 (wr .i64 (wr .u64 (iadd (wr .u64 (iadd (wr .u64 (iadd (wand .u64 (wr .u64 (iadd (wshr .u64 (wr .u64 (iadd (wand .u64 (wshr .u64 (wr .u64 (iadd (wand .u64 (wshr .u64 x0 1) 6148914691236517205) (wand .u64 x0 6148914691236517205))) 2) 3689348814741910323) (wand .u64 (wr .u64 (iadd (wand .u64 (wshr .u64 x0 1) 6148914691236517205) (wand .u64 x0 6148914691236517205))) 3689348814741910323))) 4) (wr .u64 (iadd (wand .u64 (wshr .u64 (wr .u64 (iadd (wand .u64 (wshr .u64 x0 1) 6148914691236517205) (wand .u64 x0 6148914691236517205))) 2) 3689348814741910323) (wand .u64 (wr .u64 (iadd (wand .u64 (wshr .u64 x0 1) 6148914691236517205) (wand .u64 x0 6148914691236517205))) 3689348814741910323))))) 1085102592571150095) (wshr .u64 (wand .u64 (wr .u64 (iadd (wshr .u64 (wr .u64 (iadd (wand .u64 (wshr .u64 (wr .u64 (iadd (wand .u64 (wshr .u64 x0 1) 6148914691236517205) (wand .u64 x0 6148914691236517205))) 2) 3689348814741910323) (wand .u64 (wr .u64 (iadd (wand .u64 (wshr .u64 x0 1) 6148914691236517205) (wand .u64 x0 6148914691236517205))) 3689348814741910323))) 4) (wr .u64 (iadd (wand .u64 (wshr .u64 (wr .u64 (iadd (wand .u64 (wshr .u64 x0 1) 6148914691236517205) (wand .u64 x0 6148914691236517205))) 2) 3689348814741910323) (wand .u64 (wr .u64 (iadd (wand .u64 (wshr .u64 x0 1) 6148914691236517205) (wand .u64 x0 6148914691236517205))) 3689348814741910323))))) 1085102592571150095) 8))) (wshr .u64 (wr .u64 (iadd (wand .u64 (wr .u64 (iadd (wshr .u64 (wr .u64 (iadd (wand .u64 (wshr .u64 (wr .u64 (iadd (wand .u64 (wshr .u64 x0 1) 6148914691236517205) (wand .u64 x0 6148914691236517205))) 2) 3689348814741910323) (wand .u64 (wr .u64 (iadd (wand .u64 (wshr .u64 x0 1) 6148914691236517205) (wand .u64 x0 6148914691236517205))) 3689348814741910323))) 4) (wr .u64 (iadd (wand .u64 (wshr .u64 (wr .u64 (iadd (wand .u64 (wshr .u64 x0 1) 6148914691236517205) (wand .u64 x0 6148914691236517205))) 2) 3689348814741910323) (wand .u64 (wr .u64 (iadd (wand .u64 (wshr .u64 x0 1) 6148914691236517205) (wand .u64 x0 6148914691236517205))) 3689348814741910323))))) 1085102592571150095) (wshr .u64 (wand .u64 (wr .u64 (iadd (wshr .u64 (wr .u64 (iadd (wand .u64 (wshr .u64 (wr .u64 (iadd (wand .u64 (wshr .u64 x0 1) 6148914691236517205) (wand .u64 x0 6148914691236517205))) 2) 3689348814741910323) (wand .u64 (wr .u64 (iadd (wand .u64 (wshr .u64 x0 1) 6148914691236517205) (wand .u64 x0 6148914691236517205))) 3689348814741910323))) 4) (wr .u64 (iadd (wand .u64 (wshr .u64 (wr .u64 (iadd (wand .u64 (wshr .u64 x0 1) 6148914691236517205) (wand .u64 x0 6148914691236517205))) 2) 3689348814741910323) (wand .u64 (wr .u64 (iadd (wand .u64 (wshr .u64 x0 1) 6148914691236517205) (wand .u64 x0 6148914691236517205))) 3689348814741910323))))) 1085102592571150095) 8))) 16))) (wshr .u64 (wr .u64 (iadd (wr .u64 (iadd (wand .u64 (wr .u64 (iadd (wshr .u64 (wr .u64 (iadd (wand .u64 (wshr .u64 (wr .u64 (iadd (wand .u64 (wshr .u64 x0 1) 6148914691236517205) (wand .u64 x0 6148914691236517205))) 2) 3689348814741910323) (wand .u64 (wr .u64 (iadd (wand .u64 (wshr .u64 x0 1) 6148914691236517205) (wand .u64 x0 6148914691236517205))) 3689348814741910323))) 4) (wr .u64 (iadd (wand .u64 (wshr .u64 (wr .u64 (iadd (wand .u64 (wshr .u64 x0 1) 6148914691236517205) (wand .u64 x0 6148914691236517205))) 2) 3689348814741910323) (wand .u64 (wr .u64 (iadd (wand .u64 (wshr .u64 x0 1) 6148914691236517205) (wand .u64 x0 6148914691236517205))) 3689348814741910323))))) 1085102592571150095) (wshr .u64 (wand .u64 (wr .u64 (iadd (wshr .u64 (wr .u64 (iadd (wand .u64 (wshr .u64 (wr .u64 (iadd (wand .u64 (wshr .u64 x0 1) 6148914691236517205) (wand .u64 x0 6148914691236517205))) 2) 3689348814741910323) (wand .u64 (wr .u64 (iadd (wand .u64 (wshr .u64 x0 1) 6148914691236517205) (wand .u64 x0 6148914691236517205))) 3689348814741910323))) 4) (wr .u64 (iadd (wand .u64 (wshr .u64 (wr .u64 (iadd (wand .u64 (wshr .u64 x0 1) 6148914691236517205) (wand .u64 x0 6148914691236517205))) 2) 3689348814741910323) (wand .u64 (wr .u64 (iadd (wand .u64 (wshr .u64 x0 1) 6148914691236517205) (wand .u64 x0 6148914691236517205))) 3689348814741910323))))) 1085102592571150095) 8))) (wshr .u64 (wr .u64 (iadd (wand .u64 (wr .u64 (iadd (wshr .u64 (wr .u64 (iadd (wand .u64 (wshr .u64 (wr .u64 (iadd (wand .u64 (wshr .u64 x0 1) 6148914691236517205) (wand .u64 x0 6148914691236517205))) 2) 3689348814741910323) (wand .u64 (wr .u64 (iadd (wand .u64 (wshr .u64 x0 1) 6148914691236517205) (wand .u64 x0 6148914691236517205))) 3689348814741910323))) 4) (wr .u64 (iadd (wand .u64 (wshr .u64 (wr .u64 (iadd (wand .u64 (wshr .u64 x0 1) 6148914691236517205) (wand .u64 x0 6148914691236517205))) 2) 3689348814741910323) (wand .u64 (wr .u64 (iadd (wand .u64 (wshr .u64 x0 1) 6148914691236517205) (wand .u64 x0 6148914691236517205))) 3689348814741910323))))) 1085102592571150095) (wshr .u64 (wand .u64 (wr .u64 (iadd (wshr .u64 (wr .u64 (iadd (wand .u64 (wshr .u64 (wr .u64 (iadd (wand .u64 (wshr .u64 x0 1) 6148914691236517205) (wand .u64 x0 6148914691236517205))) 2) 3689348814741910323) (wand .u64 (wr .u64 (iadd (wand .u64 (wshr .u64 x0 1) 6148914691236517205) (wand .u64 x0 6148914691236517205))) 3689348814741910323))) 4) (wr .u64 (iadd (wand .u64 (wshr .u64 (wr .u64 (iadd (wand .u64 (wshr .u64 x0 1) 6148914691236517205) (wand .u64 x0 6148914691236517205))) 2) 3689348814741910323) (wand .u64 (wr .u64 (iadd (wand .u64 (wshr .u64 x0 1) 6148914691236517205) (wand .u64 x0 6148914691236517205))) 3689348814741910323))))) 1085102592571150095) 8))) 16))) 32)))) 127), ())
theorem math_bits_OnesCount64_tot (x0 : Int) : ∃ r, math_bits_OnesCount64o x0 = some (r, ()) := by
 unfold math_bits_OnesCount64o
 repeat' (first | exact ⟨_, rfl⟩ | refine ex_bif ?_ ?_)
def math_bits_OnesCount64 (x0 : Int) : Int := ((math_bits_OnesCount64o x0).map Prod.fst).getD (dfS (.ty (.i .i64)))
theorem math_bits_OnesCount64_eq (x0 : Int) : math_bits_OnesCount64o x0 = some (math_bits_OnesCount64 x0, ()) := by
 obtain ⟨r, h⟩ := math_bits_OnesCount64_tot x0
 unfold math_bits_OnesCount64; rw [h]; rfl
def math_bits_OnesCount64_fm : FM := ⟨[(.ty (.i .u64))], [], (.ty (.i .i64)), true, some (fun a o => math_bits_OnesCount64 a.1), fun a o => some (math_bits_OnesCount64 a.1, o)⟩
def math_bits_OnesCount64_cx : Cx := ⟨ti, ty, gl, fun g => find [] g [], fun k => find none k [], [], false, false⟩
theorem math_bits_OnesCount64_ev (a : ShTs (math_bits_OnesCount64_fm).ash) (o : ObTs (math_bits_OnesCount64_fm).os) : evalF (math_bits_OnesCount64_cx) Tryz.f183 (math_bits_OnesCount64_fm) a o = math_bits_OnesCount64o a.1 := by kernel_rfl
theorem math_bits_OnesCount64_evt (a : ShTs (math_bits_OnesCount64_fm).ash) (o : ObTs (math_bits_OnesCount64_fm).os) : evalF (math_bits_OnesCount64_cx) Tryz.f183 (math_bits_OnesCount64_fm) a o = (math_bits_OnesCount64_fm).run a o := (math_bits_OnesCount64_ev a o).trans (math_bits_OnesCount64_eq a.1)
def math_bits_OnesCounto (x0 : Int) : Option (Int × Unit) :=
 some ((math_bits_OnesCount64 x0), ())
theorem math_bits_OnesCount_tot (x0 : Int) : ∃ r, math_bits_OnesCounto x0 = some (r, ()) := by
 unfold math_bits_OnesCounto
 repeat' (first | exact ⟨_, rfl⟩ | refine ex_bif ?_ ?_)
def math_bits_OnesCount (x0 : Int) : Int := ((math_bits_OnesCounto x0).map Prod.fst).getD (dfS (.ty (.i .i64)))
theorem math_bits_OnesCount_eq (x0 : Int) : math_bits_OnesCounto x0 = some (math_bits_OnesCount x0, ()) := by
 obtain ⟨r, h⟩ := math_bits_OnesCount_tot x0
 unfold math_bits_OnesCount; rw [h]; rfl
def math_bits_OnesCount_fm : FM := ⟨[(.ty (.i .u64))], [], (.ty (.i .i64)), true, some (fun a o => math_bits_OnesCount a.1), fun a o => some (math_bits_OnesCount a.1, o)⟩
def math_bits_OnesCount_cx : Cx := ⟨ti, ty, gl, fun g => find [] g [(183, [math_bits_OnesCount64_fm])], fun k => find none k [], [], false, false⟩
theorem math_bits_OnesCount_ev (a : ShTs (math_bits_OnesCount_fm).ash) (o : ObTs (math_bits_OnesCount_fm).os) : evalF (math_bits_OnesCount_cx) Tryz.f176 (math_bits_OnesCount_fm) a o = math_bits_OnesCounto a.1 := by kernel_rfl
theorem math_bits_OnesCount_evt (a : ShTs (math_bits_OnesCount_fm).ash) (o : ObTs (math_bits_OnesCount_fm).os) : evalF (math_bits_OnesCount_cx) Tryz.f176 (math_bits_OnesCount_fm) a o = (math_bits_OnesCount_fm).run a o := (math_bits_OnesCount_ev a o).trans (math_bits_OnesCount_eq a.1)
def isa_look_listo (k0 : Unit) (least1 : Int) (more2 : Int) (o0 : (Int × Int × Int × Int × Int × Int × Int × Int × Bool × Bool × Unit)) : Option ((Unit) × ((Int × Int × Int × Int × Int × Int × Int × Int × Bool × Bool × Unit) × Unit)) :=
 bif (ile 0 more2) then
 chk (ile 0 more2) (
 ((isa_look_iso () (bif (bif (ilt 0 o0.2.2.2.2.2.2.2.1) then (ieq (wandn .i64 o0.2.2.2.2.2.2.2.1 (wor .i64 24575 (wshl .i64 1 more2))) 0) else false) then (ile least1 (math_bits_OnesCount (wr .u64 o0.2.2.2.2.2.2.2.1))) else false) o0)).bind fun y1 =>
 some ((), ((y1.2.1.1, y1.2.1.2.1, y1.2.1.2.2.1, y1.2.1.2.2.2.1, y1.2.1.2.2.2.2.1, y1.2.1.2.2.2.2.2.1, y1.2.1.2.2.2.2.2.2.1, (0 : Int), y1.2.1.2.2.2.2.2.2.2.2.1, y1.2.1.2.2.2.2.2.2.2.2.2.1, ()), ())))
 else
 ((isa_look_iso () (bif (bif (ilt 0 o0.2.2.2.2.2.2.2.1) then (ieq (wandn .i64 o0.2.2.2.2.2.2.2.1 24575) 0) else false) then (ile least1 (math_bits_OnesCount (wr .u64 o0.2.2.2.2.2.2.2.1))) else false) o0)).bind fun y2 =>
 some ((), ((y2.2.1.1, y2.2.1.2.1, y2.2.1.2.2.1, y2.2.1.2.2.2.1, y2.2.1.2.2.2.2.1, y2.2.1.2.2.2.2.2.1, y2.2.1.2.2.2.2.2.2.1, (0 : Int), y2.2.1.2.2.2.2.2.2.2.2.1, y2.2.1.2.2.2.2.2.2.2.2.2.1, ()), ()))
def isa_look_list_fm : FM := ⟨[(.ptr 0 0), (.ty (.i .i64)), (.ty (.i .i64))], [(.box [(.ty (.i .i64)), (.ty (.i .i64)), (.ty (.i .i64)), (.ty (.i .i64)), (.ty (.i .i64)), (.ty (.i .i64)), (.ty (.i .i64)), (.ty (.i .i64)), (.ty .b), (.ty .b)])], (.tup []), false, none, fun a o => isa_look_listo a.1 a.2.1 a.2.2.1 o.1⟩
def isa_look_list_cx : Cx := ⟨ti, ty, gl, fun g => find [] g [(176, [math_bits_OnesCount_fm]), (151, [isa_look_is_fm])], fun k => find none k [], [], false, false⟩
theorem isa_look_list_ev (a : ShTs (isa_look_list_fm).ash) (o : ObTs (isa_look_list_fm).os) : evalF (isa_look_list_cx) Tryz.f156 (isa_look_list_fm) a o = (isa_look_list_fm).run a o := by kernel_rfl
end Go.Ev.Tryz
