/- Models of the functions that the laws reach, each with the proof that the evaluator gives it. Written by sym.py. -/
import Derived.Test.YtjepeadpofpadaaGreatDoorLsM3
set_option linter.unusedSimpArgs false
set_option linter.unusedVariables false
set_option linter.unusedSectionVars false
namespace Go.Ev.Tryz
open Go Go.Ev Go.Proofs
set_option maxRecDepth 1000000
def isa_look_manyo (k0 : Unit) (o0 : (Int × Int × Int × Int × Int × Int × Int × Int × Bool × Bool × Unit)) : Option ((Unit) × ((Int × Int × Int × Int × Int × Int × Int × Int × Bool × Bool × Unit) × Unit)) :=
 bif (ieq o0.1 31) then
 bif (ieq o0.1 31) then
 chk (bNot (bAnd (bNot (ile 0 o0.2.2.2.1)) (bNot (bNot (isa_within o0.2.2.2.1 (0 : Int) (15 : Int)))))) (
 ((isa_look_iso () (bif (bNot (isa_within o0.2.2.2.1 (0 : Int) (15 : Int))) then true else (ieq (wand .i64 (wshr .i64 o0.2.2.2.2.2.2.2.1 o0.2.2.2.1) 1) 0)) o0)).bind fun y1 =>
 ((isa_look_no () y1.2.1)).bind fun y2 =>
 ((isa_look_listo () (2 : Int) ((-1) : Int) y2.2.1)).bind fun y3 =>
 some ((), (y3.2.1, ())))
 else
 bif (ieq o0.1 33) then
 ((isa_look_listo () (1 : Int) ((-1) : Int) o0)).bind fun y4 =>
 some ((), (y4.2.1, ()))
 else
 bif (ieq o0.1 34) then
 ((isa_look_iso () (bNot (ieq (wand .i64 (wshr .i64 o0.2.2.2.2.2.2.2.1 14) 3) 3)) o0)).bind fun y5 =>
 ((isa_look_listo () (1 : Int) (15 : Int) y5.2.1)).bind fun y6 =>
 some ((), (y6.2.1, ()))
 else
 some ((), (o0, ()))
 else
 bif (ieq o0.1 32) then
 chk (bNot (bAnd (bNot (ile 0 o0.2.2.2.1)) (bNot (bNot (isa_within o0.2.2.2.1 (0 : Int) (15 : Int)))))) (
 ((isa_look_iso () (bif (bNot (isa_within o0.2.2.2.1 (0 : Int) (15 : Int))) then true else (ieq (wand .i64 (wshr .i64 o0.2.2.2.2.2.2.2.1 o0.2.2.2.1) 1) 0)) o0)).bind fun y7 =>
 ((isa_look_no () y7.2.1)).bind fun y8 =>
 ((isa_look_listo () (2 : Int) ((-1) : Int) y8.2.1)).bind fun y9 =>
 some ((), (y9.2.1, ())))
 else
 bif (ieq o0.1 33) then
 ((isa_look_listo () (1 : Int) ((-1) : Int) o0)).bind fun y10 =>
 some ((), (y10.2.1, ()))
 else
 bif (ieq o0.1 34) then
 ((isa_look_iso () (bNot (ieq (wand .i64 (wshr .i64 o0.2.2.2.2.2.2.2.1 14) 3) 3)) o0)).bind fun y11 =>
 ((isa_look_listo () (1 : Int) (15 : Int) y11.2.1)).bind fun y12 =>
 some ((), (y12.2.1, ()))
 else
 some ((), (o0, ()))
def isa_look_many_fm : FM := ⟨[(.ptr 0 0)], [(.box [(.ty (.i .i64)), (.ty (.i .i64)), (.ty (.i .i64)), (.ty (.i .i64)), (.ty (.i .i64)), (.ty (.i .i64)), (.ty (.i .i64)), (.ty (.i .i64)), (.ty .b), (.ty .b)])], (.tup []), false, none, fun a o => isa_look_manyo a.1 o.1⟩
def isa_look_many_cx : Cx := ⟨ti, ty, gl, fun g => find [] g [(152, [isa_within_fm]), (151, [isa_look_is_fm]), (117, [isa_look_n_fm]), (156, [isa_look_list_fm])], fun k => find none k [], [], false, false⟩
theorem isa_look_many_ev (a : ShTs (isa_look_many_fm).ash) (o : ObTs (isa_look_many_fm).os) : evalF (isa_look_many_cx) Tryz.f119 (isa_look_many_fm) a o = (isa_look_many_fm).run a o := by kernel_rfl
def isa_look_brancho (k0 : Unit) (o0 : (Int × Int × Int × Int × Int × Int × Int × Int × Bool × Bool × Unit)) : Option ((Unit) × ((Int × Int × Int × Int × Int × Int × Int × Int × Bool × Bool × Unit) × Unit)) :=
 ((isa_look_iso () (ieq (wand .i64 o0.2.2.2.2.2.1 1) 0) o0)).bind fun y1 =>
 ((isa_look_immo () ((-16777216) : Int) (16777214 : Int) y1.2.1)).bind fun y2 =>
 some ((), (y2.2.1, ()))
def isa_look_branch_fm : FM := ⟨[(.ptr 0 0)], [(.box [(.ty (.i .i64)), (.ty (.i .i64)), (.ty (.i .i64)), (.ty (.i .i64)), (.ty (.i .i64)), (.ty (.i .i64)), (.ty (.i .i64)), (.ty (.i .i64)), (.ty .b), (.ty .b)])], (.tup []), false, none, fun a o => isa_look_brancho a.1 o.1⟩
def isa_look_branch_cx : Cx := ⟨ti, ty, gl, fun g => find [] g [(151, [isa_look_is_fm]), (154, [isa_look_imm_fm])], fun k => find none k [], [], false, false⟩
theorem isa_look_branch_ev (a : ShTs (isa_look_branch_fm).ash) (o : ObTs (isa_look_branch_fm).os) : evalF (isa_look_branch_cx) Tryz.f157 (isa_look_branch_fm) a o = (isa_look_branch_fm).run a o := by kernel_rfl
def isa_look_otherso (n : Nat) (s0 : Unit) (o0 : (Int × Int × Int × Int × Int × Int × Int × Int × Bool × Bool × Unit)) : Option ((Unit) × ((Int × Int × Int × Int × Int × Int × Int × Int × Bool × Bool × Unit) × Unit)) :=
 bif (ieq o0.1 35) then
 ((isa_look_iso () (isa_within o0.2.1 (0 : Int) (14 : Int)) o0)).bind fun y1 =>
 ((isa_look_brancho () (y1.2.1.1, (0 : Int), y1.2.1.2.2.1, y1.2.1.2.2.2.1, y1.2.1.2.2.2.2.1, y1.2.1.2.2.2.2.2.1, y1.2.1.2.2.2.2.2.2.1, y1.2.1.2.2.2.2.2.2.2.1, y1.2.1.2.2.2.2.2.2.2.2.1, y1.2.1.2.2.2.2.2.2.2.2.2.1, ()))).bind fun y2 =>
 some ((), (y2.2.1, ()))
 else
 bif (ieq o0.1 36) then
 ((isa_look_brancho () o0)).bind fun y3 =>
 some ((), (y3.2.1, ()))
 else
 bif (ieq o0.1 37) then
 bif (ieq o0.1 37) then
 ((isa_look_iso () (bif (isa_Low o0.2.2.2.1) then (ieq (wand .i64 o0.2.2.2.2.2.1 1) 0) else false) o0)).bind fun y4 =>
 ((isa_look_immo () (0 : Int) (126 : Int) (y4.2.1.1, y4.2.1.2.1, y4.2.1.2.2.1, (0 : Int), y4.2.1.2.2.2.2.1, y4.2.1.2.2.2.2.2.1, y4.2.1.2.2.2.2.2.2.1, y4.2.1.2.2.2.2.2.2.2.1, y4.2.1.2.2.2.2.2.2.2.2.1, y4.2.1.2.2.2.2.2.2.2.2.2.1, ()))).bind fun y5 =>
 some ((), (y5.2.1, ()))
 else
 bif (ieq o0.1 39) then
 ((isa_look_iso () (bif (ieq o0.2.2.2.2.2.2.1 2) then (isa_within o0.2.2.2.2.1 (0 : Int) (14 : Int)) else false) o0)).bind fun y6 =>
 some ((), ((y6.2.1.1, y6.2.1.2.1, y6.2.1.2.2.1, y6.2.1.2.2.2.1, (0 : Int), y6.2.1.2.2.2.2.2.1, (0 : Int), y6.2.1.2.2.2.2.2.2.2.1, y6.2.1.2.2.2.2.2.2.2.2.1, y6.2.1.2.2.2.2.2.2.2.2.2.1, ()), ()))
 else
 bif (ieq o0.1 40) then
 bif (ieq o0.1 40) then
 ((isa_look_do () o0)).bind fun y7 =>
 ((isa_look_immo () ((-4095) : Int) (4095 : Int) y7.2.1)).bind fun y8 =>
 some ((), (y8.2.1, ()))
 else
 bif (ieq o0.1 42) then
 ((conds_Condso n o0.2.1 o0.2.2.2.2.2.1)).bind fun y9 =>
 ((isa_look_iso () (ilt 0 (iof (@xlen (.i .i64) y9.1))) o0)).bind fun y10 =>
 ((isa_look_immo () (1 : Int) (15 : Int) (y10.2.1.1, (0 : Int), y10.2.1.2.2.1, y10.2.1.2.2.2.1, y10.2.1.2.2.2.2.1, y10.2.1.2.2.2.2.2.1, y10.2.1.2.2.2.2.2.2.1, y10.2.1.2.2.2.2.2.2.2.1, y10.2.1.2.2.2.2.2.2.2.2.1, y10.2.1.2.2.2.2.2.2.2.2.2.1, ()))).bind fun y11 =>
 some ((), (y11.2.1, ()))
 else
 bif (ieq o0.1 44) then
 ((isa_look_immo () (0 : Int) (255 : Int) o0)).bind fun y12 =>
 some ((), (y12.2.1, ()))
 else
 bif (ieq o0.1 45) then
 ((isa_look_no () o0)).bind fun y13 =>
 ((isa_look_rego () y13.2.1)).bind fun y14 =>
 some ((), (y14.2.1, ()))
 else
 some ((), (o0, ()))
 else
 bif (ieq o0.1 41) then
 ((isa_look_do () o0)).bind fun y15 =>
 ((isa_look_immo () ((-4095) : Int) (4095 : Int) y15.2.1)).bind fun y16 =>
 some ((), (y16.2.1, ()))
 else
 bif (ieq o0.1 42) then
 ((conds_Condso n o0.2.1 o0.2.2.2.2.2.1)).bind fun y17 =>
 ((isa_look_iso () (ilt 0 (iof (@xlen (.i .i64) y17.1))) o0)).bind fun y18 =>
 ((isa_look_immo () (1 : Int) (15 : Int) (y18.2.1.1, (0 : Int), y18.2.1.2.2.1, y18.2.1.2.2.2.1, y18.2.1.2.2.2.2.1, y18.2.1.2.2.2.2.2.1, y18.2.1.2.2.2.2.2.2.1, y18.2.1.2.2.2.2.2.2.2.1, y18.2.1.2.2.2.2.2.2.2.2.1, y18.2.1.2.2.2.2.2.2.2.2.2.1, ()))).bind fun y19 =>
 some ((), (y19.2.1, ()))
 else
 bif (ieq o0.1 44) then
 ((isa_look_immo () (0 : Int) (255 : Int) o0)).bind fun y20 =>
 some ((), (y20.2.1, ()))
 else
 bif (ieq o0.1 45) then
 ((isa_look_no () o0)).bind fun y21 =>
 ((isa_look_rego () y21.2.1)).bind fun y22 =>
 some ((), (y22.2.1, ()))
 else
 some ((), (o0, ()))
 else
 bif (ieq o0.1 38) then
 ((isa_look_iso () (bif (isa_Low o0.2.2.2.1) then (ieq (wand .i64 o0.2.2.2.2.2.1 1) 0) else false) o0)).bind fun y23 =>
 ((isa_look_immo () (0 : Int) (126 : Int) (y23.2.1.1, y23.2.1.2.1, y23.2.1.2.2.1, (0 : Int), y23.2.1.2.2.2.2.1, y23.2.1.2.2.2.2.2.1, y23.2.1.2.2.2.2.2.2.1, y23.2.1.2.2.2.2.2.2.2.1, y23.2.1.2.2.2.2.2.2.2.2.1, y23.2.1.2.2.2.2.2.2.2.2.2.1, ()))).bind fun y24 =>
 some ((), (y24.2.1, ()))
 else
 bif (ieq o0.1 39) then
 ((isa_look_iso () (bif (ieq o0.2.2.2.2.2.2.1 2) then (isa_within o0.2.2.2.2.1 (0 : Int) (14 : Int)) else false) o0)).bind fun y25 =>
 some ((), ((y25.2.1.1, y25.2.1.2.1, y25.2.1.2.2.1, y25.2.1.2.2.2.1, (0 : Int), y25.2.1.2.2.2.2.2.1, (0 : Int), y25.2.1.2.2.2.2.2.2.2.1, y25.2.1.2.2.2.2.2.2.2.2.1, y25.2.1.2.2.2.2.2.2.2.2.2.1, ()), ()))
 else
 bif (ieq o0.1 40) then
 bif (ieq o0.1 40) then
 ((isa_look_do () o0)).bind fun y26 =>
 ((isa_look_immo () ((-4095) : Int) (4095 : Int) y26.2.1)).bind fun y27 =>
 some ((), (y27.2.1, ()))
 else
 bif (ieq o0.1 42) then
 ((conds_Condso n o0.2.1 o0.2.2.2.2.2.1)).bind fun y28 =>
 ((isa_look_iso () (ilt 0 (iof (@xlen (.i .i64) y28.1))) o0)).bind fun y29 =>
 ((isa_look_immo () (1 : Int) (15 : Int) (y29.2.1.1, (0 : Int), y29.2.1.2.2.1, y29.2.1.2.2.2.1, y29.2.1.2.2.2.2.1, y29.2.1.2.2.2.2.2.1, y29.2.1.2.2.2.2.2.2.1, y29.2.1.2.2.2.2.2.2.2.1, y29.2.1.2.2.2.2.2.2.2.2.1, y29.2.1.2.2.2.2.2.2.2.2.2.1, ()))).bind fun y30 =>
 some ((), (y30.2.1, ()))
 else
 bif (ieq o0.1 44) then
 ((isa_look_immo () (0 : Int) (255 : Int) o0)).bind fun y31 =>
 some ((), (y31.2.1, ()))
 else
 bif (ieq o0.1 45) then
 ((isa_look_no () o0)).bind fun y32 =>
 ((isa_look_rego () y32.2.1)).bind fun y33 =>
 some ((), (y33.2.1, ()))
 else
 some ((), (o0, ()))
 else
 bif (ieq o0.1 41) then
 ((isa_look_do () o0)).bind fun y34 =>
 ((isa_look_immo () ((-4095) : Int) (4095 : Int) y34.2.1)).bind fun y35 =>
 some ((), (y35.2.1, ()))
 else
 bif (ieq o0.1 42) then
 ((conds_Condso n o0.2.1 o0.2.2.2.2.2.1)).bind fun y36 =>
 ((isa_look_iso () (ilt 0 (iof (@xlen (.i .i64) y36.1))) o0)).bind fun y37 =>
 ((isa_look_immo () (1 : Int) (15 : Int) (y37.2.1.1, (0 : Int), y37.2.1.2.2.1, y37.2.1.2.2.2.1, y37.2.1.2.2.2.2.1, y37.2.1.2.2.2.2.2.1, y37.2.1.2.2.2.2.2.2.1, y37.2.1.2.2.2.2.2.2.2.1, y37.2.1.2.2.2.2.2.2.2.2.1, y37.2.1.2.2.2.2.2.2.2.2.2.1, ()))).bind fun y38 =>
 some ((), (y38.2.1, ()))
 else
 bif (ieq o0.1 44) then
 ((isa_look_immo () (0 : Int) (255 : Int) o0)).bind fun y39 =>
 some ((), (y39.2.1, ()))
 else
 bif (ieq o0.1 45) then
 ((isa_look_no () o0)).bind fun y40 =>
 ((isa_look_rego () y40.2.1)).bind fun y41 =>
 some ((), (y41.2.1, ()))
 else
 some ((), (o0, ()))
def isa_look_others_fm (n : Nat) : FM := ⟨[(.ptr 0 0)], [(.box [(.ty (.i .i64)), (.ty (.i .i64)), (.ty (.i .i64)), (.ty (.i .i64)), (.ty (.i .i64)), (.ty (.i .i64)), (.ty (.i .i64)), (.ty (.i .i64)), (.ty .b), (.ty .b)])], (.tup []), false, none, fun a o => isa_look_otherso n a.1 o.1⟩
def isa_look_others_cx (n : Nat) : Cx := ⟨ti, ty, gl, fun g => find [] g [(152, [isa_within_fm]), (151, [isa_look_is_fm]), (157, [isa_look_branch_fm]), (24, [isa_Low_fm]), (154, [isa_look_imm_fm]), (116, [isa_look_d_fm]), (81, [conds_Conds_fm n]), (117, [isa_look_n_fm]), (153, [isa_look_reg_fm])], fun k => find none k [], [], false, false⟩
theorem isa_look_others_ev (n : Nat) (a : ShTs (isa_look_others_fm n).ash) (o : ObTs (isa_look_others_fm n).os) : evalF (isa_look_others_cx n) Tryz.f120 (isa_look_others_fm n) a o = (isa_look_others_fm n).run a o := by kernel_rfl
def isa_Checko (n : Nat) (i0 : GIns) : Option (Int × Unit) :=
 bif (bif (ilt i0.op 1) then true else (ilt 45 i0.op)) then
 some ((6 : Int), ())
 else
 bif (ile i0.op 24) then
 ((isa_look_datao () (i0.op, i0.cond, i0.rd, i0.rn, i0.rm, i0.imm, i0.mode, i0.list, i0.s, true, ()))).bind fun y1 =>
 bif (bif (bNot y1.2.1.2.2.2.2.2.2.2.2.2.1) then true else (bNot (bAnd (ieq y1.2.1.1 i0.op) (bAnd (ieq y1.2.1.2.1 0) (bAnd (ieq y1.2.1.2.2.1 0) (bAnd (ieq y1.2.1.2.2.2.1 0) (bAnd (ieq y1.2.1.2.2.2.2.1 0) (bAnd (ieq y1.2.1.2.2.2.2.2.1 0) (bAnd (ieq y1.2.1.2.2.2.2.2.2.1 0) (bAnd (ieq y1.2.1.2.2.2.2.2.2.2.1 0) (bAnd (bEq y1.2.1.2.2.2.2.2.2.2.2.1 false) true))))))))))) then
 some ((6 : Int), ())
 else
 some ((0 : Int), ())
 else
 bif (ile i0.op 30) then
 ((isa_look_do () (i0.op, i0.cond, i0.rd, i0.rn, i0.rm, i0.imm, i0.mode, i0.list, i0.s, true, ()))).bind fun y2 =>
 bif (ieq y2.2.1.2.2.2.1 13) then
 ((isa_look_no () (y2.2.1.1, y2.2.1.2.1, y2.2.1.2.2.1, (0 : Int), y2.2.1.2.2.2.2.1, y2.2.1.2.2.2.2.2.1, y2.2.1.2.2.2.2.2.2.1, y2.2.1.2.2.2.2.2.2.2.1, y2.2.1.2.2.2.2.2.2.2.2.1, y2.2.1.2.2.2.2.2.2.2.2.2.1, ()))).bind fun y3 =>
 ((isa_look_lasto () (0 : Int) (4095 : Int) y3.2.1)).bind fun y4 =>
 bif (bif (bNot y4.2.1.2.2.2.2.2.2.2.2.2.1) then true else (bNot (bAnd (ieq y4.2.1.1 i0.op) (bAnd (ieq y4.2.1.2.1 0) (bAnd (ieq y4.2.1.2.2.1 0) (bAnd (ieq y4.2.1.2.2.2.1 0) (bAnd (ieq y4.2.1.2.2.2.2.1 0) (bAnd (ieq y4.2.1.2.2.2.2.2.1 0) (bAnd (ieq y4.2.1.2.2.2.2.2.2.1 0) (bAnd (ieq y4.2.1.2.2.2.2.2.2.2.1 0) (bAnd (bEq y4.2.1.2.2.2.2.2.2.2.2.1 false) true))))))))))) then
 some ((6 : Int), ())
 else
 some ((0 : Int), ())
 else
 ((isa_look_no () y2.2.1)).bind fun y5 =>
 ((isa_look_lasto () (0 : Int) (4095 : Int) y5.2.1)).bind fun y6 =>
 bif (bif (bNot y6.2.1.2.2.2.2.2.2.2.2.2.1) then true else (bNot (bAnd (ieq y6.2.1.1 i0.op) (bAnd (ieq y6.2.1.2.1 0) (bAnd (ieq y6.2.1.2.2.1 0) (bAnd (ieq y6.2.1.2.2.2.1 0) (bAnd (ieq y6.2.1.2.2.2.2.1 0) (bAnd (ieq y6.2.1.2.2.2.2.2.1 0) (bAnd (ieq y6.2.1.2.2.2.2.2.2.1 0) (bAnd (ieq y6.2.1.2.2.2.2.2.2.2.1 0) (bAnd (bEq y6.2.1.2.2.2.2.2.2.2.2.1 false) true))))))))))) then
 some ((6 : Int), ())
 else
 some ((0 : Int), ())
 else
 bif (ile i0.op 34) then
 ((isa_look_manyo () (i0.op, i0.cond, i0.rd, i0.rn, i0.rm, i0.imm, i0.mode, i0.list, i0.s, true, ()))).bind fun y7 =>
 bif (bif (bNot y7.2.1.2.2.2.2.2.2.2.2.2.1) then true else (bNot (bAnd (ieq y7.2.1.1 i0.op) (bAnd (ieq y7.2.1.2.1 0) (bAnd (ieq y7.2.1.2.2.1 0) (bAnd (ieq y7.2.1.2.2.2.1 0) (bAnd (ieq y7.2.1.2.2.2.2.1 0) (bAnd (ieq y7.2.1.2.2.2.2.2.1 0) (bAnd (ieq y7.2.1.2.2.2.2.2.2.1 0) (bAnd (ieq y7.2.1.2.2.2.2.2.2.2.1 0) (bAnd (bEq y7.2.1.2.2.2.2.2.2.2.2.1 false) true))))))))))) then
 some ((6 : Int), ())
 else
 some ((0 : Int), ())
 else
 ((isa_look_otherso n () (i0.op, i0.cond, i0.rd, i0.rn, i0.rm, i0.imm, i0.mode, i0.list, i0.s, true, ()))).bind fun y8 =>
 bif (bif (bNot y8.2.1.2.2.2.2.2.2.2.2.2.1) then true else (bNot (bAnd (ieq y8.2.1.1 i0.op) (bAnd (ieq y8.2.1.2.1 0) (bAnd (ieq y8.2.1.2.2.1 0) (bAnd (ieq y8.2.1.2.2.2.1 0) (bAnd (ieq y8.2.1.2.2.2.2.1 0) (bAnd (ieq y8.2.1.2.2.2.2.2.1 0) (bAnd (ieq y8.2.1.2.2.2.2.2.2.1 0) (bAnd (ieq y8.2.1.2.2.2.2.2.2.2.1 0) (bAnd (bEq y8.2.1.2.2.2.2.2.2.2.2.1 false) true))))))))))) then
 some ((6 : Int), ())
 else
 some ((0 : Int), ())
def isa_Check_fm (n : Nat) : FM := ⟨[(.ty .ins)], [], (.ty (.i .i64)), true, none, fun a o => isa_Checko n a.1⟩
def isa_Check_cx (n : Nat) : Cx := ⟨ti, ty, gl, fun g => find [] g [(115, [isa_look_data_fm]), (116, [isa_look_d_fm]), (117, [isa_look_n_fm]), (118, [isa_look_last_fm]), (119, [isa_look_many_fm]), (120, [isa_look_others_fm n])], fun k => find none k [], [], false, false⟩
theorem isa_Check_ev (n : Nat) (a : ShTs (isa_Check_fm n).ash) (o : ObTs (isa_Check_fm n).os) : evalF (isa_Check_cx n) Tryz.f82 (isa_Check_fm n) a o = (isa_Check_fm n).run a o := by kernel_rfl
def narrow_pairo (op0 : Int) : Option ((Int × Bool × Unit) × Unit) :=
 bif (ieq op0 1) then
 some (((16384 : Int), true, ()), ())
 else
 bif (ieq op0 2) then
 some (((16448 : Int), true, ()), ())
 else
 bif (ieq op0 16) then
 some (((16512 : Int), true, ()), ())
 else
 bif (ieq op0 17) then
 some (((16576 : Int), true, ()), ())
 else
 bif (ieq op0 18) then
 some (((16640 : Int), true, ()), ())
 else
 bif (ieq op0 6) then
 some (((16704 : Int), true, ()), ())
 else
 bif (ieq op0 8) then
 some (((16768 : Int), true, ()), ())
 else
 bif (ieq op0 19) then
 some (((16832 : Int), true, ()), ())
 else
 bif (ieq op0 3) then
 some (((17152 : Int), true, ()), ())
 else
 bif (ieq op0 4) then
 some (((17280 : Int), true, ()), ())
 else
 some (((0 : Int), false, ()), ())
theorem narrow_pair_tot (op0 : Int) : ∃ r, narrow_pairo op0 = some (r, ()) := by
 unfold narrow_pairo
 repeat' (first | exact ⟨_, rfl⟩ | refine ex_bif ?_ ?_)
def narrow_pair (op0 : Int) : (Int × Bool × Unit) := ((narrow_pairo op0).map Prod.fst).getD (dfS (.tup [(.ty (.i .i64)), (.ty .b)]))
theorem narrow_pair_eq (op0 : Int) : narrow_pairo op0 = some (narrow_pair op0, ()) := by
 obtain ⟨r, h⟩ := narrow_pair_tot op0
 unfold narrow_pair; rw [h]; rfl
def narrow_pair_fm : FM := ⟨[(.ty (.i .i64))], [], (.tup [(.ty (.i .i64)), (.ty .b)]), true, some (fun a o => narrow_pair a.1), fun a o => some (narrow_pair a.1, o)⟩
def narrow_pair_cx : Cx := ⟨ti, ty, gl, fun g => find [] g [], fun k => find none k [], [], false, false⟩
theorem narrow_pair_ev (a : ShTs (narrow_pair_fm).ash) (o : ObTs (narrow_pair_fm).os) : evalF (narrow_pair_cx) Tryz.f158 (narrow_pair_fm) a o = narrow_pairo a.1 := by kernel_rfl
theorem narrow_pair_evt (a : ShTs (narrow_pair_fm).ash) (o : ObTs (narrow_pair_fm).os) : evalF (narrow_pair_cx) Tryz.f158 (narrow_pair_fm) a o = (narrow_pair_fm).run a o := (narrow_pair_ev a o).trans (narrow_pair_eq a.1)
def narrow_low_L2 (n : Nat) (s_2 : Bool) (s_5 : (List Int)) (s_6 : Int) (s_7 : Int) : Option (Option Nat × (Bool × (List Int) × Int × Int × Unit) × Unit) :=
 bif (ilt s_7 s_6) then
 chk (inside s_7 (iof (@xlen (.i .i64) s_5))) (
 bif (bNot (isa_Low (@xget (.i .i64) s_5 (Int.toNat s_7)))) then
 some ((some 1), (false, s_5, s_6, s_7, ()), ())
 else
 some (none, (s_2, s_5, s_6, (wr .i64 (iadd s_7 1)), ()), ()))
 else
 some ((some 0), (s_2, s_5, s_6, s_7, ()), ())
def narrow_low_L2f (n : Nat) (s : (Bool × (List Int) × Int × Int × Unit) × Unit) := narrow_low_L2 n s.1.1 s.1.2.1 s.1.2.2.1 s.1.2.2.2.1
def narrow_low_L2m (n : Nat) : LM := ⟨15, [(2, (.ty .b)), (5, (.ty (.sl (.i .i64)))), (6, (.ty (.i .i64))), (7, (.ty (.i .i64)))], [], [.exit 0, .ret], fun x o => iter (narrow_low_L2f n) n (x, o)⟩
def narrow_lowo (n : Nat) (l0 : (List Int)) : Option (Bool × Unit) :=
 ((iter (narrow_low_L2f n) n ((false, l0, (iof (@xlen (.i .i64) l0)), (0 : Int), ()), ()))).bind fun z1 =>
 bif (Nat.beq z1.1 0) then
 some (true, ())
 else
 some (z1.2.1.1, ())
def narrow_low_fm (n : Nat) : FM := ⟨[(.ty (.sl (.i .i64)))], [], (.ty .b), true, none, fun a o => narrow_lowo n a.1⟩
def narrow_low_cx (n : Nat) : Cx := ⟨ti, ty, gl, fun g => find [] g [(24, [isa_Low_fm])], fun k => find none k [(2, some (narrow_low_L2m n))], [], false, false⟩
theorem narrow_low_L2r (n : Nat) (s : FrT (narrow_low_L2m n).fs × ObTs (narrow_low_L2m n).os) : narrow_low_L2f n s = roundF { narrow_low_cx n with res := [] } (loopOf Tryz.f159 2) (narrow_low_L2m n) s.1 s.2 := by kernel_rfl
theorem narrow_low_ev (n : Nat) (a : ShTs (narrow_low_fm n).ash) (o : ObTs (narrow_low_fm n).os) : evalF (narrow_low_cx n) Tryz.f159 (narrow_low_fm n) a o = (narrow_low_fm n).run a o := by kernel_rfl
def narrow_h7o (r0 : Int) : Option (Int × Unit) :=
 some ((wor .i64 (wshl .i64 (wshr .i64 r0 3) 7) (wand .i64 r0 7)), ())
theorem narrow_h7_tot (r0 : Int) : ∃ r, narrow_h7o r0 = some (r, ()) := by
 unfold narrow_h7o
 repeat' (first | exact ⟨_, rfl⟩ | refine ex_bif ?_ ?_)
def narrow_h7 (r0 : Int) : Int := ((narrow_h7o r0).map Prod.fst).getD (dfS (.ty (.i .i64)))
theorem narrow_h7_eq (r0 : Int) : narrow_h7o r0 = some (narrow_h7 r0, ()) := by
 obtain ⟨r, h⟩ := narrow_h7_tot r0
 unfold narrow_h7; rw [h]; rfl
def narrow_h7_fm : FM := ⟨[(.ty (.i .i64))], [], (.ty (.i .i64)), true, some (fun a o => narrow_h7 a.1), fun a o => some (narrow_h7 a.1, o)⟩
def narrow_h7_cx : Cx := ⟨ti, ty, gl, fun g => find [] g [], fun k => find none k [], [], false, false⟩
theorem narrow_h7_ev (a : ShTs (narrow_h7_fm).ash) (o : ObTs (narrow_h7_fm).os) : evalF (narrow_h7_cx) Tryz.f160 (narrow_h7_fm) a o = narrow_h7o a.1 := by kernel_rfl
theorem narrow_h7_evt (a : ShTs (narrow_h7_fm).ash) (o : ObTs (narrow_h7_fm).os) : evalF (narrow_h7_cx) Tryz.f160 (narrow_h7_fm) a o = (narrow_h7_fm).run a o := (narrow_h7_ev a o).trans (narrow_h7_eq a.1)
def narrow_datao (n : Nat) (s0 : GIns) (s1 : Bool) : Option ((List GForm) × Unit) :=
 let y1 : (Int × Bool × Unit) := (narrow_pair s0.op)
 ((bif (bif (bif y1.2.1 then (ieq s0.rd s0.rn) else false) then (bNot (bEq s0.s s1)) else false) then (narrow_lowo n ([s0.rd, s0.rm] : List Int)) else (some (dfS (.ty .b), dfObs [])))).bind fun y2 =>
 bif (ieq s0.op 11) then
 ((bif (bNot (bEq s0.s s1)) then (narrow_lowo n ([s0.rd, s0.rm] : List Int)) else (some (dfS (.ty .b), dfObs [])))).bind fun y3 =>
 chk (room ((@xlen .form ([(⟨(wor .i64 (wor .i64 y1.1 (wshl .i64 s0.rm 3)) s0.rd), (bif (bif (bif y1.2.1 then (ieq s0.rd s0.rn) else false) then (bNot (bEq s0.s s1)) else false) then y2.1 else false)⟩ : GForm)] : List GForm)) + (@xlen .form ([(⟨(wor .i64 (wor .i64 17344 (wshl .i64 s0.rm 3)) s0.rd), (bif (bNot (bEq s0.s s1)) then y3.1 else false)⟩ : GForm)] : List GForm))) 16) (
 some ((@xapp .form ([(⟨(wor .i64 (wor .i64 y1.1 (wshl .i64 s0.rm 3)) s0.rd), (bif (bif (bif y1.2.1 then (ieq s0.rd s0.rn) else false) then (bNot (bEq s0.s s1)) else false) then y2.1 else false)⟩ : GForm)] : List GForm) ([(⟨(wor .i64 (wor .i64 17344 (wshl .i64 s0.rm 3)) s0.rd), (bif (bNot (bEq s0.s s1)) then y3.1 else false)⟩ : GForm)] : List GForm)), ()))
 else
 bif (ieq s0.op 14) then
 ((narrow_lowo n ([s0.rn, s0.rm] : List Int))).bind fun y4 =>
 chk (room ((@xlen .form ([(⟨(wor .i64 (wor .i64 y1.1 (wshl .i64 s0.rm 3)) s0.rd), (bif (bif (bif y1.2.1 then (ieq s0.rd s0.rn) else false) then (bNot (bEq s0.s s1)) else false) then y2.1 else false)⟩ : GForm)] : List GForm)) + (@xlen .form ([(⟨(wor .i64 (wor .i64 16896 (wshl .i64 s0.rm 3)) s0.rn), y4.1⟩ : GForm)] : List GForm))) 16) (
 some ((@xapp .form ([(⟨(wor .i64 (wor .i64 y1.1 (wshl .i64 s0.rm 3)) s0.rd), (bif (bif (bif y1.2.1 then (ieq s0.rd s0.rn) else false) then (bNot (bEq s0.s s1)) else false) then y2.1 else false)⟩ : GForm)] : List GForm) ([(⟨(wor .i64 (wor .i64 16896 (wshl .i64 s0.rm 3)) s0.rn), y4.1⟩ : GForm)] : List GForm)), ()))
 else
 bif (ieq s0.op 13) then
 ((narrow_lowo n ([s0.rn, s0.rm] : List Int))).bind fun y5 =>
 chk (room ((@xlen .form ([(⟨(wor .i64 (wor .i64 y1.1 (wshl .i64 s0.rm 3)) s0.rd), (bif (bif (bif y1.2.1 then (ieq s0.rd s0.rn) else false) then (bNot (bEq s0.s s1)) else false) then y2.1 else false)⟩ : GForm)] : List GForm)) + (@xlen .form ([(⟨(wor .i64 (wor .i64 17088 (wshl .i64 s0.rm 3)) s0.rn), y5.1⟩ : GForm)] : List GForm))) 16) (
 some ((@xapp .form ([(⟨(wor .i64 (wor .i64 y1.1 (wshl .i64 s0.rm 3)) s0.rd), (bif (bif (bif y1.2.1 then (ieq s0.rd s0.rn) else false) then (bNot (bEq s0.s s1)) else false) then y2.1 else false)⟩ : GForm)] : List GForm) ([(⟨(wor .i64 (wor .i64 17088 (wshl .i64 s0.rm 3)) s0.rn), y5.1⟩ : GForm)] : List GForm)), ()))
 else
 bif (ieq s0.op 12) then
 ((narrow_lowo n ([s0.rn, s0.rm] : List Int))).bind fun y6 =>
 chk (room ((@xlen .form ([(⟨(wor .i64 (wor .i64 y1.1 (wshl .i64 s0.rm 3)) s0.rd), (bif (bif (bif y1.2.1 then (ieq s0.rd s0.rn) else false) then (bNot (bEq s0.s s1)) else false) then y2.1 else false)⟩ : GForm)] : List GForm)) + (@xlen .form ([(⟨(wor .i64 (wor .i64 17024 (wshl .i64 s0.rm 3)) s0.rn), y6.1⟩ : GForm), (⟨(wor .i64 (wor .i64 17664 (wshl .i64 s0.rm 3)) (narrow_h7 s0.rn)), true⟩ : GForm)] : List GForm))) 16) (
 some ((@xapp .form ([(⟨(wor .i64 (wor .i64 y1.1 (wshl .i64 s0.rm 3)) s0.rd), (bif (bif (bif y1.2.1 then (ieq s0.rd s0.rn) else false) then (bNot (bEq s0.s s1)) else false) then y2.1 else false)⟩ : GForm)] : List GForm) ([(⟨(wor .i64 (wor .i64 17024 (wshl .i64 s0.rm 3)) s0.rn), y6.1⟩ : GForm), (⟨(wor .i64 (wor .i64 17664 (wshl .i64 s0.rm 3)) (narrow_h7 s0.rn)), true⟩ : GForm)] : List GForm)), ()))
 else
 bif (ieq s0.op 10) then
 ((bif (bif s0.s then (bNot s1) else false) then (narrow_lowo n ([s0.rd, s0.rm] : List Int)) else (some (dfS (.ty .b), dfObs [])))).bind fun y7 =>
 chk (room ((@xlen .form ([(⟨(wor .i64 (wor .i64 y1.1 (wshl .i64 s0.rm 3)) s0.rd), (bif (bif (bif y1.2.1 then (ieq s0.rd s0.rn) else false) then (bNot (bEq s0.s s1)) else false) then y2.1 else false)⟩ : GForm)] : List GForm)) + (@xlen .form ([(⟨(wor .i64 (wshl .i64 s0.rm 3) s0.rd), (bif (bif s0.s then (bNot s1) else false) then y7.1 else false)⟩ : GForm), (⟨(wor .i64 (wor .i64 17920 (wshl .i64 s0.rm 3)) (narrow_h7 s0.rd)), (bNot s0.s)⟩ : GForm)] : List GForm))) 16) (
 some ((@xapp .form ([(⟨(wor .i64 (wor .i64 y1.1 (wshl .i64 s0.rm 3)) s0.rd), (bif (bif (bif y1.2.1 then (ieq s0.rd s0.rn) else false) then (bNot (bEq s0.s s1)) else false) then y2.1 else false)⟩ : GForm)] : List GForm) ([(⟨(wor .i64 (wshl .i64 s0.rm 3) s0.rd), (bif (bif s0.s then (bNot s1) else false) then y7.1 else false)⟩ : GForm), (⟨(wor .i64 (wor .i64 17920 (wshl .i64 s0.rm 3)) (narrow_h7 s0.rd)), (bNot s0.s)⟩ : GForm)] : List GForm)), ()))
 else
 bif (ieq s0.op 5) then
 ((bif (bNot (bEq s0.s s1)) then (narrow_lowo n ([s0.rd, s0.rn, s0.rm] : List Int)) else (some (dfS (.ty .b), dfObs [])))).bind fun y8 =>
 chk (room ((@xlen .form ([(⟨(wor .i64 (wor .i64 y1.1 (wshl .i64 s0.rm 3)) s0.rd), (bif (bif (bif y1.2.1 then (ieq s0.rd s0.rn) else false) then (bNot (bEq s0.s s1)) else false) then y2.1 else false)⟩ : GForm)] : List GForm)) + (@xlen .form ([(⟨(wor .i64 (wor .i64 (wor .i64 6144 (wshl .i64 s0.rm 6)) (wshl .i64 s0.rn 3)) s0.rd), (bif (bNot (bEq s0.s s1)) then y8.1 else false)⟩ : GForm), (⟨(wor .i64 (wor .i64 17408 (wshl .i64 s0.rm 3)) (narrow_h7 s0.rd)), (bif (ieq s0.rd s0.rn) then (bNot s0.s) else false)⟩ : GForm)] : List GForm))) 16) (
 some ((@xapp .form ([(⟨(wor .i64 (wor .i64 y1.1 (wshl .i64 s0.rm 3)) s0.rd), (bif (bif (bif y1.2.1 then (ieq s0.rd s0.rn) else false) then (bNot (bEq s0.s s1)) else false) then y2.1 else false)⟩ : GForm)] : List GForm) ([(⟨(wor .i64 (wor .i64 (wor .i64 6144 (wshl .i64 s0.rm 6)) (wshl .i64 s0.rn 3)) s0.rd), (bif (bNot (bEq s0.s s1)) then y8.1 else false)⟩ : GForm), (⟨(wor .i64 (wor .i64 17408 (wshl .i64 s0.rm 3)) (narrow_h7 s0.rd)), (bif (ieq s0.rd s0.rn) then (bNot s0.s) else false)⟩ : GForm)] : List GForm)), ()))
 else
 bif (ieq s0.op 7) then
 ((bif (bNot (bEq s0.s s1)) then (narrow_lowo n ([s0.rd, s0.rn, s0.rm] : List Int)) else (some (dfS (.ty .b), dfObs [])))).bind fun y9 =>
 chk (room ((@xlen .form ([(⟨(wor .i64 (wor .i64 y1.1 (wshl .i64 s0.rm 3)) s0.rd), (bif (bif (bif y1.2.1 then (ieq s0.rd s0.rn) else false) then (bNot (bEq s0.s s1)) else false) then y2.1 else false)⟩ : GForm)] : List GForm)) + (@xlen .form ([(⟨(wor .i64 (wor .i64 (wor .i64 6656 (wshl .i64 s0.rm 6)) (wshl .i64 s0.rn 3)) s0.rd), (bif (bNot (bEq s0.s s1)) then y9.1 else false)⟩ : GForm)] : List GForm))) 16) (
 some ((@xapp .form ([(⟨(wor .i64 (wor .i64 y1.1 (wshl .i64 s0.rm 3)) s0.rd), (bif (bif (bif y1.2.1 then (ieq s0.rd s0.rn) else false) then (bNot (bEq s0.s s1)) else false) then y2.1 else false)⟩ : GForm)] : List GForm) ([(⟨(wor .i64 (wor .i64 (wor .i64 6656 (wshl .i64 s0.rm 6)) (wshl .i64 s0.rn 3)) s0.rd), (bif (bNot (bEq s0.s s1)) then y9.1 else false)⟩ : GForm)] : List GForm)), ()))
 else
 some (([(⟨(wor .i64 (wor .i64 y1.1 (wshl .i64 s0.rm 3)) s0.rd), (bif (bif (bif y1.2.1 then (ieq s0.rd s0.rn) else false) then (bNot (bEq s0.s s1)) else false) then y2.1 else false)⟩ : GForm)] : List GForm), ())
def narrow_data_fm (n : Nat) : FM := ⟨[(.ty .ins), (.ty .b)], [], (.own .form), true, none, fun a o => narrow_datao n a.1 a.2.1⟩
def narrow_data_cx (n : Nat) : Cx := ⟨ti, ty, gl, fun g => find [] g [(158, [narrow_pair_fm]), (159, [narrow_low_fm n]), (160, [narrow_h7_fm])], fun k => find none k [], [], false, true⟩
theorem narrow_data_ev (n : Nat) (a : ShTs (narrow_data_fm n).ash) (o : ObTs (narrow_data_fm n).os) : evalF (narrow_data_cx n) Tryz.f121 (narrow_data_fm n) a o = (narrow_data_fm n).run a o := by kernel_rfl
def narrow_numso (n : Nat) (s0 : GIns) (s1 : Bool) : Option ((List GForm) × Unit) :=
 bif (ieq s0.op 9) then
 ((bif (bif (ieq s0.imm 0) then (bNot (bEq s0.s s1)) else false) then (narrow_lowo n ([s0.rd, s0.rn] : List Int)) else (some (dfS (.ty .b), dfObs [])))).bind fun y1 =>
 some (([(⟨(wor .i64 (wor .i64 16960 (wshl .i64 s0.rn 3)) s0.rd), (bif (bif (ieq s0.imm 0) then (bNot (bEq s0.s s1)) else false) then y1.1 else false)⟩ : GForm)] : List GForm), ())
 else
 bif (ieq s0.op 12) then
 ((bif (ile s0.imm 255) then (narrow_lowo n ([s0.rn] : List Int)) else (some (dfS (.ty .b), dfObs [])))).bind fun y2 =>
 some (([(⟨(wor .i64 (wor .i64 10240 (wshl .i64 s0.rn 8)) s0.imm), (bif (ile s0.imm 255) then y2.1 else false)⟩ : GForm)] : List GForm), ())
 else
 bif (ieq s0.op 10) then
 ((bif (bif (ile s0.imm 255) then (bNot (bEq s0.s s1)) else false) then (narrow_lowo n ([s0.rd] : List Int)) else (some (dfS (.ty .b), dfObs [])))).bind fun y3 =>
 some (([(⟨(wor .i64 (wor .i64 8192 (wshl .i64 s0.rd 8)) s0.imm), (bif (bif (ile s0.imm 255) then (bNot (bEq s0.s s1)) else false) then y3.1 else false)⟩ : GForm)] : List GForm), ())
 else
 bif (ieq s0.op 16) then
 bif (ieq s0.op 16) then
 ((bif (bNot (bEq s0.s s1)) then (narrow_lowo n ([s0.rd, s0.rn] : List Int)) else (some (dfS (.ty .b), dfObs [])))).bind fun y4 =>
 some (([(⟨(wor .i64 (wor .i64 (wor .i64 (wshl .i64 (wr .i64 (isub s0.op 16)) 11) (wshl .i64 (wand .i64 s0.imm 31) 6)) (wshl .i64 s0.rn 3)) s0.rd), (bif (bNot (bEq s0.s s1)) then y4.1 else false)⟩ : GForm)] : List GForm), ())
 else
 bif (ieq s0.op 7) then
 ((bif (bif (ile s0.imm 7) then (bNot (bEq s0.s s1)) else false) then (narrow_lowo n ([s0.rd, s0.rn] : List Int)) else (some (dfS (.ty .b), dfObs [])))).bind fun y5 =>
 ((bif (bif (bif (ile s0.imm 255) then (ieq s0.rd s0.rn) else false) then (bNot (bEq s0.s s1)) else false) then (narrow_lowo n ([s0.rd] : List Int)) else (some (dfS (.ty .b), dfObs [])))).bind fun y6 =>
 some (([(⟨(wor .i64 (wor .i64 (wor .i64 7680 (wshl .i64 s0.imm 6)) (wshl .i64 s0.rn 3)) s0.rd), (bif (bif (ile s0.imm 7) then (bNot (bEq s0.s s1)) else false) then y5.1 else false)⟩ : GForm), (⟨(wor .i64 (wor .i64 14336 (wshl .i64 s0.rd 8)) s0.imm), (bif (bif (bif (ile s0.imm 255) then (ieq s0.rd s0.rn) else false) then (bNot (bEq s0.s s1)) else false) then y6.1 else false)⟩ : GForm)] : List GForm), ())
 else
 bif (ieq s0.op 5) then
 ((bif (bif (ile s0.imm 7) then (bNot (bEq s0.s s1)) else false) then (narrow_lowo n ([s0.rd, s0.rn] : List Int)) else (some (dfS (.ty .b), dfObs [])))).bind fun y7 =>
 ((bif (bif (bif (ile s0.imm 255) then (ieq s0.rd s0.rn) else false) then (bNot (bEq s0.s s1)) else false) then (narrow_lowo n ([s0.rd] : List Int)) else (some (dfS (.ty .b), dfObs [])))).bind fun y8 =>
 some (([(⟨(wor .i64 (wor .i64 (wor .i64 7168 (wshl .i64 s0.imm 6)) (wshl .i64 s0.rn 3)) s0.rd), (bif (bif (ile s0.imm 7) then (bNot (bEq s0.s s1)) else false) then y7.1 else false)⟩ : GForm), (⟨(wor .i64 (wor .i64 12288 (wshl .i64 s0.rd 8)) s0.imm), (bif (bif (bif (ile s0.imm 255) then (ieq s0.rd s0.rn) else false) then (bNot (bEq s0.s s1)) else false) then y8.1 else false)⟩ : GForm)] : List GForm), ())
 else
 some (([] : List GForm), ())
 else
 bif (ieq s0.op 17) then
 bif (ieq s0.op 17) then
 ((bif (bNot (bEq s0.s s1)) then (narrow_lowo n ([s0.rd, s0.rn] : List Int)) else (some (dfS (.ty .b), dfObs [])))).bind fun y9 =>
 some (([(⟨(wor .i64 (wor .i64 (wor .i64 (wshl .i64 (wr .i64 (isub s0.op 16)) 11) (wshl .i64 (wand .i64 s0.imm 31) 6)) (wshl .i64 s0.rn 3)) s0.rd), (bif (bNot (bEq s0.s s1)) then y9.1 else false)⟩ : GForm)] : List GForm), ())
 else
 bif (ieq s0.op 7) then
 ((bif (bif (ile s0.imm 7) then (bNot (bEq s0.s s1)) else false) then (narrow_lowo n ([s0.rd, s0.rn] : List Int)) else (some (dfS (.ty .b), dfObs [])))).bind fun y10 =>
 ((bif (bif (bif (ile s0.imm 255) then (ieq s0.rd s0.rn) else false) then (bNot (bEq s0.s s1)) else false) then (narrow_lowo n ([s0.rd] : List Int)) else (some (dfS (.ty .b), dfObs [])))).bind fun y11 =>
 some (([(⟨(wor .i64 (wor .i64 (wor .i64 7680 (wshl .i64 s0.imm 6)) (wshl .i64 s0.rn 3)) s0.rd), (bif (bif (ile s0.imm 7) then (bNot (bEq s0.s s1)) else false) then y10.1 else false)⟩ : GForm), (⟨(wor .i64 (wor .i64 14336 (wshl .i64 s0.rd 8)) s0.imm), (bif (bif (bif (ile s0.imm 255) then (ieq s0.rd s0.rn) else false) then (bNot (bEq s0.s s1)) else false) then y11.1 else false)⟩ : GForm)] : List GForm), ())
 else
 bif (ieq s0.op 5) then
 ((bif (bif (ile s0.imm 7) then (bNot (bEq s0.s s1)) else false) then (narrow_lowo n ([s0.rd, s0.rn] : List Int)) else (some (dfS (.ty .b), dfObs [])))).bind fun y12 =>
 ((bif (bif (bif (ile s0.imm 255) then (ieq s0.rd s0.rn) else false) then (bNot (bEq s0.s s1)) else false) then (narrow_lowo n ([s0.rd] : List Int)) else (some (dfS (.ty .b), dfObs [])))).bind fun y13 =>
 some (([(⟨(wor .i64 (wor .i64 (wor .i64 7168 (wshl .i64 s0.imm 6)) (wshl .i64 s0.rn 3)) s0.rd), (bif (bif (ile s0.imm 7) then (bNot (bEq s0.s s1)) else false) then y12.1 else false)⟩ : GForm), (⟨(wor .i64 (wor .i64 12288 (wshl .i64 s0.rd 8)) s0.imm), (bif (bif (bif (ile s0.imm 255) then (ieq s0.rd s0.rn) else false) then (bNot (bEq s0.s s1)) else false) then y13.1 else false)⟩ : GForm)] : List GForm), ())
 else
 some (([] : List GForm), ())
 else
 bif (ieq s0.op 18) then
 ((bif (bNot (bEq s0.s s1)) then (narrow_lowo n ([s0.rd, s0.rn] : List Int)) else (some (dfS (.ty .b), dfObs [])))).bind fun y14 =>
 some (([(⟨(wor .i64 (wor .i64 (wor .i64 (wshl .i64 (wr .i64 (isub s0.op 16)) 11) (wshl .i64 (wand .i64 s0.imm 31) 6)) (wshl .i64 s0.rn 3)) s0.rd), (bif (bNot (bEq s0.s s1)) then y14.1 else false)⟩ : GForm)] : List GForm), ())
 else
 bif (ieq s0.op 7) then
 ((bif (bif (ile s0.imm 7) then (bNot (bEq s0.s s1)) else false) then (narrow_lowo n ([s0.rd, s0.rn] : List Int)) else (some (dfS (.ty .b), dfObs [])))).bind fun y15 =>
 ((bif (bif (bif (ile s0.imm 255) then (ieq s0.rd s0.rn) else false) then (bNot (bEq s0.s s1)) else false) then (narrow_lowo n ([s0.rd] : List Int)) else (some (dfS (.ty .b), dfObs [])))).bind fun y16 =>
 some (([(⟨(wor .i64 (wor .i64 (wor .i64 7680 (wshl .i64 s0.imm 6)) (wshl .i64 s0.rn 3)) s0.rd), (bif (bif (ile s0.imm 7) then (bNot (bEq s0.s s1)) else false) then y15.1 else false)⟩ : GForm), (⟨(wor .i64 (wor .i64 14336 (wshl .i64 s0.rd 8)) s0.imm), (bif (bif (bif (ile s0.imm 255) then (ieq s0.rd s0.rn) else false) then (bNot (bEq s0.s s1)) else false) then y16.1 else false)⟩ : GForm)] : List GForm), ())
 else
 bif (ieq s0.op 5) then
 ((bif (bif (ile s0.imm 7) then (bNot (bEq s0.s s1)) else false) then (narrow_lowo n ([s0.rd, s0.rn] : List Int)) else (some (dfS (.ty .b), dfObs [])))).bind fun y17 =>
 ((bif (bif (bif (ile s0.imm 255) then (ieq s0.rd s0.rn) else false) then (bNot (bEq s0.s s1)) else false) then (narrow_lowo n ([s0.rd] : List Int)) else (some (dfS (.ty .b), dfObs [])))).bind fun y18 =>
 some (([(⟨(wor .i64 (wor .i64 (wor .i64 7168 (wshl .i64 s0.imm 6)) (wshl .i64 s0.rn 3)) s0.rd), (bif (bif (ile s0.imm 7) then (bNot (bEq s0.s s1)) else false) then y17.1 else false)⟩ : GForm), (⟨(wor .i64 (wor .i64 12288 (wshl .i64 s0.rd 8)) s0.imm), (bif (bif (bif (ile s0.imm 255) then (ieq s0.rd s0.rn) else false) then (bNot (bEq s0.s s1)) else false) then y18.1 else false)⟩ : GForm)] : List GForm), ())
 else
 some (([] : List GForm), ())
def narrow_nums_fm (n : Nat) : FM := ⟨[(.ty .ins), (.ty .b)], [], (.own .form), true, none, fun a o => narrow_numso n a.1 a.2.1⟩
def narrow_nums_cx (n : Nat) : Cx := ⟨ti, ty, gl, fun g => find [] g [(159, [narrow_low_fm n])], fun k => find none k [], [], false, true⟩
theorem narrow_nums_ev (n : Nat) (a : ShTs (narrow_nums_fm n).ash) (o : ObTs (narrow_nums_fm n).os) : evalF (narrow_nums_cx n) Tryz.f122 (narrow_nums_fm n) a o = (narrow_nums_fm n).run a o := by kernel_rfl
def narrow_loado (n : Nat) (s0 : GIns) : Option ((List GForm) × Unit) :=
 bif (ieq s0.mode 2) then
 chk (inside (wr .i64 (isub s0.op 25)) (iof 6)) (
 ((narrow_lowo n ([s0.rd, s0.rn, s0.rm] : List Int))).bind fun y1 =>
 some (([(⟨(wor .i64 (wor .i64 (wor .i64 (@xget (.i .i64) ([22528, 23552, 23040, 20480, 21504, 20992] : List Int) (Int.toNat (wr .i64 (isub s0.op 25)))) (wshl .i64 s0.rm 6)) (wshl .i64 s0.rn 3)) s0.rd), y1.1⟩ : GForm)] : List GForm), ()))
 else
 chk (inside (wr .i64 (isub s0.op 25)) (iof 6)) (
 chk (inside (wr .i64 (isub s0.op 25)) (iof 6)) (
 chk (bNot (ieq (@xget (.i .i64) ([4, 1, 2, 4, 1, 2] : List Int) (Int.toNat (wr .i64 (isub s0.op 25)))) 0)) (
 ((narrow_lowo n ([s0.rd, s0.rn] : List Int))).bind fun y2 =>
 chk (bNot (bAnd (bNot (bNot (ieq (@xget (.i .i64) ([4, 1, 2, 4, 1, 2] : List Int) (Int.toNat (wr .i64 (isub s0.op 25)))) 0))) y2.1)) (
 chk (bNot (bAnd (bNot (bNot (ieq (@xget (.i .i64) ([4, 1, 2, 4, 1, 2] : List Int) (Int.toNat (wr .i64 (isub s0.op 25)))) 0))) (bif y2.1 then (ieq (wrem s0.imm (@xget (.i .i64) ([4, 1, 2, 4, 1, 2] : List Int) (Int.toNat (wr .i64 (isub s0.op 25))))) 0) else false))) (
 bif (bif (ieq (@xget (.i .i64) ([4, 1, 2, 4, 1, 2] : List Int) (Int.toNat (wr .i64 (isub s0.op 25)))) 4) then (ieq s0.rn 13) else false) then
 chk (inside (wr .i64 (isub s0.op 25)) (iof 6)) (
 ((narrow_lowo n ([s0.rd] : List Int))).bind fun y3 =>
 chk (room ((@xlen .form ([(⟨(wor .i64 (wor .i64 (wor .i64 (@xget (.i .i64) ([26624, 30720, 34816, 24576, 28672, 32768] : List Int) (Int.toNat (wr .i64 (isub s0.op 25)))) (wshl .i64 (wquo .i64 s0.imm (@xget (.i .i64) ([4, 1, 2, 4, 1, 2] : List Int) (Int.toNat (wr .i64 (isub s0.op 25))))) 6)) (wshl .i64 s0.rn 3)) s0.rd), (bif (bif y2.1 then (ieq (wrem s0.imm (@xget (.i .i64) ([4, 1, 2, 4, 1, 2] : List Int) (Int.toNat (wr .i64 (isub s0.op 25))))) 0) else false) then (ilt (wquo .i64 s0.imm (@xget (.i .i64) ([4, 1, 2, 4, 1, 2] : List Int) (Int.toNat (wr .i64 (isub s0.op 25))))) 32) else false)⟩ : GForm)] : List GForm)) + (@xlen .form ([(⟨(wor .i64 (wor .i64 (@xget (.i .i64) ([38912, 0, 0, 36864, 0, 0] : List Int) (Int.toNat (wr .i64 (isub s0.op 25)))) (wshl .i64 s0.rd 8)) (wquo .i64 s0.imm 4)), (bif (bif y3.1 then (ieq (wrem s0.imm 4) 0) else false) then (ile s0.imm 1020) else false)⟩ : GForm)] : List GForm))) 16) (
 some ((@xapp .form ([(⟨(wor .i64 (wor .i64 (wor .i64 (@xget (.i .i64) ([26624, 30720, 34816, 24576, 28672, 32768] : List Int) (Int.toNat (wr .i64 (isub s0.op 25)))) (wshl .i64 (wquo .i64 s0.imm (@xget (.i .i64) ([4, 1, 2, 4, 1, 2] : List Int) (Int.toNat (wr .i64 (isub s0.op 25))))) 6)) (wshl .i64 s0.rn 3)) s0.rd), (bif (bif y2.1 then (ieq (wrem s0.imm (@xget (.i .i64) ([4, 1, 2, 4, 1, 2] : List Int) (Int.toNat (wr .i64 (isub s0.op 25))))) 0) else false) then (ilt (wquo .i64 s0.imm (@xget (.i .i64) ([4, 1, 2, 4, 1, 2] : List Int) (Int.toNat (wr .i64 (isub s0.op 25))))) 32) else false)⟩ : GForm)] : List GForm) ([(⟨(wor .i64 (wor .i64 (@xget (.i .i64) ([38912, 0, 0, 36864, 0, 0] : List Int) (Int.toNat (wr .i64 (isub s0.op 25)))) (wshl .i64 s0.rd 8)) (wquo .i64 s0.imm 4)), (bif (bif y3.1 then (ieq (wrem s0.imm 4) 0) else false) then (ile s0.imm 1020) else false)⟩ : GForm)] : List GForm)), ())))
 else
 some (([(⟨(wor .i64 (wor .i64 (wor .i64 (@xget (.i .i64) ([26624, 30720, 34816, 24576, 28672, 32768] : List Int) (Int.toNat (wr .i64 (isub s0.op 25)))) (wshl .i64 (wquo .i64 s0.imm (@xget (.i .i64) ([4, 1, 2, 4, 1, 2] : List Int) (Int.toNat (wr .i64 (isub s0.op 25))))) 6)) (wshl .i64 s0.rn 3)) s0.rd), (bif (bif y2.1 then (ieq (wrem s0.imm (@xget (.i .i64) ([4, 1, 2, 4, 1, 2] : List Int) (Int.toNat (wr .i64 (isub s0.op 25))))) 0) else false) then (ilt (wquo .i64 s0.imm (@xget (.i .i64) ([4, 1, 2, 4, 1, 2] : List Int) (Int.toNat (wr .i64 (isub s0.op 25))))) 32) else false)⟩ : GForm)] : List GForm), ()))))))
def narrow_load_fm (n : Nat) : FM := ⟨[(.ty .ins)], [], (.own .form), true, none, fun a o => narrow_loado n a.1⟩
def narrow_load_cx (n : Nat) : Cx := ⟨ti, ty, gl, fun g => find [] g [(159, [narrow_low_fm n])], fun k => find none k [], [], false, true⟩
theorem narrow_load_ev (n : Nat) (a : ShTs (narrow_load_fm n).ash) (o : ObTs (narrow_load_fm n).os) : evalF (narrow_load_cx n) Tryz.f123 (narrow_load_fm n) a o = (narrow_load_fm n).run a o := by kernel_rfl
def offs_Fitso (k0 : Int) (off1 : Int) : Option (Bool × Unit) :=
 bif (bif (bif (ilt k0 1) then true else (ile 6 k0)) then true else (bNot (ieq (wand .i64 off1 1) 0))) then
 some (false, ())
 else
 chk (inside k0 (iof 6)) (
 let x1 : GForm := (@xget .form ([(⟨0, false⟩ : GForm), (⟨8, true⟩ : GForm), (⟨11, true⟩ : GForm), (⟨20, true⟩ : GForm), (⟨24, true⟩ : GForm), (⟨6, false⟩ : GForm)] : List GForm) (Int.toNat k0))
 bif (bNot x1.is) then
 chk (bNot (bAnd (bNot (inside k0 (iof 6))) (ile 0 (wshr .i64 off1 1)))) (
 let x2 : GForm := (@xget .form ([(⟨0, false⟩ : GForm), (⟨8, true⟩ : GForm), (⟨11, true⟩ : GForm), (⟨20, true⟩ : GForm), (⟨24, true⟩ : GForm), (⟨6, false⟩ : GForm)] : List GForm) (Int.toNat k0))
 chk (bNot (bAnd (bNot (ile 0 x2.h)) (ile 0 (wshr .i64 off1 1)))) (
 some ((bif (ile 0 (wshr .i64 off1 1)) then (ilt (wshr .i64 off1 1) (wshl .i64 1 x2.h)) else false), ())))
 else
 chk (inside k0 (iof 6)) (
 let x3 : GForm := (@xget .form ([(⟨0, false⟩ : GForm), (⟨8, true⟩ : GForm), (⟨11, true⟩ : GForm), (⟨20, true⟩ : GForm), (⟨24, true⟩ : GForm), (⟨6, false⟩ : GForm)] : List GForm) (Int.toNat k0))
 chk (ile 0 (wr .i64 (isub x3.h 1))) (
 some ((bif (ile (wr .i64 (isub 0 (wshl .i64 1 (wr .i64 (isub x3.h 1))))) (wshr .i64 off1 1)) then (ilt (wshr .i64 off1 1) (wshl .i64 1 (wr .i64 (isub x3.h 1)))) else false), ()))))
def offs_Fits_fm : FM := ⟨[(.ty (.i .i64)), (.ty (.i .i64))], [], (.ty .b), true, none, fun a o => offs_Fitso a.1 a.2.1⟩
def offs_Fits_cx : Cx := ⟨ti, ty, gl, fun g => find [] g [], fun k => find none k [], [], false, false⟩
theorem offs_Fits_ev (a : ShTs (offs_Fits_fm).ash) (o : ObTs (offs_Fits_fm).os) : evalF (offs_Fits_cx) Tryz.f64 (offs_Fits_fm) a o = (offs_Fits_fm).run a o := by kernel_rfl
def bits_fieldo (hi0 : Int) (lo1 : Int) : Option (Int × Unit) :=
 bif (bif (bif (ilt lo1 0) then true else (ilt hi0 lo1)) then true else (ilt 31 hi0)) then
 some ((0 : Int), ())
 else
 chk (ile 0 (wr .i64 (iadd (wr .i64 (isub hi0 lo1)) 1))) (
 chk (ile 0 lo1) (
 some ((wshl .u32 (wr .u32 (isub (wshl .u32 1 (wr .i64 (iadd (wr .i64 (isub hi0 lo1)) 1))) 1)) lo1), ())))
def bits_field_fm : FM := ⟨[(.ty (.i .i64)), (.ty (.i .i64))], [], (.ty (.i .u32)), true, none, fun a o => bits_fieldo a.1 a.2.1⟩
def bits_field_cx : Cx := ⟨ti, ty, gl, fun g => find [] g [], fun k => find none k [], [], false, false⟩
theorem bits_field_ev (a : ShTs (bits_field_fm).ash) (o : ObTs (bits_field_fm).os) : evalF (bits_field_cx) Tryz.f189 (bits_field_fm) a o = (bits_field_fm).run a o := by kernel_rfl
def bits_Geto (x0 : Int) (hi1 : Int) (lo2 : Int) : Option (Int × Unit) :=
 ((bits_fieldo hi1 lo2)).bind fun y1 =>
 bif (ieq y1.1 0) then
 some ((0 : Int), ())
 else
 chk (ile 0 lo2) (
 some ((wshr .u32 (wand .u32 x0 y1.1) lo2), ()))
def bits_Get_fm : FM := ⟨[(.ty (.i .u32)), (.ty (.i .i64)), (.ty (.i .i64))], [], (.ty (.i .u32)), true, none, fun a o => bits_Geto a.1 a.2.1 a.2.2.1⟩
def bits_Get_cx : Cx := ⟨ti, ty, gl, fun g => find [] g [(189, [bits_field_fm])], fun k => find none k [], [], false, false⟩
theorem bits_Get_ev (a : ShTs (bits_Get_fm).ash) (o : ObTs (bits_Get_fm).os) : evalF (bits_Get_cx) Tryz.f184 (bits_Get_fm) a o = (bits_Get_fm).run a o := by kernel_rfl
def offs_Puto (s0 : Int) (s1 : Int) : Option ((Int × Int × Unit) × Unit) :=
 ((offs_Fitso s0 s1)).bind fun y1 =>
 bif (bNot y1.1) then
 some (((0 : Int), (0 : Int), ()), ())
 else
 bif (ieq s0 1) then
 some (((wr .i64 (wand .u32 (wr .u32 (wshr .i64 s1 1)) 255)), (0 : Int), ()), ())
 else
 bif (ieq s0 2) then
 some (((wr .i64 (wand .u32 (wr .u32 (wshr .i64 s1 1)) 2047)), (0 : Int), ()), ())
 else
 bif (ieq s0 3) then
 ((bits_Geto (wr .u32 (wshr .i64 s1 1)) (16 : Int) (11 : Int))).bind fun y2 =>
 ((bits_Geto (wr .u32 (wshr .i64 s1 1)) (17 : Int) (17 : Int))).bind fun y3 =>
 ((bits_Geto (wr .u32 (wshr .i64 s1 1)) (18 : Int) (18 : Int))).bind fun y4 =>
 some (((wr .i64 (wor .u32 (wshl .u32 (wshr .u32 (wr .u32 (wshr .i64 s1 1)) 31) 10) y2.1)), (wr .i64 (wor .u32 (wor .u32 (wshl .u32 y3.1 13) (wshl .u32 y4.1 11)) (wand .u32 (wr .u32 (wshr .i64 s1 1)) 2047))), ()), ())
 else
 bif (ieq s0 4) then
 ((bits_Geto (wr .u32 (wshr .i64 s1 1)) (22 : Int) (22 : Int))).bind fun y5 =>
 ((bits_Geto (wr .u32 (wshr .i64 s1 1)) (21 : Int) (21 : Int))).bind fun y6 =>
 ((bits_Geto (wr .u32 (wshr .i64 s1 1)) (20 : Int) (11 : Int))).bind fun y7 =>
 some (((wr .i64 (wor .u32 (wshl .u32 (wshr .u32 (wr .u32 (wshr .i64 s1 1)) 31) 10) y7.1)), (wr .i64 (wor .u32 (wor .u32 (wshl .u32 (wxor .u32 (wxor .u32 y5.1 (wshr .u32 (wr .u32 (wshr .i64 s1 1)) 31)) 1) 13) (wshl .u32 (wxor .u32 (wxor .u32 y6.1 (wshr .u32 (wr .u32 (wshr .i64 s1 1)) 31)) 1) 11)) (wand .u32 (wr .u32 (wshr .i64 s1 1)) 2047))), ()), ())
 else
 ((bits_Geto (wr .u32 (wshr .i64 s1 1)) (5 : Int) (5 : Int))).bind fun y8 =>
 some (((wr .i64 (wor .u32 (wshl .u32 y8.1 9) (wshl .u32 (wand .u32 (wr .u32 (wshr .i64 s1 1)) 31) 3))), (0 : Int), ()), ())
def offs_Put_fm : FM := ⟨[(.ty (.i .i64)), (.ty (.i .i64))], [], (.tup [(.ty (.i .i64)), (.ty (.i .i64))]), true, none, fun a o => offs_Puto a.1 a.2.1⟩
def offs_Put_cx : Cx := ⟨ti, ty, gl, fun g => find [] g [(64, [offs_Fits_fm]), (184, [bits_Get_fm])], fun k => find none k [], [], false, false⟩
theorem offs_Put_ev (a : ShTs (offs_Put_fm).ash) (o : ObTs (offs_Put_fm).os) : evalF (offs_Put_cx) Tryz.f177 (offs_Put_fm) a o = (offs_Put_fm).run a o := by kernel_rfl
def narrow_nearo (h0 : Int) (kind1 : Int) (off2 : Int) (ok3 : Bool) : Option (GForm × Unit) :=
 ((offs_Puto kind1 off2)).bind fun y1 =>
 ((bif ok3 then (offs_Fitso kind1 off2) else (some (dfS (.ty .b), dfObs [])))).bind fun y2 =>
 some ((⟨(wor .i64 h0 y1.1.1), (bif ok3 then y2.1 else false)⟩ : GForm), ())
def narrow_near_fm : FM := ⟨[(.ty (.i .i64)), (.ty (.i .i64)), (.ty (.i .i64)), (.ty .b)], [], (.ty .form), true, none, fun a o => narrow_nearo a.1 a.2.1 a.2.2.1 a.2.2.2.1⟩
def narrow_near_cx : Cx := ⟨ti, ty, gl, fun g => find [] g [(177, [offs_Put_fm]), (64, [offs_Fits_fm])], fun k => find none k [], [], false, false⟩
theorem narrow_near_ev (a : ShTs (narrow_near_fm).ash) (o : ObTs (narrow_near_fm).os) : evalF (narrow_near_cx) Tryz.f161 (narrow_near_fm) a o = (narrow_near_fm).run a o := by kernel_rfl
def narrow_resto (n : Nat) (s0 : GIns) (s1 : Bool) : Option (GForm × Unit) :=
 ((narrow_lowo n ([s0.rd] : List Int))).bind fun y1 =>
 bif (ieq s0.op 20) then
 ((bif (bif s1 then (ieq s0.rd s0.rm) else false) then (narrow_lowo n ([s0.rd, s0.rn] : List Int)) else (some (dfS (.ty .b), dfObs [])))).bind fun y2 =>
 some ((⟨(wor .i64 (wor .i64 17216 (wshl .i64 s0.rn 3)) s0.rd), (bif (bif s1 then (ieq s0.rd s0.rm) else false) then y2.1 else false)⟩ : GForm), ())
 else
 bif (ieq s0.op 32) then
 ((narrow_lowo n ([s0.rn] : List Int))).bind fun y3 =>
 some ((⟨(wor .i64 (wor .i64 49152 (wshl .i64 s0.rn 8)) (wand .i64 s0.list 255)), (bif y3.1 then (ieq s0.list (wand .i64 s0.list 255)) else false)⟩ : GForm), ())
 else
 bif (ieq s0.op 31) then
 ((narrow_lowo n ([s0.rn] : List Int))).bind fun y4 =>
 some ((⟨(wor .i64 (wor .i64 51200 (wshl .i64 s0.rn 8)) (wand .i64 s0.list 255)), (bif y4.1 then (ieq s0.list (wand .i64 s0.list 255)) else false)⟩ : GForm), ())
 else
 bif (ieq s0.op 33) then
 some ((⟨(wor .i64 (wor .i64 46080 (wshl .i64 (wand .i64 (wshr .i64 s0.list 14) 1) 8)) (wand .i64 s0.list 255)), (ieq (wandn .i64 s0.list 16639) 0)⟩ : GForm), ())
 else
 bif (ieq s0.op 34) then
 some ((⟨(wor .i64 (wor .i64 48128 (wshl .i64 (wand .i64 (wshr .i64 s0.list 15) 1) 8)) (wand .i64 s0.list 255)), (ieq (wandn .i64 s0.list 33023) 0)⟩ : GForm), ())
 else
 bif (ieq s0.op 35) then
 bif (ieq s0.cond 14) then
 ((narrow_nearo (57344 : Int) (2 : Int) s0.imm true)).bind fun y5 =>
 some (y5.1, ())
 else
 ((narrow_nearo (wor .i64 53248 (wshl .i64 s0.cond 8)) (1 : Int) s0.imm (bNot s1))).bind fun y6 =>
 some (y6.1, ())
 else
 bif (ieq s0.op 37) then
 ((narrow_nearo (wor .i64 45312 s0.rn) (5 : Int) s0.imm (bNot s1))).bind fun y7 =>
 some (y7.1, ())
 else
 bif (ieq s0.op 38) then
 ((narrow_nearo (wor .i64 47360 s0.rn) (5 : Int) s0.imm (bNot s1))).bind fun y8 =>
 some (y8.1, ())
 else
 bif (ieq s0.op 39) then
 some ((⟨(wor .i64 18176 (wshl .i64 s0.rm 3)), true⟩ : GForm), ())
 else
 bif (ieq s0.op 40) then
 some ((⟨(wor .i64 (wor .i64 18432 (wshl .i64 s0.rd 8)) (wquo .i64 s0.imm 4)), (bif (bif (bif y1.1 then (ile 0 s0.imm) else false) then (ile s0.imm 1020) else false) then (ieq (wrem s0.imm 4) 0) else false)⟩ : GForm), ())
 else
 bif (ieq s0.op 41) then
 some ((⟨(wor .i64 (wor .i64 40960 (wshl .i64 s0.rd 8)) (wquo .i64 s0.imm 4)), (bif (bif (bif y1.1 then (ile 0 s0.imm) else false) then (ile s0.imm 1020) else false) then (ieq (wrem s0.imm 4) 0) else false)⟩ : GForm), ())
 else
 bif (ieq s0.op 42) then
 some ((⟨(wor .i64 (wor .i64 48896 (wshl .i64 s0.cond 4)) s0.imm), (bNot s1)⟩ : GForm), ())
 else
 bif (ieq s0.op 43) then
 some ((⟨48896, true⟩ : GForm), ())
 else
 bif (ieq s0.op 44) then
 some ((⟨(wor .i64 48640 s0.imm), true⟩ : GForm), ())
 else
 some ((⟨0, false⟩ : GForm), ())
def narrow_rest_fm (n : Nat) : FM := ⟨[(.ty .ins), (.ty .b)], [], (.ty .form), true, none, fun a o => narrow_resto n a.1 a.2.1⟩
def narrow_rest_cx (n : Nat) : Cx := ⟨ti, ty, gl, fun g => find [] g [(159, [narrow_low_fm n]), (161, [narrow_near_fm])], fun k => find none k [], [], false, false⟩
theorem narrow_rest_ev (n : Nat) (a : ShTs (narrow_rest_fm n).ash) (o : ObTs (narrow_rest_fm n).os) : evalF (narrow_rest_cx n) Tryz.f124 (narrow_rest_fm n) a o = (narrow_rest_fm n).run a o := by kernel_rfl
def narrow_formso (n : Nat) (i0 : GIns) (it1 : Bool) : Option ((List GForm) × Unit) :=
 bif (bif (ile i0.op 19) then (ieq i0.mode 2) else false) then
 ((narrow_datao n i0 it1)).bind fun y1 =>
 some (y1.1, ())
 else
 bif (ile i0.op 19) then
 ((narrow_numso n i0 it1)).bind fun y2 =>
 some (y2.1, ())
 else
 bif (bif (ile 25 i0.op) then (ile i0.op 30) else false) then
 ((narrow_loado n i0)).bind fun y3 =>
 some (y3.1, ())
 else
 ((narrow_resto n i0 it1)).bind fun y4 =>
 some (([y4.1] : List GForm), ())
def narrow_forms_fm (n : Nat) : FM := ⟨[(.ty .ins), (.ty .b)], [], (.own .form), true, none, fun a o => narrow_formso n a.1 a.2.1⟩
def narrow_forms_cx (n : Nat) : Cx := ⟨ti, ty, gl, fun g => find [] g [(121, [narrow_data_fm n]), (122, [narrow_nums_fm n]), (123, [narrow_load_fm n]), (124, [narrow_rest_fm n])], fun k => find none k [], [], false, true⟩
theorem narrow_forms_ev (n : Nat) (a : ShTs (narrow_forms_fm n).ash) (o : ObTs (narrow_forms_fm n).os) : evalF (narrow_forms_cx n) Tryz.f83 (narrow_forms_fm n) a o = (narrow_forms_fm n).run a o := by kernel_rfl
def narrow_Encode_L5 (n : Nat) (s_4 : Int) (s_5 : Bool) (h_6 : Int) (ok_7 : Bool) (s_17 : (List GForm)) (s_18 : Int) (s_19 : Int) (o0 : (Int × Int × Int × Int × Int × Int × Int × Int × Bool × Unit)) : Option (Option Nat × (Int × Bool × Int × Bool × (List GForm) × Int × Int × Unit) × ((Int × Int × Int × Int × Int × Int × Int × Int × Bool × Unit) × Unit)) :=
 bif (ilt s_19 s_18) then
 chk (inside s_19 (iof (@xlen .form s_17))) (
 let x3 : GForm := (@xget .form s_17 (Int.toNat s_19))
 bif x3.is then
 some ((some 0), (s_4, s_5, x3.h, true, s_17, s_18, s_19, ()), (o0, ()))
 else
 some (none, (s_4, s_5, h_6, ok_7, s_17, s_18, (wr .i64 (iadd s_19 1)), ()), (o0, ())))
 else
 some ((some 0), (s_4, s_5, h_6, ok_7, s_17, s_18, s_19, ()), (o0, ()))
def narrow_Encode_L5f (n : Nat) (s : (Int × Bool × Int × Bool × (List GForm) × Int × Int × Unit) × ((Int × Int × Int × Int × Int × Int × Int × Int × Bool × Unit) × Unit)) := narrow_Encode_L5 n s.1.1 s.1.2.1 s.1.2.2.1 s.1.2.2.2.1 s.1.2.2.2.2.1 s.1.2.2.2.2.2.1 s.1.2.2.2.2.2.2.1 s.2.1
def narrow_Encode_L5m (n : Nat) : LM := ⟨30, [(4, (.ty (.i .i64))), (5, (.ty .b)), (6, (.ty (.i .i64))), (7, (.ty .b)), (17, (.own .form)), (18, (.ty (.i .i64))), (19, (.ty (.i .i64)))], [(.box [(.ty (.i .i64)), (.ty (.i .i64)), (.ty (.i .i64)), (.ty (.i .i64)), (.ty (.i .i64)), (.ty (.i .i64)), (.ty (.i .i64)), (.ty (.i .i64)), (.ty .b)])], [.exit 0], fun x o => iter (narrow_Encode_L5f n) n (x, o)⟩
def narrow_Encodeo (n : Nat) (i0 : GIns) (it1 : Bool) : Option ((Int × Bool × Unit) × Unit) :=
 ((isa_Checko n i0)).bind fun y1 =>
 bif (bNot (ieq y1.1 0)) then
 some (((0 : Int), false, ()), ())
 else
 ((narrow_formso n i0 it1)).bind fun y2 =>
 ((iter (narrow_Encode_L5f n) n (((0 : Int), false, (0 : Int), false, y2.1, (iof (@xlen .form y2.1)), (0 : Int), ()), ((i0.op, i0.cond, i0.rd, i0.rn, i0.rm, i0.imm, i0.mode, i0.list, i0.s, ()), ())))).bind fun z4 =>
 some ((z4.2.1.2.2.1, z4.2.1.2.2.2.1, ()), ())
def narrow_Encode_fm (n : Nat) : FM := ⟨[(.ty .ins), (.ty .b)], [], (.tup [(.ty (.i .i64)), (.ty .b)]), true, none, fun a o => narrow_Encodeo n a.1 a.2.1⟩
def narrow_Encode_cx (n : Nat) : Cx := ⟨ti, ty, gl, fun g => find [] g [(82, [isa_Check_fm n]), (83, [narrow_forms_fm n])], fun k => find none k [(5, some (narrow_Encode_L5m n))], [], false, false⟩
theorem narrow_Encode_L5r (n : Nat) (s : FrT (narrow_Encode_L5m n).fs × ObTs (narrow_Encode_L5m n).os) : narrow_Encode_L5f n s = roundF { narrow_Encode_cx n with res := [] } (loopOf Tryz.f53 5) (narrow_Encode_L5m n) s.1 s.2 := by kernel_rfl
theorem narrow_Encode_ev (n : Nat) (a : ShTs (narrow_Encode_fm n).ash) (o : ObTs (narrow_Encode_fm n).os) : evalF (narrow_Encode_cx n) Tryz.f53 (narrow_Encode_fm n) a o = (narrow_Encode_fm n).run a o := by kernel_rfl
def narrow_Cano (n : Nat) (i0 : GIns) (it1 : Bool) : Option (Bool × Unit) :=
 ((narrow_Encodeo n i0 it1)).bind fun y1 =>
 some (y1.1.2.1, ())
def narrow_Can_fm (n : Nat) : FM := ⟨[(.ty .ins), (.ty .b)], [], (.ty .b), true, none, fun a o => narrow_Cano n a.1 a.2.1⟩
def narrow_Can_cx (n : Nat) : Cx := ⟨ti, ty, gl, fun g => find [] g [(53, [narrow_Encode_fm n])], fun k => find none k [], [], false, false⟩
theorem narrow_Can_ev (n : Nat) (a : ShTs (narrow_Can_fm n).ash) (o : ObTs (narrow_Can_fm n).os) : evalF (narrow_Can_cx n) Tryz.f27 (narrow_Can_fm n) a o = (narrow_Can_fm n).run a o := by kernel_rfl
def layout_Start_L4 (n : Nat) (s_0 : (List GLine)) (s_2 : (List Int)) (s_3 : Unit) (s_13 : (List Bool)) (s_14 : Int) (s_15 : Int) (o0 : (List Int)) : Option (Option Nat × ((List GLine) × (List Int) × Unit × (List Bool) × Int × Int × Unit) × ((List Int) × Unit)) :=
 bif (ilt s_15 s_14) then
 chk (inside s_15 (iof (@xlen .b s_13))) (
 chk (inside s_15 (iof (@xlen .line s_0))) (
 let x2 : GLine := (@xget .line s_0 (Int.toNat s_15))
 ((bif (bAnd (layout_ins x2) (bAnd (bNot (bif (bif x2.wide then true else (bif (ieq x2.kind 1) then (ieq x2.ins.op 36) else false)) then true else (bif (layout_places x2) then (bNot (isa_Low x2.ins.rd)) else false))) (bNot (layout_Reaches x2)))) then (narrow_Cano n x2.ins (@xget .b s_13 (Int.toNat s_15))) else (some (dfS (.ty .b), dfObs [])))).bind fun y3 =>
 bif (bif (layout_ins x2) then (bif (bif (bif x2.wide then true else (bif (ieq x2.kind 1) then (ieq x2.ins.op 36) else false)) then true else (bif (layout_places x2) then (bNot (isa_Low x2.ins.rd)) else false)) then true else (bif (bNot (layout_Reaches x2)) then (bNot y3.1) else false)) else false) then
 chk (inside s_15 (iof (@xlen (.i .i64) o0))) (
 some (none, (s_0, s_2, (), s_13, s_14, (wr .i64 (iadd s_15 1)), ()), ((@xset (.i .i64) o0 (Int.toNat s_15) (1 : Int)), ())))
 else
 some (none, (s_0, s_2, (), s_13, s_14, (wr .i64 (iadd s_15 1)), ()), (o0, ()))))
 else
 some ((some 0), (s_0, s_2, (), s_13, s_14, s_15, ()), (o0, ()))
def layout_Start_L4f (n : Nat) (s : ((List GLine) × (List Int) × Unit × (List Bool) × Int × Int × Unit) × ((List Int) × Unit)) := layout_Start_L4 n s.1.1 s.1.2.1 s.1.2.2.1 s.1.2.2.2.1 s.1.2.2.2.2.1 s.1.2.2.2.2.2.1 s.2.1
def layout_Start_L4m (n : Nat) : LM := ⟨70, [(0, (.ty (.sl .line))), (2, (.own (.i .i64))), (3, (.ms 0)), (13, (.own .b)), (14, (.ty (.i .i64))), (15, (.ty (.i .i64)))], [(.arr (.i .i64))], [.exit 0], fun x o => iter (layout_Start_L4f n) n (x, o)⟩
def layout_Starto (n : Nat) (s0 : (List GLine)) : Option ((List Int) × Unit) :=
 chk (bAnd (ieq (iof (@xlen .line s0)) (iof (@xlen .line s0))) (bAnd (ile 0 (iof (@xlen .line s0))) (room (Int.toNat (iof (@xlen .line s0))) 8))) (
 ((blocks_Insideo n s0)).bind fun y1 =>
 ((iter (layout_Start_L4f n) n ((s0, ([] : List Int), (), y1.1, (iof (@xlen .b y1.1)), (0 : Int), ()), ((xrep (.i .i64) (@xlen (.i .i64) (xrep (.i .i64) (Int.toNat (iof (@xlen .line s0)))))), ())))).bind fun z4 =>
 some (z4.2.2.1, ()))
def layout_Start_fm (n : Nat) : FM := ⟨[(.ty (.sl .line))], [], (.own (.i .i64)), true, none, fun a o => layout_Starto n a.1⟩
def layout_Start_cx (n : Nat) : Cx := ⟨ti, ty, gl, fun g => find [] g [(22, [blocks_Inside_fm n]), (23, [layout_places_fm]), (24, [isa_Low_fm]), (25, [layout_ins_fm]), (26, [layout_Reaches_fm]), (27, [narrow_Can_fm n])], fun k => find none k [(4, some (layout_Start_L4m n))], [], false, true⟩
theorem layout_Start_L4r (n : Nat) (s : FrT (layout_Start_L4m n).fs × ObTs (layout_Start_L4m n).os) : layout_Start_L4f n s = roundF { layout_Start_cx n with res := [] } (loopOf Tryz.f9 4) (layout_Start_L4m n) s.1 s.2 := by kernel_rfl
theorem layout_Start_ev (n : Nat) (a : ShTs (layout_Start_fm n).ash) (o : ObTs (layout_Start_fm n).os) : evalF (layout_Start_cx n) Tryz.f9 (layout_Start_fm n) a o = (layout_Start_fm n).run a o := by kernel_rfl
def layout_formo (forms0 : (List Int)) (i1 : Int) : Option (Int × Unit) :=
 bif (ilt i1 (iof (@xlen (.i .i64) forms0))) then
 chk (inside i1 (iof (@xlen (.i .i64) forms0))) (
 some ((@xget (.i .i64) forms0 (Int.toNat i1)), ()))
 else
 some ((0 : Int), ())
def layout_form_fm : FM := ⟨[(.ty (.sl (.i .i64))), (.ty (.i .i64))], [], (.ty (.i .i64)), true, none, fun a o => layout_formo a.1 a.2.1⟩
def layout_form_cx : Cx := ⟨ti, ty, gl, fun g => find [] g [], fun k => find none k [], [], false, false⟩
theorem layout_form_ev (a : ShTs (layout_form_fm).ash) (o : ObTs (layout_form_fm).os) : evalF (layout_form_cx) Tryz.f36 (layout_form_fm) a o = (layout_form_fm).run a o := by kernel_rfl
def layout_Leado (at0 : Int) (by1 : Int) : Option (Int × Unit) :=
 bif (ilt by1 1) then
 some ((0 : Int), ())
 else
 chk (bNot (ieq by1 0)) (
 chk (bNot (ieq by1 0)) (
 some ((wrem (wr .i64 (isub by1 (wrem at0 by1))) by1), ())))
def layout_Lead_fm : FM := ⟨[(.ty (.i .i64)), (.ty (.i .i64))], [], (.ty (.i .i64)), true, none, fun a o => layout_Leado a.1 a.2.1⟩
def layout_Lead_cx : Cx := ⟨ti, ty, gl, fun g => find [] g [], fun k => find none k [], [], false, false⟩
theorem layout_Lead_ev (a : ShTs (layout_Lead_fm).ash) (o : ObTs (layout_Lead_fm).os) : evalF (layout_Lead_cx) Tryz.f37 (layout_Lead_fm) a o = (layout_Lead_fm).run a o := by kernel_rfl
def layout_poolo (l0 : (List (List Int))) (n1 : Int) : Option ((List Int) × Unit) :=
 bif (ilt n1 (iof (@xlen (.sl (.i .i64)) l0))) then
 chk (inside n1 (iof (@xlen (.sl (.i .i64)) l0))) (
 some ((@xget (.sl (.i .i64)) l0 (Int.toNat n1)), ()))
 else
 some (([] : List Int), ())
def layout_pool_fm : FM := ⟨[(.ty (.sl (.sl (.i .i64)))), (.ty (.i .i64))], [], (.ty (.sl (.i .i64))), true, none, fun a o => layout_poolo a.1 a.2.1⟩
def layout_pool_cx : Cx := ⟨ti, ty, gl, fun g => find [] g [], fun k => find none k [], [], false, false⟩
theorem layout_pool_ev (a : ShTs (layout_pool_fm).ash) (o : ObTs (layout_pool_fm).os) : evalF (layout_pool_cx) Tryz.f39 (layout_pool_fm) a o = (layout_pool_fm).run a o := by kernel_rfl
def layout_poolSizeo (p0 : (List Int)) (at1 : Int) : Option (Int × Unit) :=
 bif (ieq (iof (@xlen (.i .i64) p0)) 0) then
 some ((0 : Int), ())
 else
 ((layout_Leado at1 (4 : Int))).bind fun y1 =>
 some ((wr .i64 (iadd y1.1 (wr .i64 (imul 4 (iof (@xlen (.i .i64) p0)))))), ())
def layout_poolSize_fm : FM := ⟨[(.ty (.sl (.i .i64))), (.ty (.i .i64))], [], (.ty (.i .i64)), true, none, fun a o => layout_poolSizeo a.1 a.2.1⟩
def layout_poolSize_cx : Cx := ⟨ti, ty, gl, fun g => find [] g [(37, [layout_Lead_fm])], fun k => find none k [], [], false, false⟩
theorem layout_poolSize_ev (a : ShTs (layout_poolSize_fm).ash) (o : ObTs (layout_poolSize_fm).os) : evalF (layout_poolSize_cx) Tryz.f38 (layout_poolSize_fm) a o = (layout_poolSize_fm).run a o := by kernel_rfl
def layout_Sizes_L4 (n : Nat) (s_0 : (List GLine)) (s_1 : (List Int)) (s_2 : (List (List Int))) (s_6 : (List Int)) (s_7 : Unit) (s_8 : Int) (s_9 : Int) (s_16 : (List GLine)) (s_17 : Int) (s_18 : Int) (o0 : (List Int)) : Option (Option Nat × ((List GLine) × (List Int) × (List (List Int)) × (List Int) × Unit × Int × Int × (List GLine) × Int × Int × Unit) × ((List Int) × Unit)) :=
 bif (ilt s_18 s_17) then
 chk (inside s_18 (iof (@xlen .line s_16))) (
 let x1 : GLine := (@xget .line s_16 (Int.toNat s_18))
 bif (ieq x1.kind 1) then
 bif (ieq x1.kind 1) then
 ((layout_formo s_1 s_18)).bind fun y2 =>
 chk (inside s_18 (iof (@xlen (.i .i64) o0))) (
 chk (inside s_18 (iof (@xlen (.i .i64) (@xset (.i .i64) o0 (Int.toNat s_18) (wr .i64 (iadd 2 (wr .i64 (imul 2 (imin (imax y2.1 0) 2))))))))) (
 some (none, (s_0, s_1, s_2, s_6, (), (wr .i64 (iadd s_8 (@xget (.i .i64) (@xset (.i .i64) o0 (Int.toNat s_18) (wr .i64 (iadd 2 (wr .i64 (imul 2 (imin (imax y2.1 0) 2)))))) (Int.toNat s_18)))), s_9, s_16, s_17, (wr .i64 (iadd s_18 1)), ()), ((@xset (.i .i64) o0 (Int.toNat s_18) (wr .i64 (iadd 2 (wr .i64 (imul 2 (imin (imax y2.1 0) 2)))))), ()))))
 else
 bif (ieq x1.kind 3) then
 bif (ieq x1.kind 3) then
 chk (inside s_18 (iof (@xlen (.i .i64) o0))) (
 chk (inside s_18 (iof (@xlen (.i .i64) (@xset (.i .i64) o0 (Int.toNat s_18) (imax x1.size 0))))) (
 some (none, (s_0, s_1, s_2, s_6, (), (wr .i64 (iadd s_8 (@xget (.i .i64) (@xset (.i .i64) o0 (Int.toNat s_18) (imax x1.size 0)) (Int.toNat s_18)))), s_9, s_16, s_17, (wr .i64 (iadd s_18 1)), ()), ((@xset (.i .i64) o0 (Int.toNat s_18) (imax x1.size 0)), ()))))
 else
 bif (ieq x1.kind 4) then
 ((layout_Leado s_8 x1.size)).bind fun y3 =>
 chk (inside s_18 (iof (@xlen (.i .i64) o0))) (
 chk (inside s_18 (iof (@xlen (.i .i64) (@xset (.i .i64) o0 (Int.toNat s_18) y3.1)))) (
 some (none, (s_0, s_1, s_2, s_6, (), (wr .i64 (iadd s_8 (@xget (.i .i64) (@xset (.i .i64) o0 (Int.toNat s_18) y3.1) (Int.toNat s_18)))), s_9, s_16, s_17, (wr .i64 (iadd s_18 1)), ()), ((@xset (.i .i64) o0 (Int.toNat s_18) y3.1), ()))))
 else
 bif (ieq x1.kind 5) then
 ((layout_poolo s_2 s_9)).bind fun y4 =>
 ((layout_poolSizeo y4.1 s_8)).bind fun y5 =>
 chk (inside s_18 (iof (@xlen (.i .i64) o0))) (
 chk (inside s_18 (iof (@xlen (.i .i64) (@xset (.i .i64) o0 (Int.toNat s_18) y5.1)))) (
 some (none, (s_0, s_1, s_2, s_6, (), (wr .i64 (iadd s_8 (@xget (.i .i64) (@xset (.i .i64) o0 (Int.toNat s_18) y5.1) (Int.toNat s_18)))), (wr .i64 (iadd s_9 1)), s_16, s_17, (wr .i64 (iadd s_18 1)), ()), ((@xset (.i .i64) o0 (Int.toNat s_18) y5.1), ()))))
 else
 chk (inside s_18 (iof (@xlen (.i .i64) o0))) (
 some (none, (s_0, s_1, s_2, s_6, (), (wr .i64 (iadd s_8 (@xget (.i .i64) o0 (Int.toNat s_18)))), s_9, s_16, s_17, (wr .i64 (iadd s_18 1)), ()), (o0, ())))
 else
 bif (ieq x1.kind 7) then
 chk (inside s_18 (iof (@xlen (.i .i64) o0))) (
 chk (inside s_18 (iof (@xlen (.i .i64) (@xset (.i .i64) o0 (Int.toNat s_18) (imax x1.size 0))))) (
 some (none, (s_0, s_1, s_2, s_6, (), (wr .i64 (iadd s_8 (@xget (.i .i64) (@xset (.i .i64) o0 (Int.toNat s_18) (imax x1.size 0)) (Int.toNat s_18)))), s_9, s_16, s_17, (wr .i64 (iadd s_18 1)), ()), ((@xset (.i .i64) o0 (Int.toNat s_18) (imax x1.size 0)), ()))))
 else
 bif (ieq x1.kind 4) then
 ((layout_Leado s_8 x1.size)).bind fun y6 =>
 chk (inside s_18 (iof (@xlen (.i .i64) o0))) (
 chk (inside s_18 (iof (@xlen (.i .i64) (@xset (.i .i64) o0 (Int.toNat s_18) y6.1)))) (
 some (none, (s_0, s_1, s_2, s_6, (), (wr .i64 (iadd s_8 (@xget (.i .i64) (@xset (.i .i64) o0 (Int.toNat s_18) y6.1) (Int.toNat s_18)))), s_9, s_16, s_17, (wr .i64 (iadd s_18 1)), ()), ((@xset (.i .i64) o0 (Int.toNat s_18) y6.1), ()))))
 else
 bif (ieq x1.kind 5) then
 ((layout_poolo s_2 s_9)).bind fun y7 =>
 ((layout_poolSizeo y7.1 s_8)).bind fun y8 =>
 chk (inside s_18 (iof (@xlen (.i .i64) o0))) (
 chk (inside s_18 (iof (@xlen (.i .i64) (@xset (.i .i64) o0 (Int.toNat s_18) y8.1)))) (
 some (none, (s_0, s_1, s_2, s_6, (), (wr .i64 (iadd s_8 (@xget (.i .i64) (@xset (.i .i64) o0 (Int.toNat s_18) y8.1) (Int.toNat s_18)))), (wr .i64 (iadd s_9 1)), s_16, s_17, (wr .i64 (iadd s_18 1)), ()), ((@xset (.i .i64) o0 (Int.toNat s_18) y8.1), ()))))
 else
 chk (inside s_18 (iof (@xlen (.i .i64) o0))) (
 some (none, (s_0, s_1, s_2, s_6, (), (wr .i64 (iadd s_8 (@xget (.i .i64) o0 (Int.toNat s_18)))), s_9, s_16, s_17, (wr .i64 (iadd s_18 1)), ()), (o0, ())))
 else
 bif (ieq x1.kind 2) then
 ((layout_formo s_1 s_18)).bind fun y9 =>
 chk (inside s_18 (iof (@xlen (.i .i64) o0))) (
 chk (inside s_18 (iof (@xlen (.i .i64) (@xset (.i .i64) o0 (Int.toNat s_18) (wr .i64 (iadd 2 (wr .i64 (imul 2 (imin (imax y9.1 0) 2))))))))) (
 some (none, (s_0, s_1, s_2, s_6, (), (wr .i64 (iadd s_8 (@xget (.i .i64) (@xset (.i .i64) o0 (Int.toNat s_18) (wr .i64 (iadd 2 (wr .i64 (imul 2 (imin (imax y9.1 0) 2)))))) (Int.toNat s_18)))), s_9, s_16, s_17, (wr .i64 (iadd s_18 1)), ()), ((@xset (.i .i64) o0 (Int.toNat s_18) (wr .i64 (iadd 2 (wr .i64 (imul 2 (imin (imax y9.1 0) 2)))))), ()))))
 else
 bif (ieq x1.kind 3) then
 bif (ieq x1.kind 3) then
 chk (inside s_18 (iof (@xlen (.i .i64) o0))) (
 chk (inside s_18 (iof (@xlen (.i .i64) (@xset (.i .i64) o0 (Int.toNat s_18) (imax x1.size 0))))) (
 some (none, (s_0, s_1, s_2, s_6, (), (wr .i64 (iadd s_8 (@xget (.i .i64) (@xset (.i .i64) o0 (Int.toNat s_18) (imax x1.size 0)) (Int.toNat s_18)))), s_9, s_16, s_17, (wr .i64 (iadd s_18 1)), ()), ((@xset (.i .i64) o0 (Int.toNat s_18) (imax x1.size 0)), ()))))
 else
 bif (ieq x1.kind 4) then
 ((layout_Leado s_8 x1.size)).bind fun y10 =>
 chk (inside s_18 (iof (@xlen (.i .i64) o0))) (
 chk (inside s_18 (iof (@xlen (.i .i64) (@xset (.i .i64) o0 (Int.toNat s_18) y10.1)))) (
 some (none, (s_0, s_1, s_2, s_6, (), (wr .i64 (iadd s_8 (@xget (.i .i64) (@xset (.i .i64) o0 (Int.toNat s_18) y10.1) (Int.toNat s_18)))), s_9, s_16, s_17, (wr .i64 (iadd s_18 1)), ()), ((@xset (.i .i64) o0 (Int.toNat s_18) y10.1), ()))))
 else
 bif (ieq x1.kind 5) then
 ((layout_poolo s_2 s_9)).bind fun y11 =>
 ((layout_poolSizeo y11.1 s_8)).bind fun y12 =>
 chk (inside s_18 (iof (@xlen (.i .i64) o0))) (
 chk (inside s_18 (iof (@xlen (.i .i64) (@xset (.i .i64) o0 (Int.toNat s_18) y12.1)))) (
 some (none, (s_0, s_1, s_2, s_6, (), (wr .i64 (iadd s_8 (@xget (.i .i64) (@xset (.i .i64) o0 (Int.toNat s_18) y12.1) (Int.toNat s_18)))), (wr .i64 (iadd s_9 1)), s_16, s_17, (wr .i64 (iadd s_18 1)), ()), ((@xset (.i .i64) o0 (Int.toNat s_18) y12.1), ()))))
 else
 chk (inside s_18 (iof (@xlen (.i .i64) o0))) (
 some (none, (s_0, s_1, s_2, s_6, (), (wr .i64 (iadd s_8 (@xget (.i .i64) o0 (Int.toNat s_18)))), s_9, s_16, s_17, (wr .i64 (iadd s_18 1)), ()), (o0, ())))
 else
 bif (ieq x1.kind 7) then
 chk (inside s_18 (iof (@xlen (.i .i64) o0))) (
 chk (inside s_18 (iof (@xlen (.i .i64) (@xset (.i .i64) o0 (Int.toNat s_18) (imax x1.size 0))))) (
 some (none, (s_0, s_1, s_2, s_6, (), (wr .i64 (iadd s_8 (@xget (.i .i64) (@xset (.i .i64) o0 (Int.toNat s_18) (imax x1.size 0)) (Int.toNat s_18)))), s_9, s_16, s_17, (wr .i64 (iadd s_18 1)), ()), ((@xset (.i .i64) o0 (Int.toNat s_18) (imax x1.size 0)), ()))))
 else
 bif (ieq x1.kind 4) then
 ((layout_Leado s_8 x1.size)).bind fun y13 =>
 chk (inside s_18 (iof (@xlen (.i .i64) o0))) (
 chk (inside s_18 (iof (@xlen (.i .i64) (@xset (.i .i64) o0 (Int.toNat s_18) y13.1)))) (
 some (none, (s_0, s_1, s_2, s_6, (), (wr .i64 (iadd s_8 (@xget (.i .i64) (@xset (.i .i64) o0 (Int.toNat s_18) y13.1) (Int.toNat s_18)))), s_9, s_16, s_17, (wr .i64 (iadd s_18 1)), ()), ((@xset (.i .i64) o0 (Int.toNat s_18) y13.1), ()))))
 else
 bif (ieq x1.kind 5) then
 ((layout_poolo s_2 s_9)).bind fun y14 =>
 ((layout_poolSizeo y14.1 s_8)).bind fun y15 =>
 chk (inside s_18 (iof (@xlen (.i .i64) o0))) (
 chk (inside s_18 (iof (@xlen (.i .i64) (@xset (.i .i64) o0 (Int.toNat s_18) y15.1)))) (
 some (none, (s_0, s_1, s_2, s_6, (), (wr .i64 (iadd s_8 (@xget (.i .i64) (@xset (.i .i64) o0 (Int.toNat s_18) y15.1) (Int.toNat s_18)))), (wr .i64 (iadd s_9 1)), s_16, s_17, (wr .i64 (iadd s_18 1)), ()), ((@xset (.i .i64) o0 (Int.toNat s_18) y15.1), ()))))
 else
 chk (inside s_18 (iof (@xlen (.i .i64) o0))) (
 some (none, (s_0, s_1, s_2, s_6, (), (wr .i64 (iadd s_8 (@xget (.i .i64) o0 (Int.toNat s_18)))), s_9, s_16, s_17, (wr .i64 (iadd s_18 1)), ()), (o0, ()))))
 else
 some ((some 0), (s_0, s_1, s_2, s_6, (), s_8, s_9, s_16, s_17, s_18, ()), (o0, ()))
def layout_Sizes_L4f (n : Nat) (s : ((List GLine) × (List Int) × (List (List Int)) × (List Int) × Unit × Int × Int × (List GLine) × Int × Int × Unit) × ((List Int) × Unit)) := layout_Sizes_L4 n s.1.1 s.1.2.1 s.1.2.2.1 s.1.2.2.2.1 s.1.2.2.2.2.1 s.1.2.2.2.2.2.1 s.1.2.2.2.2.2.2.1 s.1.2.2.2.2.2.2.2.1 s.1.2.2.2.2.2.2.2.2.1 s.1.2.2.2.2.2.2.2.2.2.1 s.2.1
def layout_Sizes_L4m (n : Nat) : LM := ⟨85, [(0, (.ty (.sl .line))), (1, (.ty (.sl (.i .i64)))), (2, (.ty (.sl (.sl (.i .i64))))), (6, (.own (.i .i64))), (7, (.ms 0)), (8, (.ty (.i .i64))), (9, (.ty (.i .i64))), (16, (.ty (.sl .line))), (17, (.ty (.i .i64))), (18, (.ty (.i .i64)))], [(.arr (.i .i64))], [.exit 0], fun x o => iter (layout_Sizes_L4f n) n (x, o)⟩
def layout_Sizeso (n : Nat) (s0 : (List GLine)) (s1 : (List Int)) (s2 : (List (List Int))) : Option ((List Int) × Unit) :=
 chk (bAnd (ieq (wr .i64 (iadd (iof (@xlen .line s0)) 1)) (wr .i64 (iadd (iof (@xlen .line s0)) 1))) (bAnd (ile 0 (wr .i64 (iadd (iof (@xlen .line s0)) 1))) (room (Int.toNat (wr .i64 (iadd (iof (@xlen .line s0)) 1))) 8))) (
 ((iter (layout_Sizes_L4f n) n ((s0, s1, s2, ([] : List Int), (), (0 : Int), (0 : Int), s0, (iof (@xlen .line s0)), (0 : Int), ()), ((xrep (.i .i64) (Int.toNat (wr .i64 (iadd (iof (@xlen .line s0)) 1)))), ())))).bind fun z16 =>
 ((layout_poolo z16.2.1.2.2.1 z16.2.1.2.2.2.2.2.2.1)).bind fun y17 =>
 ((layout_poolSizeo y17.1 z16.2.1.2.2.2.2.2.1)).bind fun y18 =>
 chk (inside (iof (@xlen .line z16.2.1.1)) (iof (@xlen (.i .i64) z16.2.2.1))) (
 some ((@xset (.i .i64) z16.2.2.1 (Int.toNat (iof (@xlen .line z16.2.1.1))) y18.1), ())))
def layout_Sizes_fm (n : Nat) : FM := ⟨[(.ty (.sl .line)), (.ty (.sl (.i .i64))), (.ty (.sl (.sl (.i .i64))))], [], (.own (.i .i64)), true, none, fun a o => layout_Sizeso n a.1 a.2.1 a.2.2.1⟩
def layout_Sizes_cx (n : Nat) : Cx := ⟨ti, ty, gl, fun g => find [] g [(36, [layout_form_fm]), (37, [layout_Lead_fm]), (39, [layout_pool_fm]), (38, [layout_poolSize_fm])], fun k => find none k [(4, some (layout_Sizes_L4m n))], [], false, true⟩
theorem layout_Sizes_L4r (n : Nat) (s : FrT (layout_Sizes_L4m n).fs × ObTs (layout_Sizes_L4m n).os) : layout_Sizes_L4f n s = roundF { layout_Sizes_cx n with res := [] } (loopOf Tryz.f16 4) (layout_Sizes_L4m n) s.1 s.2 := by kernel_rfl
theorem layout_Sizes_ev (n : Nat) (a : ShTs (layout_Sizes_fm n).ash) (o : ObTs (layout_Sizes_fm n).os) : evalF (layout_Sizes_cx n) Tryz.f16 (layout_Sizes_fm n) a o = (layout_Sizes_fm n).run a o := by kernel_rfl
def layout_Addresses_L3 (n : Nat) (sizes_1 : (List Int)) (s_4 : (List Int)) (out_5 : Unit) (s_12 : Int) (s_13 : Int) (o0 : (List Int)) : Option (Option Nat × ((List Int) × (List Int) × Unit × Int × Int × Unit) × ((List Int) × Unit)) :=
 bif (ilt s_13 s_12) then
 chk (inside s_13 (iof (@xlen (.i .i64) o0))) (
 chk (inside (wr .i64 (iadd s_13 1)) (iof (@xlen (.i .i64) o0))) (
 bif (ilt s_13 (iof (@xlen (.i .i64) sizes_1))) then
 chk (inside (wr .i64 (iadd s_13 1)) (iof (@xlen (.i .i64) (@xset (.i .i64) o0 (Int.toNat (wr .i64 (iadd s_13 1))) (@xget (.i .i64) o0 (Int.toNat s_13)))))) (
 chk (inside s_13 (iof (@xlen (.i .i64) sizes_1))) (
 chk (inside (wr .i64 (iadd s_13 1)) (iof (@xlen (.i .i64) (@xset (.i .i64) o0 (Int.toNat (wr .i64 (iadd s_13 1))) (@xget (.i .i64) o0 (Int.toNat s_13)))))) (
 some (none, (sizes_1, s_4, (), s_12, (wr .i64 (iadd s_13 1)), ()), ((@xset (.i .i64) (@xset (.i .i64) o0 (Int.toNat (wr .i64 (iadd s_13 1))) (@xget (.i .i64) o0 (Int.toNat s_13))) (Int.toNat (wr .i64 (iadd s_13 1))) (wr .i64 (iadd (@xget (.i .i64) (@xset (.i .i64) o0 (Int.toNat (wr .i64 (iadd s_13 1))) (@xget (.i .i64) o0 (Int.toNat s_13))) (Int.toNat (wr .i64 (iadd s_13 1)))) (imax (@xget (.i .i64) sizes_1 (Int.toNat s_13)) 0)))), ())))))
 else
 some (none, (sizes_1, s_4, (), s_12, (wr .i64 (iadd s_13 1)), ()), ((@xset (.i .i64) o0 (Int.toNat (wr .i64 (iadd s_13 1))) (@xget (.i .i64) o0 (Int.toNat s_13))), ()))))
 else
 some ((some 0), (sizes_1, s_4, (), s_12, s_13, ()), (o0, ()))
def layout_Addresses_L3f (n : Nat) (s : ((List Int) × (List Int) × Unit × Int × Int × Unit) × ((List Int) × Unit)) := layout_Addresses_L3 n s.1.1 s.1.2.1 s.1.2.2.1 s.1.2.2.2.1 s.1.2.2.2.2.1 s.2.1
def layout_Addresses_L3m (n : Nat) : LM := ⟨42, [(1, (.ty (.sl (.i .i64)))), (4, (.own (.i .i64))), (5, (.ms 0)), (12, (.ty (.i .i64))), (13, (.ty (.i .i64)))], [(.arr (.i .i64))], [.exit 0], fun x o => iter (layout_Addresses_L3f n) n (x, o)⟩
def layout_Addresseso (n : Nat) (l0 : (List GLine)) (sizes1 : (List Int)) : Option ((List Int) × Unit) :=
 chk (bAnd (ieq (wr .i64 (iadd (iof (@xlen .line l0)) 1)) (wr .i64 (iadd (iof (@xlen .line l0)) 1))) (bAnd (ile 0 (wr .i64 (iadd (iof (@xlen .line l0)) 1))) (room (Int.toNat (wr .i64 (iadd (iof (@xlen .line l0)) 1))) 8))) (
 ((iter (layout_Addresses_L3f n) n ((sizes1, ([] : List Int), (), (iof (@xlen .line l0)), (0 : Int), ()), ((xrep (.i .i64) (Int.toNat (wr .i64 (iadd (iof (@xlen .line l0)) 1)))), ())))).bind fun z1 =>
 some (z1.2.2.1, ()))
def layout_Addresses_fm (n : Nat) : FM := ⟨[(.ty (.sl .line)), (.ty (.sl (.i .i64)))], [], (.own (.i .i64)), true, none, fun a o => layout_Addresseso n a.1 a.2.1⟩
def layout_Addresses_cx (n : Nat) : Cx := ⟨ti, ty, gl, fun g => find [] g [], fun k => find none k [(3, some (layout_Addresses_L3m n))], [], false, true⟩
theorem layout_Addresses_L3r (n : Nat) (s : FrT (layout_Addresses_L3m n).fs × ObTs (layout_Addresses_L3m n).os) : layout_Addresses_L3f n s = roundF { layout_Addresses_cx n with res := [] } (loopOf Tryz.f15 3) (layout_Addresses_L3m n) s.1 s.2 := by kernel_rfl
theorem layout_Addresses_ev (n : Nat) (a : ShTs (layout_Addresses_fm n).ash) (o : ObTs (layout_Addresses_fm n).os) : evalF (layout_Addresses_cx n) Tryz.f15 (layout_Addresses_fm n) a o = (layout_Addresses_fm n).run a o := by kernel_rfl
def layout_Newo (n : Nat) (l0 : (List GLine)) (forms1 : (List Int)) (plan2 : (List (List Int))) (values3 : (List Int)) : Option (((List GLine) × (List (List Int)) × (List Int) × (List Bool) × (List Int) × Unit) × Unit) :=
 ((blocks_Insideo n l0)).bind fun y1 =>
 ((layout_Sizeso n l0 forms1 plan2)).bind fun y2 =>
 ((layout_Addresseso n l0 y2.1)).bind fun y3 =>
 some ((l0, plan2, values3, y1.1, y3.1, ()), ())
def layout_New_fm (n : Nat) : FM := ⟨[(.ty (.sl .line)), (.ty (.sl (.i .i64))), (.ty (.sl (.sl (.i .i64)))), (.ty (.sl (.i .i64)))], [], (.rp [(.ty (.sl .line)), (.ty (.sl (.sl (.i .i64)))), (.ty (.sl (.i .i64))), (.ty (.sl .b)), (.ty (.sl (.i .i64)))]), true, none, fun a o => layout_Newo n a.1 a.2.1 a.2.2.1 a.2.2.2.1⟩
def layout_New_cx (n : Nat) : Cx := ⟨ti, ty, gl, fun g => find [] g [(22, [blocks_Inside_fm n]), (16, [layout_Sizes_fm n]), (15, [layout_Addresses_fm n])], fun k => find none k [], [], true, false⟩
theorem layout_New_ev (n : Nat) (a : ShTs (layout_New_fm n).ash) (o : ObTs (layout_New_fm n).os) : evalF (layout_New_cx n) Tryz.f31 (layout_New_fm n) a o = (layout_New_fm n).run a o := by kernel_rfl
def pools_Of_L3 (n : Nat) (l_0 : (List GLine)) (at_1 : Int) (s_4 : Int) (n_5 : Int) (i_6 : Int) : Option (Option Nat × ((List GLine) × Int × Int × Int × Int × Unit) × Unit) :=
 bif (bif (ilt i_6 at_1) then (ilt i_6 (iof (@xlen .line l_0))) else false) then
 chk (inside i_6 (iof (@xlen .line l_0))) (
 let x1 : GLine := (@xget .line l_0 (Int.toNat i_6))
 bif (ieq x1.kind 5) then
 some (none, (l_0, at_1, s_4, (wr .i64 (iadd n_5 1)), (wr .i64 (iadd i_6 1)), ()), ())
 else
 some (none, (l_0, at_1, s_4, n_5, (wr .i64 (iadd i_6 1)), ()), ()))
 else
 some ((some 0), (l_0, at_1, s_4, n_5, i_6, ()), ())
def pools_Of_L3f (n : Nat) (s : ((List GLine) × Int × Int × Int × Int × Unit) × Unit) := pools_Of_L3 n s.1.1 s.1.2.1 s.1.2.2.1 s.1.2.2.2.1 s.1.2.2.2.2.1
def pools_Of_L3m (n : Nat) : LM := ⟨27, [(0, (.ty (.sl .line))), (1, (.ty (.i .i64))), (4, (.ty (.i .i64))), (5, (.ty (.i .i64))), (6, (.ty (.i .i64)))], [], [.exit 0], fun x o => iter (pools_Of_L3f n) n (x, o)⟩
def pools_Ofo (n : Nat) (l0 : (List GLine)) (at1 : Int) : Option (Int × Unit) :=
 ((iter (pools_Of_L3f n) n ((l0, at1, (0 : Int), (0 : Int), (0 : Int), ()), ()))).bind fun z2 =>
 some (z2.2.1.2.2.2.1, ())
def pools_Of_fm (n : Nat) : FM := ⟨[(.ty (.sl .line)), (.ty (.i .i64))], [], (.ty (.i .i64)), true, none, fun a o => pools_Ofo n a.1 a.2.1⟩
def pools_Of_cx (n : Nat) : Cx := ⟨ti, ty, gl, fun g => find [] g [], fun k => find none k [(3, some (pools_Of_L3m n))], [], false, false⟩
theorem pools_Of_L3r (n : Nat) (s : FrT (pools_Of_L3m n).fs × ObTs (pools_Of_L3m n).os) : pools_Of_L3f n s = roundF { pools_Of_cx n with res := [] } (loopOf Tryz.f92 3) (pools_Of_L3m n) s.1 s.2 := by kernel_rfl
theorem pools_Of_ev (n : Nat) (a : ShTs (pools_Of_fm n).ash) (o : ObTs (pools_Of_fm n).os) : evalF (pools_Of_cx n) Tryz.f92 (pools_Of_fm n) a o = (pools_Of_fm n).run a o := by kernel_rfl
def slices_Index_L2 (n : Nat) (s_0 : (List Int)) (v_1 : Int) (s_4 : Int) (s_7 : Int) (s_8 : Int) : Option (Option Nat × ((List Int) × Int × Int × Int × Int × Unit) × Unit) :=
 bif (ilt s_8 s_7) then
 chk (inside s_8 (iof (@xlen (.i .i64) s_0))) (
 bif (ieq v_1 (@xget (.i .i64) s_0 (Int.toNat s_8))) then
 some ((some 1), (s_0, v_1, s_8, s_7, s_8, ()), ())
 else
 some (none, (s_0, v_1, s_4, s_7, (wr .i64 (iadd s_8 1)), ()), ()))
 else
 some ((some 0), (s_0, v_1, s_4, s_7, s_8, ()), ())
def slices_Index_L2f (n : Nat) (s : ((List Int) × Int × Int × Int × Int × Unit) × Unit) := slices_Index_L2 n s.1.1 s.1.2.1 s.1.2.2.1 s.1.2.2.2.1 s.1.2.2.2.2.1
def slices_Index_L2m (n : Nat) : LM := ⟨19, [(0, (.ty (.sl (.i .i64)))), (1, (.ty (.i .i64))), (4, (.ty (.i .i64))), (7, (.ty (.i .i64))), (8, (.ty (.i .i64)))], [], [.exit 0, .ret], fun x o => iter (slices_Index_L2f n) n (x, o)⟩
def slices_Indexo (n : Nat) (s0 : (List Int)) (v1 : Int) : Option (Int × Unit) :=
 ((iter (slices_Index_L2f n) n ((s0, v1, (0 : Int), (iof (@xlen (.i .i64) s0)), (0 : Int), ()), ()))).bind fun z1 =>
 bif (Nat.beq z1.1 0) then
 some (((-1) : Int), ())
 else
 some (z1.2.1.2.2.1, ())
def slices_Index_fm (n : Nat) : FM := ⟨[(.ty (.sl (.i .i64))), (.ty (.i .i64))], [], (.ty (.i .i64)), true, none, fun a o => slices_Indexo n a.1 a.2.1⟩
def slices_Index_cx (n : Nat) : Cx := ⟨ti, ty, gl, fun g => find [] g [], fun k => find none k [(2, some (slices_Index_L2m n))], [], false, false⟩
theorem slices_Index_L2r (n : Nat) (s : FrT (slices_Index_L2m n).fs × ObTs (slices_Index_L2m n).os) : slices_Index_L2f n s = roundF { slices_Index_cx n with res := [] } (loopOf Tryz.f132 2) (slices_Index_L2m n) s.1 s.2 := by kernel_rfl
theorem slices_Index_ev (n : Nat) (a : ShTs (slices_Index_fm n).ash) (o : ObTs (slices_Index_fm n).os) : evalF (slices_Index_cx n) Tryz.f132 (slices_Index_fm n) a o = (slices_Index_fm n).run a o := by kernel_rfl
def pools_Findo (n : Nat) (pool0 : (List Int)) (v1 : Int) : Option (Int × Unit) :=
 ((slices_Indexo n pool0 v1)).bind fun y1 =>
 some (y1.1, ())
def pools_Find_fm (n : Nat) : FM := ⟨[(.ty (.sl (.i .i64))), (.ty (.i .i64))], [], (.ty (.i .i64)), true, none, fun a o => pools_Findo n a.1 a.2.1⟩
def pools_Find_cx (n : Nat) : Cx := ⟨ti, ty, gl, fun g => find [] g [(132, [slices_Index_fm n])], fun k => find none k [], [], false, false⟩
theorem pools_Find_ev (n : Nat) (a : ShTs (pools_Find_fm n).ash) (o : ObTs (pools_Find_fm n).os) : evalF (pools_Find_cx n) Tryz.f91 (pools_Find_fm n) a o = (pools_Find_fm n).run a o := by kernel_rfl
def layout_Desk_pooled_1o (x0 : GLine) : Option (Bool × Unit) :=
 some ((ieq x0.kind 5), ())
theorem layout_Desk_pooled_1_tot (x0 : GLine) : ∃ r, layout_Desk_pooled_1o x0 = some (r, ()) := by
 unfold layout_Desk_pooled_1o
 repeat' (first | exact ⟨_, rfl⟩ | refine ex_bif ?_ ?_)
def layout_Desk_pooled_1 (x0 : GLine) : Bool := ((layout_Desk_pooled_1o x0).map Prod.fst).getD (dfS (.ty .b))
theorem layout_Desk_pooled_1_eq (x0 : GLine) : layout_Desk_pooled_1o x0 = some (layout_Desk_pooled_1 x0, ()) := by
 obtain ⟨r, h⟩ := layout_Desk_pooled_1_tot x0
 unfold layout_Desk_pooled_1; rw [h]; rfl
def layout_Desk_pooled_1_fm : FM := ⟨[(.ty .line)], [], (.ty .b), true, some (fun a o => layout_Desk_pooled_1 a.1), fun a o => some (layout_Desk_pooled_1 a.1, o)⟩
def layout_Desk_pooled_1_cx : Cx := ⟨ti, ty, gl, fun g => find [] g [], fun k => find none k [], [], false, false⟩
theorem layout_Desk_pooled_1_ev (a : ShTs (layout_Desk_pooled_1_fm).ash) (o : ObTs (layout_Desk_pooled_1_fm).os) : evalF (layout_Desk_pooled_1_cx) Tryz.f94 (layout_Desk_pooled_1_fm) a o = layout_Desk_pooled_1o a.1 := by kernel_rfl
theorem layout_Desk_pooled_1_evt (a : ShTs (layout_Desk_pooled_1_fm).ash) (o : ObTs (layout_Desk_pooled_1_fm).os) : evalF (layout_Desk_pooled_1_cx) Tryz.f94 (layout_Desk_pooled_1_fm) a o = (layout_Desk_pooled_1_fm).run a o := (layout_Desk_pooled_1_ev a o).trans (layout_Desk_pooled_1_eq a.1)
def slices_IndexFunc_L2 (n : Nat) (s_0 : (List GLine)) (f_1 : (Unit)) (s_4 : Int) (s_7 : Int) (s_8 : Int) : Option (Option Nat × ((List GLine) × (Unit) × Int × Int × Int × Unit) × Unit) :=
 bif (ilt s_8 s_7) then
 chk (inside s_8 (iof (@xlen .line s_0))) (
 let x1 : GLine := (@xget .line s_0 (Int.toNat s_8))
 bif (layout_Desk_pooled_1 x1) then
 some ((some 1), (s_0, (), s_8, s_7, s_8, ()), ())
 else
 some (none, (s_0, (), s_4, s_7, (wr .i64 (iadd s_8 1)), ()), ()))
 else
 some ((some 0), (s_0, (), s_4, s_7, s_8, ()), ())
def slices_IndexFunc_L2f (n : Nat) (s : ((List GLine) × (Unit) × Int × Int × Int × Unit) × Unit) := slices_IndexFunc_L2 n s.1.1 s.1.2.1 s.1.2.2.1 s.1.2.2.2.1 s.1.2.2.2.2.1
def slices_IndexFunc_L2m (n : Nat) : LM := ⟨19, [(0, (.ty (.sl .line))), (1, (.fn 94 [])), (4, (.ty (.i .i64))), (7, (.ty (.i .i64))), (8, (.ty (.i .i64)))], [], [.exit 0, .ret], fun x o => iter (slices_IndexFunc_L2f n) n (x, o)⟩
def slices_IndexFunco (n : Nat) (s0 : (List GLine)) (f1 : (Unit)) : Option (Int × Unit) :=
 ((iter (slices_IndexFunc_L2f n) n ((s0, (), (0 : Int), (iof (@xlen .line s0)), (0 : Int), ()), ()))).bind fun z2 =>
 bif (Nat.beq z2.1 0) then
 some (((-1) : Int), ())
 else
 some (z2.2.1.2.2.1, ())
def slices_IndexFunc_fm (n : Nat) : FM := ⟨[(.ty (.sl .line)), (.fn 94 [])], [], (.ty (.i .i64)), true, none, fun a o => slices_IndexFunco n a.1 a.2.1⟩
def slices_IndexFunc_cx (n : Nat) : Cx := ⟨ti, ty, gl, fun g => find [] g [(94, [layout_Desk_pooled_1_fm])], fun k => find none k [(2, some (slices_IndexFunc_L2m n))], [], false, false⟩
theorem slices_IndexFunc_L2r (n : Nat) (s : FrT (slices_IndexFunc_L2m n).fs × ObTs (slices_IndexFunc_L2m n).os) : slices_IndexFunc_L2f n s = roundF { slices_IndexFunc_cx n with res := [] } (loopOf Tryz.f93 2) (slices_IndexFunc_L2m n) s.1 s.2 := by kernel_rfl
theorem slices_IndexFunc_ev (n : Nat) (a : ShTs (slices_IndexFunc_fm n).ash) (o : ObTs (slices_IndexFunc_fm n).os) : evalF (slices_IndexFunc_cx n) Tryz.f93 (slices_IndexFunc_fm n) a o = (slices_IndexFunc_fm n).run a o := by kernel_rfl
end Go.Ev.Tryz
