/- Models of the functions that the laws reach, each with the proof that the evaluator gives it. Written by sym.py. -/
import Derived.Test.YtjepeadpofpadaaGreatDoorLsM5
set_option linter.unusedSimpArgs false
set_option linter.unusedVariables false
set_option linter.unusedSectionVars false
namespace Go.Ev.Tryz
open Go Go.Ev Go.Proofs
set_option maxRecDepth 1000000
def ref03_higho (kind0 : Int) : Option (Int × Unit) :=
 bif (ieq kind0 5) then
 some ((126 : Int), ())
 else
 some ((wr .i64 (isub (wr .i64 (isub 0 (ref03_low kind0))) 2)), ())
theorem ref03_high_tot (kind0 : Int) : ∃ r, ref03_higho kind0 = some (r, ()) := by
 unfold ref03_higho
 repeat' (first | exact ⟨_, rfl⟩ | refine ex_bif ?_ ?_)
def ref03_high (kind0 : Int) : Int := ((ref03_higho kind0).map Prod.fst).getD (dfS (.ty (.i .i64)))
theorem ref03_high_eq (kind0 : Int) : ref03_higho kind0 = some (ref03_high kind0, ()) := by
 obtain ⟨r, h⟩ := ref03_high_tot kind0
 unfold ref03_high; rw [h]; rfl
def ref03_high_fm : FM := ⟨[(.ty (.i .i64))], [], (.ty (.i .i64)), true, some (fun a o => ref03_high a.1), fun a o => some (ref03_high a.1, o)⟩
def ref03_high_cx : Cx := ⟨ti, ty, gl, fun g => find [] g [(69, [ref03_low_fm])], fun k => find none k [], [], false, false⟩
theorem ref03_high_ev (a : ShTs (ref03_high_fm).ash) (o : ObTs (ref03_high_fm).os) : evalF (ref03_high_cx) Tryz.f70 (ref03_high_fm) a o = ref03_higho a.1 := by kernel_rfl
theorem ref03_high_evt (a : ShTs (ref03_high_fm).ash) (o : ObTs (ref03_high_fm).os) : evalF (ref03_high_cx) Tryz.f70 (ref03_high_fm) a o = (ref03_high_fm).run a o := (ref03_high_ev a o).trans (ref03_high_eq a.1)
def ref03_Fitso (kind0 : Int) (off1 : Int) : Option (Bool × Unit) :=
 some ((bif (bif (bif (bif (ile 1 kind0) then (ile kind0 5) else false) then (ieq (wrem off1 2) 0) else false) then (ile (ref03_low kind0) off1) else false) then (ile off1 (ref03_high kind0)) else false), ())
theorem ref03_Fits_tot (kind0 : Int) (off1 : Int) : ∃ r, ref03_Fitso kind0 off1 = some (r, ()) := by
 unfold ref03_Fitso
 repeat' (first | exact ⟨_, rfl⟩ | refine ex_bif ?_ ?_)
def ref03_Fits (kind0 : Int) (off1 : Int) : Bool := ((ref03_Fitso kind0 off1).map Prod.fst).getD (dfS (.ty .b))
theorem ref03_Fits_eq (kind0 : Int) (off1 : Int) : ref03_Fitso kind0 off1 = some (ref03_Fits kind0 off1, ()) := by
 obtain ⟨r, h⟩ := ref03_Fits_tot kind0 off1
 unfold ref03_Fits; rw [h]; rfl
def ref03_Fits_fm : FM := ⟨[(.ty (.i .i64)), (.ty (.i .i64))], [], (.ty .b), true, some (fun a o => ref03_Fits a.1 a.2.1), fun a o => some (ref03_Fits a.1 a.2.1, o)⟩
def ref03_Fits_cx : Cx := ⟨ti, ty, gl, fun g => find [] g [(69, [ref03_low_fm]), (70, [ref03_high_fm])], fun k => find none k [], [], false, false⟩
theorem ref03_Fits_ev (a : ShTs (ref03_Fits_fm).ash) (o : ObTs (ref03_Fits_fm).os) : evalF (ref03_Fits_cx) Tryz.f46 (ref03_Fits_fm) a o = ref03_Fitso a.1 a.2.1 := by kernel_rfl
theorem ref03_Fits_evt (a : ShTs (ref03_Fits_fm).ash) (o : ObTs (ref03_Fits_fm).os) : evalF (ref03_Fits_cx) Tryz.f46 (ref03_Fits_fm) a o = (ref03_Fits_fm).run a o := (ref03_Fits_ev a o).trans (ref03_Fits_eq a.1 a.2.1)
def ref03_bito (off0 : Int) (i1 : Int) : Option (Int × Unit) :=
 chk (ile 0 (wr .u64 i1)) (
 some ((wand .i64 (wshr .i64 off0 (wr .u64 i1)) 1), ()))
def ref03_bit_fm : FM := ⟨[(.ty (.i .i64)), (.ty (.i .i64))], [], (.ty (.i .i64)), true, none, fun a o => ref03_bito a.1 a.2.1⟩
def ref03_bit_cx : Cx := ⟨ti, ty, gl, fun g => find [] g [], fun k => find none k [], [], false, false⟩
theorem ref03_bit_ev (a : ShTs (ref03_bit_fm).ash) (o : ObTs (ref03_bit_fm).os) : evalF (ref03_bit_cx) Tryz.f131 (ref03_bit_fm) a o = (ref03_bit_fm).run a o := by kernel_rfl
def ref03_Puto (s0 : Int) (s1 : Int) : Option ((Int × Int × Unit) × Unit) :=
 bif (bNot (ref03_Fits s0 s1)) then
 some (((0 : Int), (0 : Int), ()), ())
 else
 bif (ilt s1 0) then
 bif (ieq s0 1) then
 some (((wand .i64 (wshr .i64 s1 1) 255), (0 : Int), ()), ())
 else
 bif (ieq s0 2) then
 some (((wand .i64 (wshr .i64 s1 1) 2047), (0 : Int), ()), ())
 else
 bif (ieq s0 3) then
 ((ref03_bito s1 (18 : Int))).bind fun y1 =>
 ((ref03_bito s1 (19 : Int))).bind fun y2 =>
 some (((wor .i64 1024 (wand .i64 (wshr .i64 s1 12) 63)), (wor .i64 (wor .i64 (wshl .i64 y1.1 13) (wshl .i64 y2.1 11)) (wand .i64 (wshr .i64 s1 1) 2047)), ()), ())
 else
 bif (ieq s0 4) then
 ((ref03_bito s1 (23 : Int))).bind fun y3 =>
 ((ref03_bito s1 (22 : Int))).bind fun y4 =>
 some (((wor .i64 1024 (wand .i64 (wshr .i64 s1 12) 1023)), (wor .i64 (wor .i64 (wshl .i64 (wr .i64 (isub 1 (wxor .i64 y3.1 1))) 13) (wshl .i64 (wr .i64 (isub 1 (wxor .i64 y4.1 1))) 11)) (wand .i64 (wshr .i64 s1 1) 2047)), ()), ())
 else
 ((ref03_bito s1 (6 : Int))).bind fun y5 =>
 some (((wor .i64 (wshl .i64 y5.1 9) (wshl .i64 (wand .i64 (wshr .i64 s1 1) 31) 3)), (0 : Int), ()), ())
 else
 bif (ieq s0 1) then
 some (((wand .i64 (wshr .i64 s1 1) 255), (0 : Int), ()), ())
 else
 bif (ieq s0 2) then
 some (((wand .i64 (wshr .i64 s1 1) 2047), (0 : Int), ()), ())
 else
 bif (ieq s0 3) then
 ((ref03_bito s1 (18 : Int))).bind fun y6 =>
 ((ref03_bito s1 (19 : Int))).bind fun y7 =>
 some (((wor .i64 0 (wand .i64 (wshr .i64 s1 12) 63)), (wor .i64 (wor .i64 (wshl .i64 y6.1 13) (wshl .i64 y7.1 11)) (wand .i64 (wshr .i64 s1 1) 2047)), ()), ())
 else
 bif (ieq s0 4) then
 ((ref03_bito s1 (23 : Int))).bind fun y8 =>
 ((ref03_bito s1 (22 : Int))).bind fun y9 =>
 some (((wor .i64 0 (wand .i64 (wshr .i64 s1 12) 1023)), (wor .i64 (wor .i64 (wshl .i64 (wr .i64 (isub 1 (wxor .i64 y8.1 0))) 13) (wshl .i64 (wr .i64 (isub 1 (wxor .i64 y9.1 0))) 11)) (wand .i64 (wshr .i64 s1 1) 2047)), ()), ())
 else
 ((ref03_bito s1 (6 : Int))).bind fun y10 =>
 some (((wor .i64 (wshl .i64 y10.1 9) (wshl .i64 (wand .i64 (wshr .i64 s1 1) 31) 3)), (0 : Int), ()), ())
def ref03_Put_fm : FM := ⟨[(.ty (.i .i64)), (.ty (.i .i64))], [], (.tup [(.ty (.i .i64)), (.ty (.i .i64))]), true, none, fun a o => ref03_Puto a.1 a.2.1⟩
def ref03_Put_cx : Cx := ⟨ti, ty, gl, fun g => find [] g [(46, [ref03_Fits_fm]), (131, [ref03_bit_fm])], fun k => find none k [], [], false, false⟩
theorem ref03_Put_ev (a : ShTs (ref03_Put_fm).ash) (o : ObTs (ref03_Put_fm).os) : evalF (ref03_Put_cx) Tryz.f90 (ref03_Put_fm) a o = (ref03_Put_fm).run a o := by kernel_rfl
def ref07_brancho (s0 : GIns) (s1 : Bool) : Option ((Int × Bool × Unit) × Unit) :=
 bif (bif (ieq s0.op 35) then (ieq s0.cond 14) else false) then
 ((ref03_Puto (2 : Int) s0.imm)).bind fun y1 =>
 some (((wor .i64 57344 y1.1.1), (ref03_Fits (2 : Int) s0.imm), ()), ())
 else
 bif (ieq s0.op 35) then
 ((ref03_Puto (1 : Int) s0.imm)).bind fun y2 =>
 some (((wor .i64 (wor .i64 53248 (wshl .i64 s0.cond 8)) y2.1.1), (bif (bNot s1) then (ref03_Fits (1 : Int) s0.imm) else false), ()), ())
 else
 bif (ieq s0.op 38) then
 ((ref03_Puto (5 : Int) s0.imm)).bind fun y3 =>
 some (((wor .i64 (wor .i64 47360 y3.1.1) s0.rn), (bNot s1), ()), ())
 else
 ((ref03_Puto (5 : Int) s0.imm)).bind fun y4 =>
 some (((wor .i64 (wor .i64 45312 y4.1.1) s0.rn), (bNot s1), ()), ())
def ref07_branch_fm : FM := ⟨[(.ty .ins), (.ty .b)], [], (.tup [(.ty (.i .i64)), (.ty .b)]), true, none, fun a o => ref07_brancho a.1 a.2.1⟩
def ref07_branch_cx : Cx := ⟨ti, ty, gl, fun g => find [] g [(90, [ref03_Put_fm]), (46, [ref03_Fits_fm])], fun k => find none k [], [], false, false⟩
theorem ref07_branch_ev (a : ShTs (ref07_branch_fm).ash) (o : ObTs (ref07_branch_fm).os) : evalF (ref07_branch_cx) Tryz.f60 (ref07_branch_fm) a o = (ref07_branch_fm).run a o := by kernel_rfl
def ref07_resto (n : Nat) (s0 : GIns) (s1 : Bool) : Option ((Int × Bool × Unit) × Unit) :=
 bif (ieq s0.op 32) then
 ((ref07_lowo n ([s0.rn] : List Int))).bind fun y1 =>
 some (((wor .i64 (wor .i64 49152 (wshl .i64 s0.rn 8)) (wand .i64 s0.list 255)), (bif y1.1 then (ieq s0.list (wand .i64 s0.list 255)) else false), ()), ())
 else
 bif (ieq s0.op 31) then
 ((ref07_lowo n ([s0.rn] : List Int))).bind fun y2 =>
 some (((wor .i64 (wor .i64 51200 (wshl .i64 s0.rn 8)) (wand .i64 s0.list 255)), (bif y2.1 then (ieq s0.list (wand .i64 s0.list 255)) else false), ()), ())
 else
 bif (ieq s0.op 33) then
 some (((wor .i64 (wor .i64 46080 (wshl .i64 (wand .i64 (wshr .i64 s0.list 14) 1) 8)) (wand .i64 s0.list 255)), (ieq (wand .i64 s0.list 16128) 0), ()), ())
 else
 bif (ieq s0.op 34) then
 some (((wor .i64 (wor .i64 48128 (wshl .i64 (wand .i64 (wshr .i64 s0.list 15) 1) 8)) (wand .i64 s0.list 255)), (ieq (wand .i64 s0.list 32512) 0), ()), ())
 else
 bif (ieq s0.op 39) then
 some (((wor .i64 18176 (wshl .i64 s0.rm 3)), true, ()), ())
 else
 bif (ieq s0.op 40) then
 ((ref07_lowo n ([s0.rd] : List Int))).bind fun y3 =>
 some (((wor .i64 (wor .i64 18432 (wshl .i64 s0.rd 8)) (wquo .i64 s0.imm 4)), (bif (bif (bif y3.1 then (ile 0 s0.imm) else false) then (ile s0.imm 1020) else false) then (ieq (wrem s0.imm 4) 0) else false), ()), ())
 else
 bif (ieq s0.op 41) then
 ((ref07_lowo n ([s0.rd] : List Int))).bind fun y4 =>
 some (((wor .i64 (wor .i64 40960 (wshl .i64 s0.rd 8)) (wquo .i64 s0.imm 4)), (bif (bif (bif y4.1 then (ile 0 s0.imm) else false) then (ile s0.imm 1020) else false) then (ieq (wrem s0.imm 4) 0) else false), ()), ())
 else
 bif (ieq s0.op 42) then
 some (((wor .i64 (wor .i64 48896 (wshl .i64 s0.cond 4)) s0.imm), (bNot s1), ()), ())
 else
 bif (ieq s0.op 43) then
 some (((48896 : Int), true, ()), ())
 else
 bif (ieq s0.op 44) then
 some (((wor .i64 48640 s0.imm), true, ()), ())
 else
 some (((0 : Int), false, ()), ())
def ref07_rest_fm (n : Nat) : FM := ⟨[(.ty .ins), (.ty .b)], [], (.tup [(.ty (.i .i64)), (.ty .b)]), true, none, fun a o => ref07_resto n a.1 a.2.1⟩
def ref07_rest_cx (n : Nat) : Cx := ⟨ti, ty, gl, fun g => find [] g [(88, [ref07_low_fm n])], fun k => find none k [], [], false, false⟩
theorem ref07_rest_ev (n : Nat) (a : ShTs (ref07_rest_fm n).ash) (o : ObTs (ref07_rest_fm n).os) : evalF (ref07_rest_cx n) Tryz.f61 (ref07_rest_fm n) a o = (ref07_rest_fm n).run a o := by kernel_rfl
def ref07_Encodeo (n : Nat) (s0 : GIns) (s1 : Bool) : Option ((Int × Bool × Unit) × Unit) :=
 ((ref06_Checko n s0)).bind fun y1 =>
 bif (bNot (ieq y1.1 0)) then
 some (((0 : Int), false, ()), ())
 else
 bif (bif (ieq s0.op 5) then true else (ieq s0.op 7)) then
 ((ref07_sumo n s0 (bNot (bEq s0.s s1)))).bind fun y2 =>
 bif (bNot y2.1.2.1) then
 some (((0 : Int), false, ()), ())
 else
 some ((y2.1.1, true, ()), ())
 else
 bif (bif (ieq s0.op 10) then true else (ieq s0.op 12)) then
 ((ref07_moveo n s0 (bNot (bEq s0.s s1)) s1)).bind fun y3 =>
 bif (bNot y3.1.2.1) then
 some (((0 : Int), false, ()), ())
 else
 some ((y3.1.1, true, ()), ())
 else
 bif (bif (ile s0.op 14) then true else (ieq s0.op 20)) then
 ((ref07_twoo n s0 (bNot (bEq s0.s s1)) s1)).bind fun y4 =>
 bif (bNot y4.1.2.1) then
 some (((0 : Int), false, ()), ())
 else
 some ((y4.1.1, true, ()), ())
 else
 bif (bif (ile 16 s0.op) then (ile s0.op 19) else false) then
 ((ref07_shifto n s0 (bNot (bEq s0.s s1)))).bind fun y5 =>
 bif (bNot y5.1.2.1) then
 some (((0 : Int), false, ()), ())
 else
 some ((y5.1.1, true, ()), ())
 else
 bif (bif (ile 25 s0.op) then (ile s0.op 30) else false) then
 ((ref07_loado n s0)).bind fun y6 =>
 bif (bNot y6.1.2.1) then
 some (((0 : Int), false, ()), ())
 else
 some ((y6.1.1, true, ()), ())
 else
 bif (bif (bif (ieq s0.op 35) then true else (ieq s0.op 37)) then true else (ieq s0.op 38)) then
 ((ref07_brancho s0 s1)).bind fun y7 =>
 bif (bNot y7.1.2.1) then
 some (((0 : Int), false, ()), ())
 else
 some ((y7.1.1, true, ()), ())
 else
 ((ref07_resto n s0 s1)).bind fun y8 =>
 bif (bNot y8.1.2.1) then
 some (((0 : Int), false, ()), ())
 else
 some ((y8.1.1, true, ()), ())
def ref07_Encode_fm (n : Nat) : FM := ⟨[(.ty .ins), (.ty .b)], [], (.tup [(.ty (.i .i64)), (.ty .b)]), true, none, fun a o => ref07_Encodeo n a.1 a.2.1⟩
def ref07_Encode_cx (n : Nat) : Cx := ⟨ti, ty, gl, fun g => find [] g [(54, [ref06_Check_fm n]), (55, [ref07_sum_fm n]), (56, [ref07_move_fm n]), (57, [ref07_two_fm n]), (58, [ref07_shift_fm n]), (59, [ref07_load_fm n]), (60, [ref07_branch_fm]), (61, [ref07_rest_fm n])], fun k => find none k [], [], false, false⟩
theorem ref07_Encode_ev (n : Nat) (a : ShTs (ref07_Encode_fm n).ash) (o : ObTs (ref07_Encode_fm n).os) : evalF (ref07_Encode_cx n) Tryz.f29 (ref07_Encode_fm n) a o = (ref07_Encode_fm n).run a o := by kernel_rfl
def ref23_Start_L4 (n : Nat) (s_0 : (List GLine)) (s_2 : (List Int)) (s_3 : (List Bool)) (s_4 : (List Int)) (s_5 : Int) : Option (Option Nat × ((List GLine) × (List Int) × (List Bool) × (List Int) × Int × Unit) × Unit) :=
 bif (ilt s_5 (iof (@xlen .line s_0))) then
 chk (inside s_5 (iof (@xlen .line s_0))) (
 let x2 : GLine := (@xget .line s_0 (Int.toNat s_5))
 bif (bif (bNot (ieq x2.kind 1)) then (bNot (ieq x2.kind 2)) else false) then
 chk (room ((@xlen (.i .i64) s_4) + (@xlen (.i .i64) ([0] : List Int))) 8) (
 some (none, (s_0, s_2, s_3, (@xapp (.i .i64) s_4 ([0] : List Int)), (wr .i64 (iadd s_5 1)), ()), ()))
 else
 bif (bif (bif x2.wide then true else (bif (ieq x2.kind 1) then (ieq x2.ins.op 36) else false)) then true else (bif (bif (ieq x2.kind 2) then true else (bif (ieq x2.kind 1) then (bif (ieq x2.ins.op 40) then true else (ieq x2.ins.op 41)) else false)) then (bNot (ref06_Low x2.ins.rd)) else false)) then
 chk (room ((@xlen (.i .i64) s_4) + (@xlen (.i .i64) ([1] : List Int))) 8) (
 some (none, (s_0, s_2, s_3, (@xapp (.i .i64) s_4 ([1] : List Int)), (wr .i64 (iadd s_5 1)), ()), ()))
 else
 bif (ref23_Reaches x2) then
 chk (room ((@xlen (.i .i64) s_4) + (@xlen (.i .i64) ([0] : List Int))) 8) (
 some (none, (s_0, s_2, s_3, (@xapp (.i .i64) s_4 ([0] : List Int)), (wr .i64 (iadd s_5 1)), ()), ()))
 else
 chk (inside s_5 (iof (@xlen .b s_3))) (
 ((ref07_Encodeo n x2.ins (@xget .b s_3 (Int.toNat s_5)))).bind fun y3 =>
 bif (bNot y3.1.2.1) then
 chk (room ((@xlen (.i .i64) s_4) + (@xlen (.i .i64) ([1] : List Int))) 8) (
 some (none, (s_0, s_2, s_3, (@xapp (.i .i64) s_4 ([1] : List Int)), (wr .i64 (iadd s_5 1)), ()), ()))
 else
 chk (room ((@xlen (.i .i64) s_4) + (@xlen (.i .i64) ([0] : List Int))) 8) (
 some (none, (s_0, s_2, s_3, (@xapp (.i .i64) s_4 ([0] : List Int)), (wr .i64 (iadd s_5 1)), ()), ()))))
 else
 some ((some 0), (s_0, s_2, s_3, s_4, s_5, ()), ())
def ref23_Start_L4f (n : Nat) (s : ((List GLine) × (List Int) × (List Bool) × (List Int) × Int × Unit) × Unit) := ref23_Start_L4 n s.1.1 s.1.2.1 s.1.2.2.1 s.1.2.2.2.1 s.1.2.2.2.2.1
def ref23_Start_L4m (n : Nat) : LM := ⟨96, [(0, (.ty (.sl .line))), (2, (.own (.i .i64))), (3, (.own .b)), (4, (.own (.i .i64))), (5, (.ty (.i .i64)))], [], [.exit 0], fun x o => iter (ref23_Start_L4f n) n (x, o)⟩
def ref23_Starto (n : Nat) (s0 : (List GLine)) : Option ((List Int) × Unit) :=
 ((ref21_Insideo n s0)).bind fun y1 =>
 ((iter (ref23_Start_L4f n) n ((s0, ([] : List Int), y1.1, ([] : List Int), (0 : Int), ()), ()))).bind fun z4 =>
 some (z4.2.1.2.2.2.1, ())
def ref23_Start_fm (n : Nat) : FM := ⟨[(.ty (.sl .line))], [], (.own (.i .i64)), true, none, fun a o => ref23_Starto n a.1⟩
def ref23_Start_cx (n : Nat) : Cx := ⟨ti, ty, gl, fun g => find [] g [(14, [ref21_Inside_fm n]), (28, [ref06_Low_fm]), (17, [ref23_Reaches_fm]), (29, [ref07_Encode_fm n])], fun k => find none k [(4, some (ref23_Start_L4m n))], [], false, true⟩
theorem ref23_Start_L4r (n : Nat) (s : FrT (ref23_Start_L4m n).fs × ObTs (ref23_Start_L4m n).os) : ref23_Start_L4f n s = roundF { ref23_Start_cx n with res := [] } (loopOf Tryz.f10 4) (ref23_Start_L4m n) s.1 s.2 := by kernel_rfl
theorem ref23_Start_ev (n : Nat) (a : ShTs (ref23_Start_fm n).ash) (o : ObTs (ref23_Start_fm n).os) : evalF (ref23_Start_cx n) Tryz.f10 (ref23_Start_fm n) a o = (ref23_Start_fm n).run a o := by kernel_rfl
def law23_LayoutStartso (n : Nat) (l0 : (List GLine)) : Option (Bool × Unit) :=
 ((law23_Mayo n l0)).bind fun y1 =>
 bif (ieq y1.1 0) then
 ((law23_awakeo n)).bind fun y2 =>
 some (y2.1, ())
 else
 ((layout_Starto n l0)).bind fun y3 =>
 ((ref23_Starto n l0)).bind fun y4 =>
 ((ref01_Intso n y3.1 y4.1)).bind fun y5 =>
 ((bif y5.1 then (law23_awakeo n) else (some (dfS (.ty .b), dfObs [])))).bind fun y6 =>
 some ((bif y5.1 then y6.1 else false), ())
def law23_LayoutStarts_fm (n : Nat) : FM := ⟨[(.ty (.sl .line))], [], (.ty .b), true, none, fun a o => law23_LayoutStartso n a.1⟩
def law23_LayoutStarts_cx (n : Nat) : Cx := ⟨ti, ty, gl, fun g => find [] g [(6, [law23_May_fm n]), (7, [law23_awake_fm n]), (9, [layout_Start_fm n]), (10, [ref23_Start_fm n]), (8, [ref01_Ints_fm n])], fun k => find none k [], [], false, false⟩
theorem law23_LayoutStarts_ev (n : Nat) (a : ShTs (law23_LayoutStarts_fm n).ash) (o : ObTs (law23_LayoutStarts_fm n).os) : evalF (law23_LayoutStarts_cx n) Tryz.f3 (law23_LayoutStarts_fm n) a o = (law23_LayoutStarts_fm n).run a o := by kernel_rfl
end Go.Ev.Tryz
