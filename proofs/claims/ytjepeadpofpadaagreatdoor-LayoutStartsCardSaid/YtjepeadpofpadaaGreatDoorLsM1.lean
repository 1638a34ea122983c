/- Models of the functions that the laws reach, each with the proof that the evaluator gives it. Written by sym.py. -/
import Derived.Test.YtjepeadpofpadaaGreatDoorLsM0
set_option linter.unusedSimpArgs false
set_option linter.unusedVariables false
set_option linter.unusedSectionVars false
namespace Go.Ev.Tryz
open Go Go.Ev Go.Proofs
set_option maxRecDepth 1000000
def ref05_Find_L3 (n : Nat) (s_0 : ByteArray) (s_2 : Int) (l_3 : (List ByteArray)) (i_4 : Int) : Option (Option Nat × (ByteArray × Int × (List ByteArray) × Int × Unit) × Unit) :=
 bif (ilt i_4 (iof (@xlen .s l_3))) then
 chk (inside i_4 (iof (@xlen .s l_3))) (
 bif (strEq (@xget .s l_3 (Int.toNat i_4)) s_0) then
 bif (ilt 15 i_4) then
 some ((some 1), (s_0, (wr .i64 (isub i_4 3)), l_3, i_4, ()), ())
 else
 some ((some 1), (s_0, i_4, l_3, i_4, ()), ())
 else
 some (none, (s_0, s_2, l_3, (wr .i64 (iadd i_4 1)), ()), ()))
 else
 some ((some 0), (s_0, s_2, l_3, i_4, ()), ())
def ref05_Find_L3f (n : Nat) (s : (ByteArray × Int × (List ByteArray) × Int × Unit) × Unit) := ref05_Find_L3 n s.1.1 s.1.2.1 s.1.2.2.1 s.1.2.2.2.1
def ref05_Find_L3m (n : Nat) : LM := ⟨23, [(0, (.ty .s)), (2, (.ty (.i .i64))), (3, (.own .s)), (4, (.ty (.i .i64)))], [], [.exit 0, .ret], fun x o => iter (ref05_Find_L3f n) n (x, o)⟩
def ref05_Findo (n : Nat) (s0 : ByteArray) : Option (Int × Unit) :=
 ((iter (ref05_Find_L3f n) n ((s0, (0 : Int), (ref05_names), (0 : Int), ()), ()))).bind fun z1 =>
 bif (Nat.beq z1.1 0) then
 some (((-1) : Int), ())
 else
 some (z1.2.1.2.1, ())
def ref05_Find_fm (n : Nat) : FM := ⟨[(.ty .s)], [], (.ty (.i .i64)), true, none, fun a o => ref05_Findo n a.1⟩
def ref05_Find_cx (n : Nat) : Cx := ⟨ti, ty, gl, fun g => find [] g [(178, [ref05_names_fm])], fun k => find none k [(3, some (ref05_Find_L3m n))], [], false, false⟩
theorem ref05_Find_L3r (n : Nat) (s : FrT (ref05_Find_L3m n).fs × ObTs (ref05_Find_L3m n).os) : ref05_Find_L3f n s = roundF { ref05_Find_cx n with res := [] } (loopOf Tryz.f170 3) (ref05_Find_L3m n) s.1 s.2 := by kernel_rfl
theorem ref05_Find_ev (n : Nat) (a : ShTs (ref05_Find_fm n).ash) (o : ObTs (ref05_Find_fm n).os) : evalF (ref05_Find_cx n) Tryz.f170 (ref05_Find_fm n) a o = (ref05_Find_fm n).run a o := by kernel_rfl
def ref18_R_rego (n : Nat) (r0 : Unit) (o0 : ((List GTok) × Int × Int × Unit)) : Option (Int × (((List GTok) × Int × Int × Unit) × Unit)) :=
 ((ref18_R_to () o0)).bind fun y1 =>
 bif (ieq y1.1.kind 1) then
 ((ref18_R_to () o0)).bind fun y2 =>
 ((ref05_Findo n y2.1.text)).bind fun y3 =>
 bif (ilt y3.1 0) then
 ((ref18_R_bado () (3 : Int) o0)).bind fun y4 =>
 some ((0 : Int), (y4.2.1, ()))
 else
 some (y3.1, ((o0.1, (wr .i64 (iadd o0.2.1 1)), o0.2.2.1, ()), ()))
 else
 ((ref18_R_bado () (3 : Int) o0)).bind fun y5 =>
 some ((0 : Int), (y5.2.1, ()))
def ref18_R_reg_fm (n : Nat) : FM := ⟨[(.ptr 0 0)], [(.box [(.ty (.sl .tok)), (.ty (.i .i64)), (.ty (.i .i64))])], (.ty (.i .i64)), false, none, fun a o => ref18_R_rego n a.1 o.1⟩
def ref18_R_reg_cx (n : Nat) : Cx := ⟨ti, ty, gl, fun g => find [] g [(108, [ref18_R_t_fm]), (170, [ref05_Find_fm n]), (113, [ref18_R_bad_fm])], fun k => find none k [], [], false, false⟩
theorem ref18_R_reg_ev (n : Nat) (a : ShTs (ref18_R_reg_fm n).ash) (o : ObTs (ref18_R_reg_fm n).os) : evalF (ref18_R_reg_cx n) Tryz.f146 (ref18_R_reg_fm n) a o = (ref18_R_reg_fm n).run a o := by kernel_rfl
def ref18_R_iso (r0 : Unit) (s1 : ByteArray) (o0 : ((List GTok) × Int × Int × Unit)) : Option (Bool × (((List GTok) × Int × Int × Unit) × Unit)) :=
 ((ref18_R_to () o0)).bind fun y1 =>
 ((bif (ieq y1.1.kind 3) then (ref18_R_to () o0) else (some (dfS (.ty .tok), dfObs [(.box [(.ty (.sl .tok)), (.ty (.i .i64)), (.ty (.i .i64))])])))).bind fun y2 =>
 some ((bif (ieq y1.1.kind 3) then (strEq y2.1.text s1) else false), (o0, ()))
def ref18_R_is_fm : FM := ⟨[(.ptr 0 0), (.ty .s)], [(.box [(.ty (.sl .tok)), (.ty (.i .i64)), (.ty (.i .i64))])], (.ty .b), true, none, fun a o => ref18_R_iso a.1 a.2.1 o.1⟩
def ref18_R_is_cx : Cx := ⟨ti, ty, gl, fun g => find [] g [(108, [ref18_R_t_fm])], fun k => find none k [], [], false, false⟩
theorem ref18_R_is_ev (a : ShTs (ref18_R_is_fm).ash) (o : ObTs (ref18_R_is_fm).os) : evalF (ref18_R_is_cx) Tryz.f172 (ref18_R_is_fm) a o = (ref18_R_is_fm).run a o := by kernel_rfl
def ref18_R_takeo (r0 : Unit) (s1 : ByteArray) (o0 : ((List GTok) × Int × Int × Unit)) : Option (Bool × (((List GTok) × Int × Int × Unit) × Unit)) :=
 ((bif (bNot (bNot (ieq o0.2.2.1 0))) then (ref18_R_iso () s1 o0) else (some (dfS (.ty .b), dfObs [(.box [(.ty (.sl .tok)), (.ty (.i .i64)), (.ty (.i .i64))])])))).bind fun y1 =>
 bif (bif (bNot (ieq o0.2.2.1 0)) then true else (bNot y1.1)) then
 some (false, (o0, ()))
 else
 some (true, ((o0.1, (wr .i64 (iadd o0.2.1 1)), o0.2.2.1, ()), ()))
def ref18_R_take_fm : FM := ⟨[(.ptr 0 0), (.ty .s)], [(.box [(.ty (.sl .tok)), (.ty (.i .i64)), (.ty (.i .i64))])], (.ty .b), false, none, fun a o => ref18_R_takeo a.1 a.2.1 o.1⟩
def ref18_R_take_cx : Cx := ⟨ti, ty, gl, fun g => find [] g [(172, [ref18_R_is_fm])], fun k => find none k [], [], false, false⟩
theorem ref18_R_take_ev (a : ShTs (ref18_R_take_fm).ash) (o : ObTs (ref18_R_take_fm).os) : evalF (ref18_R_take_cx) Tryz.f171 (ref18_R_take_fm) a o = (ref18_R_take_fm).run a o := by kernel_rfl
def ref18_R_musto (r0 : Unit) (s1 : ByteArray) (o0 : ((List GTok) × Int × Int × Unit)) : Option ((Unit) × (((List GTok) × Int × Int × Unit) × Unit)) :=
 ((ref18_R_takeo () s1 o0)).bind fun y1 =>
 bif (bNot y1.1) then
 ((ref18_R_bado () (3 : Int) y1.2.1)).bind fun y2 =>
 some ((), (y2.2.1, ()))
 else
 some ((), (y1.2.1, ()))
def ref18_R_must_fm : FM := ⟨[(.ptr 0 0), (.ty .s)], [(.box [(.ty (.sl .tok)), (.ty (.i .i64)), (.ty (.i .i64))])], (.tup []), false, none, fun a o => ref18_R_musto a.1 a.2.1 o.1⟩
def ref18_R_must_cx : Cx := ⟨ti, ty, gl, fun g => find [] g [(171, [ref18_R_take_fm]), (113, [ref18_R_bad_fm])], fun k => find none k [], [], false, false⟩
theorem ref18_R_must_ev (a : ShTs (ref18_R_must_fm).ash) (o : ObTs (ref18_R_must_fm).os) : evalF (ref18_R_must_cx) Tryz.f147 (ref18_R_must_fm) a o = (ref18_R_must_fm).run a o := by kernel_rfl
def ref17_R_To (r0 : Unit) (o0 : ((List GTok) × Int × Bool × Unit)) : Option (GTok × (((List GTok) × Int × Bool × Unit) × Unit)) :=
 bif (bif (ilt o0.2.1 0) then true else (ile (iof (@xlen .tok o0.1)) o0.2.1)) then
 some ((⟨0, 0, (⟨#[]⟩ : ByteArray)⟩ : GTok), (o0, ()))
 else
 chk (inside o0.2.1 (iof (@xlen .tok o0.1))) (
 let x1 : GTok := (@xget .tok o0.1 (Int.toNat o0.2.1))
 some (x1, (o0, ())))
def ref17_R_T_fm : FM := ⟨[(.ptr 0 0)], [(.box [(.ty (.sl .tok)), (.ty (.i .i64)), (.ty .b)])], (.ty .tok), true, none, fun a o => ref17_R_To a.1 o.1⟩
def ref17_R_T_cx : Cx := ⟨ti, ty, gl, fun g => find [] g [], fun k => find none k [], [], false, false⟩
theorem ref17_R_T_ev (a : ShTs (ref17_R_T_fm).ash) (o : ObTs (ref17_R_T_fm).os) : evalF (ref17_R_T_cx) Tryz.f187 (ref17_R_T_fm) a o = (ref17_R_T_fm).run a o := by kernel_rfl
def ref17_R_Iso (r0 : Unit) (s1 : ByteArray) (o0 : ((List GTok) × Int × Bool × Unit)) : Option (Bool × (((List GTok) × Int × Bool × Unit) × Unit)) :=
 ((ref17_R_To () o0)).bind fun y1 =>
 some ((bif (bif (bNot o0.2.2.1) then (ieq y1.1.kind 3) else false) then (strEq y1.1.text s1) else false), (o0, ()))
def ref17_R_Is_fm : FM := ⟨[(.ptr 0 0), (.ty .s)], [(.box [(.ty (.sl .tok)), (.ty (.i .i64)), (.ty .b)])], (.ty .b), true, none, fun a o => ref17_R_Iso a.1 a.2.1 o.1⟩
def ref17_R_Is_cx : Cx := ⟨ti, ty, gl, fun g => find [] g [(187, [ref17_R_T_fm])], fun k => find none k [], [], false, false⟩
theorem ref17_R_Is_ev (a : ShTs (ref17_R_Is_fm).ash) (o : ObTs (ref17_R_Is_fm).os) : evalF (ref17_R_Is_cx) Tryz.f188 (ref17_R_Is_fm) a o = (ref17_R_Is_fm).run a o := by kernel_rfl
def ref17_R_opo (r0 : Unit) (level1 : Int) (o0 : ((List GTok) × Int × Bool × Unit)) : Option (Int × (((List GTok) × Int × Bool × Unit) × Unit)) :=
 ((bif (ieq level1 1) then (ref17_R_Iso () (⟨#[124]⟩ : ByteArray) o0) else (some (dfS (.ty .b), dfObs [(.box [(.ty (.sl .tok)), (.ty (.i .i64)), (.ty .b)])])))).bind fun y1 =>
 bif (bif (ieq level1 1) then y1.1 else false) then
 some ((9 : Int), (o0, ()))
 else
 ((bif (ieq level1 2) then (ref17_R_Iso () (⟨#[38]⟩ : ByteArray) o0) else (some (dfS (.ty .b), dfObs [(.box [(.ty (.sl .tok)), (.ty (.i .i64)), (.ty .b)])])))).bind fun y2 =>
 bif (bif (ieq level1 2) then y2.1 else false) then
 some ((8 : Int), (o0, ()))
 else
 ((bif (ieq level1 3) then (ref17_R_Iso () (⟨#[60, 60]⟩ : ByteArray) o0) else (some (dfS (.ty .b), dfObs [(.box [(.ty (.sl .tok)), (.ty (.i .i64)), (.ty .b)])])))).bind fun y3 =>
 bif (bif (ieq level1 3) then y3.1 else false) then
 some ((10 : Int), (o0, ()))
 else
 ((bif (ieq level1 3) then (ref17_R_Iso () (⟨#[62, 62]⟩ : ByteArray) o0) else (some (dfS (.ty .b), dfObs [(.box [(.ty (.sl .tok)), (.ty (.i .i64)), (.ty .b)])])))).bind fun y4 =>
 bif (bif (ieq level1 3) then y4.1 else false) then
 some ((11 : Int), (o0, ()))
 else
 ((bif (ieq level1 4) then (ref17_R_Iso () (⟨#[43]⟩ : ByteArray) o0) else (some (dfS (.ty .b), dfObs [(.box [(.ty (.sl .tok)), (.ty (.i .i64)), (.ty .b)])])))).bind fun y5 =>
 bif (bif (ieq level1 4) then y5.1 else false) then
 some ((5 : Int), (o0, ()))
 else
 ((bif (ieq level1 4) then (ref17_R_Iso () (⟨#[45]⟩ : ByteArray) o0) else (some (dfS (.ty .b), dfObs [(.box [(.ty (.sl .tok)), (.ty (.i .i64)), (.ty .b)])])))).bind fun y6 =>
 bif (bif (ieq level1 4) then y6.1 else false) then
 some ((6 : Int), (o0, ()))
 else
 ((bif (ieq level1 5) then (ref17_R_Iso () (⟨#[42]⟩ : ByteArray) o0) else (some (dfS (.ty .b), dfObs [(.box [(.ty (.sl .tok)), (.ty (.i .i64)), (.ty .b)])])))).bind fun y7 =>
 bif (bif (ieq level1 5) then y7.1 else false) then
 some ((7 : Int), (o0, ()))
 else
 some ((0 : Int), (o0, ()))
def ref17_R_op_fm : FM := ⟨[(.ptr 0 0), (.ty (.i .i64))], [(.box [(.ty (.sl .tok)), (.ty (.i .i64)), (.ty .b)])], (.ty (.i .i64)), true, none, fun a o => ref17_R_opo a.1 a.2.1 o.1⟩
def ref17_R_op_cx : Cx := ⟨ti, ty, gl, fun g => find [] g [(188, [ref17_R_Is_fm])], fun k => find none k [], [], false, false⟩
theorem ref17_R_op_ev (a : ShTs (ref17_R_op_fm).ash) (o : ObTs (ref17_R_op_fm).os) : evalF (ref17_R_op_cx) Tryz.f181 (ref17_R_op_fm) a o = (ref17_R_op_fm).run a o := by kernel_rfl
def ref17_R_Takeo (r0 : Unit) (s1 : ByteArray) (o0 : ((List GTok) × Int × Bool × Unit)) : Option (Bool × (((List GTok) × Int × Bool × Unit) × Unit)) :=
 ((ref17_R_Iso () s1 o0)).bind fun y1 =>
 bif (bNot y1.1) then
 some (false, (o0, ()))
 else
 some (true, ((o0.1, (wr .i64 (iadd o0.2.1 1)), o0.2.2.1, ()), ()))
def ref17_R_Take_fm : FM := ⟨[(.ptr 0 0), (.ty .s)], [(.box [(.ty (.sl .tok)), (.ty (.i .i64)), (.ty .b)])], (.ty .b), false, none, fun a o => ref17_R_Takeo a.1 a.2.1 o.1⟩
def ref17_R_Take_cx : Cx := ⟨ti, ty, gl, fun g => find [] g [(188, [ref17_R_Is_fm])], fun k => find none k [], [], false, false⟩
theorem ref17_R_Take_ev (a : ShTs (ref17_R_Take_fm).ash) (o : ObTs (ref17_R_Take_fm).os) : evalF (ref17_R_Take_cx) Tryz.f185 (ref17_R_Take_fm) a o = (ref17_R_Take_fm).run a o := by kernel_rfl
def ref17_R_Musto (r0 : Unit) (s1 : ByteArray) (o0 : ((List GTok) × Int × Bool × Unit)) : Option ((Unit) × (((List GTok) × Int × Bool × Unit) × Unit)) :=
 ((ref17_R_Takeo () s1 o0)).bind fun y1 =>
 bif (bNot y1.1) then
 some ((), ((y1.2.1.1, y1.2.1.2.1, true, ()), ()))
 else
 some ((), (y1.2.1, ()))
def ref17_R_Must_fm : FM := ⟨[(.ptr 0 0), (.ty .s)], [(.box [(.ty (.sl .tok)), (.ty (.i .i64)), (.ty .b)])], (.tup []), false, none, fun a o => ref17_R_Musto a.1 a.2.1 o.1⟩
def ref17_R_Must_cx : Cx := ⟨ti, ty, gl, fun g => find [] g [(185, [ref17_R_Take_fm])], fun k => find none k [], [], false, false⟩
theorem ref17_R_Must_ev (a : ShTs (ref17_R_Must_fm).ash) (o : ObTs (ref17_R_Must_fm).os) : evalF (ref17_R_Must_cx) Tryz.f186 (ref17_R_Must_fm) a o = (ref17_R_Must_fm).run a o := by kernel_rfl
def ref17_R_term_L4 (n : Nat) (r_ref17_R_term : Unit → Int → ((List GTok) × Int × Bool × Unit) → Option (GExpr × (((List GTok) × Int × Bool × Unit) × Unit))) (r_ref17_R_unary : Unit → ((List GTok) × Int × Bool × Unit) → Option (GExpr × (((List GTok) × Int × Bool × Unit) × Unit))) (r_0 : Unit) (level_1 : Int) (s_4 : Unit) (e_5 : Unit) (o0 : ((List GTok) × Int × Bool × Unit)) (o1 : (Int × Int × ByteArray × (List GExpr) × Unit)) (o2 : (Int × Int × ByteArray × (List GExpr) × Unit)) : Option (Option Nat × (Unit × Int × Unit × Unit × Unit) × (((List GTok) × Int × Bool × Unit) × (Int × Int × ByteArray × (List GExpr) × Unit) × (Int × Int × ByteArray × (List GExpr) × Unit) × Unit)) :=
 bif (bNot o0.2.2.1) then
 ((ref17_R_opo () level_1 o0)).bind fun y3 =>
 bif (ieq y3.1 0) then
 some ((some 0), ((), level_1, (), (), ()), (o0, o1, o2, ()))
 else
 ((r_ref17_R_term () (wr .i64 (iadd level_1 1)) (o0.1, (wr .i64 (iadd o0.2.1 1)), o0.2.2.1, ()))).bind fun y4 =>
 some (none, ((), level_1, (), (), ()), (y4.2.1, o1, (y3.1, (0 : Int), (⟨#[]⟩ : ByteArray), ([(GExpr.mk o2.1 o2.2.1 o2.2.2.1 o2.2.2.2.1), (GExpr.mk y4.1.op y4.1.n y4.1.name y4.1.args)] : List GExpr), ()), ()))
 else
 some ((some 0), ((), level_1, (), (), ()), (o0, o1, o2, ()))
def ref17_R_term_L4f (n : Nat) (r_ref17_R_term : Unit → Int → ((List GTok) × Int × Bool × Unit) → Option (GExpr × (((List GTok) × Int × Bool × Unit) × Unit))) (r_ref17_R_unary : Unit → ((List GTok) × Int × Bool × Unit) → Option (GExpr × (((List GTok) × Int × Bool × Unit) × Unit))) (s : (Unit × Int × Unit × Unit × Unit) × (((List GTok) × Int × Bool × Unit) × (Int × Int × ByteArray × (List GExpr) × Unit) × (Int × Int × ByteArray × (List GExpr) × Unit) × Unit)) := ref17_R_term_L4 n r_ref17_R_term r_ref17_R_unary s.1.1 s.1.2.1 s.1.2.2.1 s.1.2.2.2.1 s.2.1 s.2.2.1 s.2.2.2.1
def ref17_R_term_L4m (n : Nat) (r_ref17_R_term : Unit → Int → ((List GTok) × Int × Bool × Unit) → Option (GExpr × (((List GTok) × Int × Bool × Unit) × Unit))) (r_ref17_R_unary : Unit → ((List GTok) × Int × Bool × Unit) → Option (GExpr × (((List GTok) × Int × Bool × Unit) × Unit))) : LM := ⟨43, [(0, (.ptr 0 0)), (1, (.ty (.i .i64))), (4, (.ptr 1 0)), (5, (.ptr 2 0))], [(.box [(.ty (.sl .tok)), (.ty (.i .i64)), (.ty .b)]), (.box [(.ty (.i .i64)), (.ty (.i .i64)), (.ty .s), (.own .expr)]), (.box [(.ty (.i .i64)), (.ty (.i .i64)), (.ty .s), (.ty (.sl .expr))])], [.exit 0], fun x o => iter (ref17_R_term_L4f n r_ref17_R_term r_ref17_R_unary) n (x, o)⟩
def ref17_R_termB (n : Nat) (r_ref17_R_term : Unit → Int → ((List GTok) × Int × Bool × Unit) → Option (GExpr × (((List GTok) × Int × Bool × Unit) × Unit))) (r_ref17_R_unary : Unit → ((List GTok) × Int × Bool × Unit) → Option (GExpr × (((List GTok) × Int × Bool × Unit) × Unit))) (r0 : Unit) (level1 : Int) (o0 : ((List GTok) × Int × Bool × Unit)) : Option (GExpr × (((List GTok) × Int × Bool × Unit) × Unit)) :=
 bif (ieq level1 6) then
 ((r_ref17_R_unary () o0)).bind fun y1 =>
 some ((GExpr.mk y1.1.op y1.1.n y1.1.name y1.1.args), (y1.2.1, ()))
 else
 ((r_ref17_R_term () (wr .i64 (iadd level1 1)) o0)).bind fun y2 =>
 ((iter (ref17_R_term_L4f n r_ref17_R_term r_ref17_R_unary) n (((), level1, (), (), ()), (y2.2.1, ((0 : Int), (0 : Int), (⟨#[]⟩ : ByteArray), ([] : List GExpr), ()), (y2.1.op, y2.1.n, y2.1.name, y2.1.args, ()), ())))).bind fun z5 =>
 some ((GExpr.mk z5.2.2.2.2.1.1 z5.2.2.2.2.1.2.1 z5.2.2.2.2.1.2.2.1 z5.2.2.2.2.1.2.2.2.1), (z5.2.2.1, ()))
def ref17_R_unaryB (n : Nat) (r_ref17_R_term : Unit → Int → ((List GTok) × Int × Bool × Unit) → Option (GExpr × (((List GTok) × Int × Bool × Unit) × Unit))) (r_ref17_R_unary : Unit → ((List GTok) × Int × Bool × Unit) → Option (GExpr × (((List GTok) × Int × Bool × Unit) × Unit))) (s0 : Unit) (o0 : ((List GTok) × Int × Bool × Unit)) : Option (GExpr × (((List GTok) × Int × Bool × Unit) × Unit)) :=
 ((ref17_R_Takeo () (⟨#[45]⟩ : ByteArray) o0)).bind fun y1 =>
 bif y1.1 then
 ((r_ref17_R_unary () y1.2.1)).bind fun y2 =>
 some ((GExpr.mk 3 0 (⟨#[]⟩ : ByteArray) ([(GExpr.mk y2.1.op y2.1.n y2.1.name y2.1.args)] : List GExpr)), (y2.2.1, ()))
 else
 ((ref17_R_Takeo () (⟨#[126]⟩ : ByteArray) y1.2.1)).bind fun y3 =>
 bif y3.1 then
 ((r_ref17_R_unary () y3.2.1)).bind fun y4 =>
 some ((GExpr.mk 4 0 (⟨#[]⟩ : ByteArray) ([(GExpr.mk y4.1.op y4.1.n y4.1.name y4.1.args)] : List GExpr)), (y4.2.1, ()))
 else
 ((ref17_R_Takeo () (⟨#[40]⟩ : ByteArray) y3.2.1)).bind fun y5 =>
 bif y5.1 then
 ((r_ref17_R_term () (1 : Int) y5.2.1)).bind fun y6 =>
 ((ref17_R_Musto () (⟨#[41]⟩ : ByteArray) y6.2.1)).bind fun y7 =>
 some ((GExpr.mk y6.1.op y6.1.n y6.1.name y6.1.args), (y7.2.1, ()))
 else
 ((ref17_R_To () y5.2.1)).bind fun y8 =>
 bif (bif (bif (bif (bNot y5.2.1.2.2.1) then (ieq y8.1.kind 2) else false) then (ile 0 y8.1.n) else false) then (ilt y8.1.n 4294967296) else false) then
 some ((GExpr.mk 1 y8.1.n (⟨#[]⟩ : ByteArray) ([] : List GExpr)), ((y5.2.1.1, (wr .i64 (iadd y5.2.1.2.1 1)), y5.2.1.2.2.1, ()), ()))
 else
 ((bif (bif (bNot y5.2.1.2.2.1) then (ieq y8.1.kind 1) else false) then (ref16_Nameo n y8.1.text) else (some (dfS (.ty .b), dfObs [])))).bind fun y9 =>
 bif (bif (bif (bNot y5.2.1.2.2.1) then (ieq y8.1.kind 1) else false) then y9.1 else false) then
 some ((GExpr.mk 2 0 y8.1.text ([] : List GExpr)), ((y5.2.1.1, (wr .i64 (iadd y5.2.1.2.1 1)), y5.2.1.2.2.1, ()), ()))
 else
 some ((GExpr.mk 0 0 (⟨#[]⟩ : ByteArray) ([] : List GExpr)), ((y5.2.1.1, y5.2.1.2.1, true, ()), ()))
mutual
def ref17_R_termo : Nat → Unit → Int → ((List GTok) × Int × Bool × Unit) → Option (GExpr × (((List GTok) × Int × Bool × Unit) × Unit))
 | 0 => fun _ _ _ => none
 | n + 1 => ref17_R_termB n (ref17_R_termo n) (ref17_R_unaryo n)
def ref17_R_unaryo : Nat → Unit → ((List GTok) × Int × Bool × Unit) → Option (GExpr × (((List GTok) × Int × Bool × Unit) × Unit))
 | 0 => fun _ _ => none
 | n + 1 => ref17_R_unaryB n (ref17_R_termo n) (ref17_R_unaryo n)
end
def ref17_R_term_fmr (f : Unit → Int → ((List GTok) × Int × Bool × Unit) → Option (GExpr × (((List GTok) × Int × Bool × Unit) × Unit))) : FM := ⟨[(.ptr 0 0), (.ty (.i .i64))], [(.box [(.ty (.sl .tok)), (.ty (.i .i64)), (.ty .b)])], (.ty .expr), false, none, fun a o => f a.1 a.2.1 o.1⟩
def ref17_R_term_fm (n : Nat) : FM := ref17_R_term_fmr (ref17_R_termo n)
def ref17_R_unary_fmr (f : Unit → ((List GTok) × Int × Bool × Unit) → Option (GExpr × (((List GTok) × Int × Bool × Unit) × Unit))) : FM := ⟨[(.ptr 0 0)], [(.box [(.ty (.sl .tok)), (.ty (.i .i64)), (.ty .b)])], (.ty .expr), false, none, fun a o => f a.1 o.1⟩
def ref17_R_unary_fm (n : Nat) : FM := ref17_R_unary_fmr (ref17_R_unaryo n)
def ref17_R_term_cx (n : Nat) (r_ref17_R_term : Unit → Int → ((List GTok) × Int × Bool × Unit) → Option (GExpr × (((List GTok) × Int × Bool × Unit) × Unit))) (r_ref17_R_unary : Unit → ((List GTok) × Int × Bool × Unit) → Option (GExpr × (((List GTok) × Int × Bool × Unit) × Unit))) : Cx := ⟨ti, ty, gl, fun g => find [] g [(180, [ref17_R_unary_fmr r_ref17_R_unary]), (168, [ref17_R_term_fmr r_ref17_R_term]), (181, [ref17_R_op_fm])], fun k => find none k [(4, some (ref17_R_term_L4m n r_ref17_R_term r_ref17_R_unary))], [], false, false⟩
theorem ref17_R_term_L4r (n : Nat) (r_ref17_R_term : Unit → Int → ((List GTok) × Int × Bool × Unit) → Option (GExpr × (((List GTok) × Int × Bool × Unit) × Unit))) (r_ref17_R_unary : Unit → ((List GTok) × Int × Bool × Unit) → Option (GExpr × (((List GTok) × Int × Bool × Unit) × Unit))) (s : FrT (ref17_R_term_L4m n r_ref17_R_term r_ref17_R_unary).fs × ObTs (ref17_R_term_L4m n r_ref17_R_term r_ref17_R_unary).os) : ref17_R_term_L4f n r_ref17_R_term r_ref17_R_unary s = roundF { ref17_R_term_cx n r_ref17_R_term r_ref17_R_unary with res := [] } (loopOf Tryz.f168 4) (ref17_R_term_L4m n r_ref17_R_term r_ref17_R_unary) s.1 s.2 := by kernel_rfl
theorem ref17_R_term_ev (n : Nat) (r_ref17_R_term : Unit → Int → ((List GTok) × Int × Bool × Unit) → Option (GExpr × (((List GTok) × Int × Bool × Unit) × Unit))) (r_ref17_R_unary : Unit → ((List GTok) × Int × Bool × Unit) → Option (GExpr × (((List GTok) × Int × Bool × Unit) × Unit))) (a : ShTs (ref17_R_term_fmr r_ref17_R_term).ash) (o : ObTs (ref17_R_term_fmr r_ref17_R_term).os) : evalF (ref17_R_term_cx n r_ref17_R_term r_ref17_R_unary) Tryz.f168 (ref17_R_term_fmr r_ref17_R_term) a o = ref17_R_termB n r_ref17_R_term r_ref17_R_unary a.1 a.2.1 o.1 := by kernel_rfl
def ref17_R_unary_cx (n : Nat) (r_ref17_R_term : Unit → Int → ((List GTok) × Int × Bool × Unit) → Option (GExpr × (((List GTok) × Int × Bool × Unit) × Unit))) (r_ref17_R_unary : Unit → ((List GTok) × Int × Bool × Unit) → Option (GExpr × (((List GTok) × Int × Bool × Unit) × Unit))) : Cx := ⟨ti, ty, gl, fun g => find [] g [(185, [ref17_R_Take_fm]), (180, [ref17_R_unary_fmr r_ref17_R_unary]), (168, [ref17_R_term_fmr r_ref17_R_term]), (186, [ref17_R_Must_fm]), (187, [ref17_R_T_fm]), (76, [ref16_Name_fm n])], fun k => find none k [], [], false, false⟩
theorem ref17_R_unary_ev (n : Nat) (r_ref17_R_term : Unit → Int → ((List GTok) × Int × Bool × Unit) → Option (GExpr × (((List GTok) × Int × Bool × Unit) × Unit))) (r_ref17_R_unary : Unit → ((List GTok) × Int × Bool × Unit) → Option (GExpr × (((List GTok) × Int × Bool × Unit) × Unit))) (a : ShTs (ref17_R_unary_fmr r_ref17_R_unary).ash) (o : ObTs (ref17_R_unary_fmr r_ref17_R_unary).os) : evalF (ref17_R_unary_cx n r_ref17_R_term r_ref17_R_unary) Tryz.f180 (ref17_R_unary_fmr r_ref17_R_unary) a o = ref17_R_unaryB n r_ref17_R_term r_ref17_R_unary a.1 o.1 := by kernel_rfl
def ref17_Deep_L4 (n : Nat) (r_ref17_Deep : GExpr → Int → Option (Bool × Unit)) (most_1 : Int) (e_2 : Unit) (s_4 : Bool) (i_5 : Int) (o0 : (Int × Int × ByteArray × (List GExpr) × Unit)) : Option (Option Nat × (Int × Unit × Bool × Int × Unit) × ((Int × Int × ByteArray × (List GExpr) × Unit) × Unit)) :=
 bif (ilt i_5 (iof (@xlen .expr o0.2.2.2.1))) then
 chk (inside i_5 (iof (@xlen .expr o0.2.2.2.1))) (
 let x1 : GExpr := (@xget .expr o0.2.2.2.1 (Int.toNat i_5))
 ((r_ref17_Deep (GExpr.mk x1.op x1.n x1.name x1.args) (wr .i64 (isub most_1 1)))).bind fun y2 =>
 bif y2.1 then
 some ((some 1), (most_1, (), true, i_5, ()), (o0, ()))
 else
 some (none, (most_1, (), s_4, (wr .i64 (iadd i_5 1)), ()), (o0, ())))
 else
 some ((some 0), (most_1, (), s_4, i_5, ()), (o0, ()))
def ref17_Deep_L4f (n : Nat) (r_ref17_Deep : GExpr → Int → Option (Bool × Unit)) (s : (Int × Unit × Bool × Int × Unit) × ((Int × Int × ByteArray × (List GExpr) × Unit) × Unit)) := ref17_Deep_L4 n r_ref17_Deep s.1.1 s.1.2.1 s.1.2.2.1 s.1.2.2.2.1 s.2.1
def ref17_Deep_L4m (n : Nat) (r_ref17_Deep : GExpr → Int → Option (Bool × Unit)) : LM := ⟨23, [(1, (.ty (.i .i64))), (2, (.ptr 0 0)), (4, (.ty .b)), (5, (.ty (.i .i64)))], [(.box [(.ty (.i .i64)), (.ty (.i .i64)), (.ty .s), (.ty (.sl .expr))])], [.exit 0, .ret], fun x o => iter (ref17_Deep_L4f n r_ref17_Deep) n (x, o)⟩
def ref17_DeepB (n : Nat) (r_ref17_Deep : GExpr → Int → Option (Bool × Unit)) (e0 : GExpr) (most1 : Int) : Option (Bool × Unit) :=
 bif (ilt most1 1) then
 some (true, ())
 else
 ((iter (ref17_Deep_L4f n r_ref17_Deep) n ((most1, (), false, (0 : Int), ()), ((e0.op, e0.n, e0.name, e0.args, ()), ())))).bind fun z3 =>
 bif (Nat.beq z3.1 0) then
 some (false, ())
 else
 some (z3.2.1.2.2.1, ())
def ref17_Deepo : Nat → GExpr → Int → Option (Bool × Unit)
 | 0 => fun _ _ => none
 | n + 1 => ref17_DeepB n (ref17_Deepo n)
def ref17_Deep_fmr (f : GExpr → Int → Option (Bool × Unit)) : FM := ⟨[(.ty .expr), (.ty (.i .i64))], [], (.ty .b), true, none, fun a o => f a.1 a.2.1⟩
def ref17_Deep_fm (n : Nat) : FM := ref17_Deep_fmr (ref17_Deepo n)
def ref17_Deep_cx (n : Nat) (r_ref17_Deep : GExpr → Int → Option (Bool × Unit)) : Cx := ⟨ti, ty, gl, fun g => find [] g [(169, [ref17_Deep_fmr r_ref17_Deep])], fun k => find none k [(4, some (ref17_Deep_L4m n r_ref17_Deep))], [], false, false⟩
theorem ref17_Deep_L4r (n : Nat) (r_ref17_Deep : GExpr → Int → Option (Bool × Unit)) (s : FrT (ref17_Deep_L4m n r_ref17_Deep).fs × ObTs (ref17_Deep_L4m n r_ref17_Deep).os) : ref17_Deep_L4f n r_ref17_Deep s = roundF { ref17_Deep_cx n r_ref17_Deep with res := [] } (loopOf Tryz.f169 4) (ref17_Deep_L4m n r_ref17_Deep) s.1 s.2 := by kernel_rfl
theorem ref17_Deep_ev (n : Nat) (r_ref17_Deep : GExpr → Int → Option (Bool × Unit)) (a : ShTs (ref17_Deep_fmr r_ref17_Deep).ash) (o : ObTs (ref17_Deep_fmr r_ref17_Deep).os) : evalF (ref17_Deep_cx n r_ref17_Deep) Tryz.f169 (ref17_Deep_fmr r_ref17_Deep) a o = ref17_DeepB n r_ref17_Deep a.1 a.2.1 := by kernel_rfl
def ref17_Reado (n : Nat) (l0 : (List GTok)) (at1 : Int) : Option ((GExpr × Int × Int × Unit) × Unit) :=
 ((ref17_R_termo n () (1 : Int) (l0, at1, false, ()))).bind fun y1 =>
 bif y1.2.1.2.2.1 then
 some (((GExpr.mk 0 0 (⟨#[]⟩ : ByteArray) ([] : List GExpr)), (0 : Int), (3 : Int), ()), ())
 else
 ((ref17_Deepo n (GExpr.mk y1.1.op y1.1.n y1.1.name y1.1.args) (16 : Int))).bind fun y2 =>
 bif y2.1 then
 some (((GExpr.mk 0 0 (⟨#[]⟩ : ByteArray) ([] : List GExpr)), (0 : Int), (11 : Int), ()), ())
 else
 some (((GExpr.mk y1.1.op y1.1.n y1.1.name y1.1.args), y1.2.1.2.1, (0 : Int), ()), ())
def ref17_Read_fm (n : Nat) : FM := ⟨[(.ty (.sl .tok)), (.ty (.i .i64))], [], (.tup [(.ty .expr), (.ty (.i .i64)), (.ty (.i .i64))]), true, none, fun a o => ref17_Reado n a.1 a.2.1⟩
def ref17_Read_cx (n : Nat) : Cx := ⟨ti, ty, gl, fun g => find [] g [(168, [ref17_R_term_fm n]), (169, [ref17_Deep_fm n])], fun k => find none k [], [], false, false⟩
theorem ref17_Read_ev (n : Nat) (a : ShTs (ref17_Read_fm n).ash) (o : ObTs (ref17_Read_fm n).os) : evalF (ref17_Read_cx n) Tryz.f141 (ref17_Read_fm n) a o = (ref17_Read_fm n).run a o := by kernel_rfl
def ref18_R_Termo (n : Nat) (r0 : Unit) (o0 : ((List GTok) × Int × Int × Unit)) : Option (GExpr × (((List GTok) × Int × Int × Unit) × Unit)) :=
 bif (bNot (ieq o0.2.2.1 0)) then
 some ((GExpr.mk 0 0 (⟨#[]⟩ : ByteArray) ([] : List GExpr)), (o0, ()))
 else
 ((ref17_Reado n o0.1 o0.2.1)).bind fun y1 =>
 bif (bNot (ieq y1.1.2.2.1 0)) then
 ((ref18_R_bado () y1.1.2.2.1 o0)).bind fun y2 =>
 some ((GExpr.mk 0 0 (⟨#[]⟩ : ByteArray) ([] : List GExpr)), (y2.2.1, ()))
 else
 some ((GExpr.mk y1.1.1.op y1.1.1.n y1.1.1.name y1.1.1.args), ((o0.1, y1.1.2.1, o0.2.2.1, ()), ()))
def ref18_R_Term_fm (n : Nat) : FM := ⟨[(.ptr 0 0)], [(.box [(.ty (.sl .tok)), (.ty (.i .i64)), (.ty (.i .i64))])], (.ty .expr), false, none, fun a o => ref18_R_Termo n a.1 o.1⟩
def ref18_R_Term_cx (n : Nat) : Cx := ⟨ti, ty, gl, fun g => find [] g [(141, [ref17_Read_fm n]), (113, [ref18_R_bad_fm])], fun k => find none k [], [], false, false⟩
theorem ref18_R_Term_ev (n : Nat) (a : ShTs (ref18_R_Term_fm n).ash) (o : ObTs (ref18_R_Term_fm n).os) : evalF (ref18_R_Term_cx n) Tryz.f106 (ref18_R_Term_fm n) a o = (ref18_R_Term_fm n).run a o := by kernel_rfl
def ref18_R_lasto (n : Nat) (r0 : Unit) (l1 : Unit) (o0 : ((List GTok) × Int × Int × Unit)) (o1 : (ByteArray × Int × Int × Int × Int × Int × Int × Int × Int × Int × Bool × Int × ByteArray × Bool × Int × Int × Int × ByteArray × (List GExpr) × Unit)) : Option ((Unit) × (((List GTok) × Int × Int × Unit) × (ByteArray × Int × Int × Int × Int × Int × Int × Int × Int × Int × Bool × Int × ByteArray × Bool × Int × Int × Int × ByteArray × (List GExpr) × Unit) × Unit)) :=
 ((ref18_R_takeo () (⟨#[35]⟩ : ByteArray) o0)).bind fun y1 =>
 bif y1.1 then
 ((ref18_R_Termo n () y1.2.1)).bind fun y2 =>
 some ((), (y2.2.1, (o1.1, o1.2.1, o1.2.2.1, o1.2.2.2.1, o1.2.2.2.2.1, o1.2.2.2.2.2.1, o1.2.2.2.2.2.2.1, o1.2.2.2.2.2.2.2.1, (1 : Int), o1.2.2.2.2.2.2.2.2.2.1, o1.2.2.2.2.2.2.2.2.2.2.1, o1.2.2.2.2.2.2.2.2.2.2.2.1, o1.2.2.2.2.2.2.2.2.2.2.2.2.1, o1.2.2.2.2.2.2.2.2.2.2.2.2.2.1, o1.2.2.2.2.2.2.2.2.2.2.2.2.2.2.1, y2.1.op, y2.1.n, y2.1.name, y2.1.args, ()), ()))
 else
 ((ref18_R_rego n () y1.2.1)).bind fun y3 =>
 some ((), (y3.2.1, (o1.1, o1.2.1, o1.2.2.1, o1.2.2.2.1, o1.2.2.2.2.1, o1.2.2.2.2.2.1, y3.1, o1.2.2.2.2.2.2.2.1, (2 : Int), o1.2.2.2.2.2.2.2.2.2.1, o1.2.2.2.2.2.2.2.2.2.2.1, o1.2.2.2.2.2.2.2.2.2.2.2.1, o1.2.2.2.2.2.2.2.2.2.2.2.2.1, o1.2.2.2.2.2.2.2.2.2.2.2.2.2.1, o1.2.2.2.2.2.2.2.2.2.2.2.2.2.2.1, o1.2.2.2.2.2.2.2.2.2.2.2.2.2.2.2.1, o1.2.2.2.2.2.2.2.2.2.2.2.2.2.2.2.2.1, o1.2.2.2.2.2.2.2.2.2.2.2.2.2.2.2.2.2.1, o1.2.2.2.2.2.2.2.2.2.2.2.2.2.2.2.2.2.2.1, ()), ()))
def ref18_R_last_fm (n : Nat) : FM := ⟨[(.ptr 0 0), (.ptr 1 0)], [(.box [(.ty (.sl .tok)), (.ty (.i .i64)), (.ty (.i .i64))]), (.box [(.ty .s), (.ty (.i .i64)), (.ty (.i .i64)), (.ty (.i .i64)), (.ty (.i .i64)), (.ty (.i .i64)), (.ty (.i .i64)), (.ty (.i .i64)), (.ty (.i .i64)), (.ty (.i .i64)), (.ty .b), (.ty (.i .i64)), (.ty .s), (.ty .b), (.ty (.i .i64)), (.ty (.i .i64)), (.ty (.i .i64)), (.ty .s), (.ty (.sl .expr))])], (.tup []), false, none, fun a o => ref18_R_lasto n a.1 a.2.1 o.1 o.2.1⟩
def ref18_R_last_cx (n : Nat) : Cx := ⟨ti, ty, gl, fun g => find [] g [(171, [ref18_R_take_fm]), (106, [ref18_R_Term_fm n]), (146, [ref18_R_reg_fm n])], fun k => find none k [], [], false, false⟩
theorem ref18_R_last_ev (n : Nat) (a : ShTs (ref18_R_last_fm n).ash) (o : ObTs (ref18_R_last_fm n).os) : evalF (ref18_R_last_cx n) Tryz.f148 (ref18_R_last_fm n) a o = (ref18_R_last_fm n).run a o := by kernel_rfl
def ref18_R_accesso (n : Nat) (r0 : Unit) (l1 : Unit) (o0 : ((List GTok) × Int × Int × Unit)) (o1 : (ByteArray × Int × Int × Int × Int × Int × Int × Int × Int × Int × Bool × Int × ByteArray × Bool × Int × Int × Int × ByteArray × (List GExpr) × Unit)) : Option ((Unit) × (((List GTok) × Int × Int × Unit) × (ByteArray × Int × Int × Int × Int × Int × Int × Int × Int × Int × Bool × Int × ByteArray × Bool × Int × Int × Int × ByteArray × (List GExpr) × Unit) × Unit)) :=
 ((ref18_R_musto () (⟨#[91]⟩ : ByteArray) o0)).bind fun y1 =>
 ((ref18_R_rego n () y1.2.1)).bind fun y2 =>
 ((ref18_R_takeo () (⟨#[44]⟩ : ByteArray) y2.2.1)).bind fun y3 =>
 bif y3.1 then
 ((ref18_R_lasto n () () y3.2.1 (o1.1, o1.2.1, o1.2.2.1, o1.2.2.2.1, o1.2.2.2.2.1, y2.1, o1.2.2.2.2.2.2.1, o1.2.2.2.2.2.2.2.1, (1 : Int), o1.2.2.2.2.2.2.2.2.2.1, o1.2.2.2.2.2.2.2.2.2.2.1, o1.2.2.2.2.2.2.2.2.2.2.2.1, o1.2.2.2.2.2.2.2.2.2.2.2.2.1, o1.2.2.2.2.2.2.2.2.2.2.2.2.2.1, o1.2.2.2.2.2.2.2.2.2.2.2.2.2.2.1, (0 : Int), (0 : Int), (⟨#[]⟩ : ByteArray), ([] : List GExpr), ()))).bind fun y4 =>
 ((ref18_R_musto () (⟨#[93]⟩ : ByteArray) y4.2.1)).bind fun y5 =>
 some ((), (y5.2.1, y4.2.2.1, ()))
 else
 ((ref18_R_musto () (⟨#[93]⟩ : ByteArray) y3.2.1)).bind fun y6 =>
 some ((), (y6.2.1, (o1.1, o1.2.1, o1.2.2.1, o1.2.2.2.1, o1.2.2.2.2.1, y2.1, o1.2.2.2.2.2.2.1, o1.2.2.2.2.2.2.2.1, (1 : Int), o1.2.2.2.2.2.2.2.2.2.1, o1.2.2.2.2.2.2.2.2.2.2.1, o1.2.2.2.2.2.2.2.2.2.2.2.1, o1.2.2.2.2.2.2.2.2.2.2.2.2.1, o1.2.2.2.2.2.2.2.2.2.2.2.2.2.1, o1.2.2.2.2.2.2.2.2.2.2.2.2.2.2.1, (1 : Int), (0 : Int), (⟨#[]⟩ : ByteArray), ([] : List GExpr), ()), ()))
def ref18_R_access_fm (n : Nat) : FM := ⟨[(.ptr 0 0), (.ptr 1 0)], [(.box [(.ty (.sl .tok)), (.ty (.i .i64)), (.ty (.i .i64))]), (.box [(.ty .s), (.ty (.i .i64)), (.ty (.i .i64)), (.ty (.i .i64)), (.ty (.i .i64)), (.ty (.i .i64)), (.ty (.i .i64)), (.ty (.i .i64)), (.ty (.i .i64)), (.ty (.i .i64)), (.ty .b), (.ty (.i .i64)), (.ty .s), (.ty .b), (.ty (.i .i64)), (.ty (.i .i64)), (.ty (.i .i64)), (.ty .s), (.ty (.sl .expr))])], (.tup []), false, none, fun a o => ref18_R_accesso n a.1 a.2.1 o.1 o.2.1⟩
def ref18_R_access_cx (n : Nat) : Cx := ⟨ti, ty, gl, fun g => find [] g [(147, [ref18_R_must_fm]), (146, [ref18_R_reg_fm n]), (171, [ref18_R_take_fm]), (148, [ref18_R_last_fm n])], fun k => find none k [], [], false, false⟩
theorem ref18_R_access_ev (n : Nat) (a : ShTs (ref18_R_access_fm n).ash) (o : ObTs (ref18_R_access_fm n).os) : evalF (ref18_R_access_cx n) Tryz.f173 (ref18_R_access_fm n) a o = (ref18_R_access_fm n).run a o := by kernel_rfl
def ref18_R_Nameo (n : Nat) (r0 : Unit) (o0 : ((List GTok) × Int × Int × Unit)) : Option (ByteArray × (((List GTok) × Int × Int × Unit) × Unit)) :=
 ((ref18_R_to () o0)).bind fun y1 =>
 ((bif (bNot (bNot (ieq y1.1.kind 1))) then (ref16_Nameo n y1.1.text) else (some (dfS (.ty .b), dfObs [])))).bind fun y2 =>
 bif (bif (bNot (ieq y1.1.kind 1)) then true else (bNot y2.1)) then
 ((ref18_R_bado () (3 : Int) o0)).bind fun y3 =>
 some ((⟨#[]⟩ : ByteArray), (y3.2.1, ()))
 else
 some (y1.1.text, ((o0.1, (wr .i64 (iadd o0.2.1 1)), o0.2.2.1, ()), ()))
def ref18_R_Name_fm (n : Nat) : FM := ⟨[(.ptr 0 0)], [(.box [(.ty (.sl .tok)), (.ty (.i .i64)), (.ty (.i .i64))])], (.ty .s), false, none, fun a o => ref18_R_Nameo n a.1 o.1⟩
def ref18_R_Name_cx (n : Nat) : Cx := ⟨ti, ty, gl, fun g => find [] g [(108, [ref18_R_t_fm]), (76, [ref16_Name_fm n]), (113, [ref18_R_bad_fm])], fun k => find none k [], [], false, false⟩
theorem ref18_R_Name_ev (n : Nat) (a : ShTs (ref18_R_Name_fm n).ash) (o : ObTs (ref18_R_Name_fm n).os) : evalF (ref18_R_Name_cx n) Tryz.f107 (ref18_R_Name_fm n) a o = (ref18_R_Name_fm n).run a o := by kernel_rfl
def ref18_R_reacho (n : Nat) (r0 : Unit) (l1 : Unit) (o0 : ((List GTok) × Int × Int × Unit)) (o1 : (ByteArray × Int × Int × Int × Int × Int × Int × Int × Int × Int × Bool × Int × ByteArray × Bool × Int × Int × Int × ByteArray × (List GExpr) × Unit)) : Option ((Unit) × (((List GTok) × Int × Int × Unit) × (ByteArray × Int × Int × Int × Int × Int × Int × Int × Int × Int × Bool × Int × ByteArray × Bool × Int × Int × Int × ByteArray × (List GExpr) × Unit) × Unit)) :=
 ((ref18_R_Nameo n () o0)).bind fun y1 =>
 some ((), (y1.2.1, (o1.1, o1.2.1, o1.2.2.1, o1.2.2.2.1, o1.2.2.2.2.1, o1.2.2.2.2.2.1, o1.2.2.2.2.2.2.1, o1.2.2.2.2.2.2.2.1, (1 : Int), o1.2.2.2.2.2.2.2.2.2.1, o1.2.2.2.2.2.2.2.2.2.2.1, o1.2.2.2.2.2.2.2.2.2.2.2.1, y1.1, o1.2.2.2.2.2.2.2.2.2.2.2.2.2.1, o1.2.2.2.2.2.2.2.2.2.2.2.2.2.2.1, o1.2.2.2.2.2.2.2.2.2.2.2.2.2.2.2.1, o1.2.2.2.2.2.2.2.2.2.2.2.2.2.2.2.2.1, o1.2.2.2.2.2.2.2.2.2.2.2.2.2.2.2.2.2.1, o1.2.2.2.2.2.2.2.2.2.2.2.2.2.2.2.2.2.2.1, ()), ()))
def ref18_R_reach_fm (n : Nat) : FM := ⟨[(.ptr 0 0), (.ptr 1 0)], [(.box [(.ty (.sl .tok)), (.ty (.i .i64)), (.ty (.i .i64))]), (.box [(.ty .s), (.ty (.i .i64)), (.ty (.i .i64)), (.ty (.i .i64)), (.ty (.i .i64)), (.ty (.i .i64)), (.ty (.i .i64)), (.ty (.i .i64)), (.ty (.i .i64)), (.ty (.i .i64)), (.ty .b), (.ty (.i .i64)), (.ty .s), (.ty .b), (.ty (.i .i64)), (.ty (.i .i64)), (.ty (.i .i64)), (.ty .s), (.ty (.sl .expr))])], (.tup []), false, none, fun a o => ref18_R_reacho n a.1 a.2.1 o.1 o.2.1⟩
def ref18_R_reach_cx (n : Nat) : Cx := ⟨ti, ty, gl, fun g => find [] g [(107, [ref18_R_Name_fm n])], fun k => find none k [], [], false, false⟩
theorem ref18_R_reach_ev (n : Nat) (a : ShTs (ref18_R_reach_fm n).ash) (o : ObTs (ref18_R_reach_fm n).os) : evalF (ref18_R_reach_cx n) Tryz.f174 (ref18_R_reach_fm n) a o = (ref18_R_reach_fm n).run a o := by kernel_rfl
def ref18_R_loadso (n : Nat) (r0 : Unit) (l1 : Unit) (o0 : ((List GTok) × Int × Int × Unit)) (o1 : (ByteArray × Int × Int × Int × Int × Int × Int × Int × Int × Int × Bool × Int × ByteArray × Bool × Int × Int × Int × ByteArray × (List GExpr) × Unit)) : Option ((Unit) × (((List GTok) × Int × Int × Unit) × (ByteArray × Int × Int × Int × Int × Int × Int × Int × Int × Int × Bool × Int × ByteArray × Bool × Int × Int × Int × ByteArray × (List GExpr) × Unit) × Unit)) :=
 ((ref18_R_rego n () o0)).bind fun y1 =>
 ((ref18_R_musto () (⟨#[44]⟩ : ByteArray) y1.2.1)).bind fun y2 =>
 ((bif (bNot (bNot (ieq o1.2.2.1 25))) then (ref18_R_iso () (⟨#[91]⟩ : ByteArray) y2.2.1) else (some (dfS (.ty .b), dfObs [(.box [(.ty (.sl .tok)), (.ty (.i .i64)), (.ty (.i .i64))])])))).bind fun y3 =>
 bif (bif (bNot (ieq o1.2.2.1 25)) then true else y3.1) then
 ((ref18_R_accesso n () () y2.2.1 (o1.1, o1.2.1, o1.2.2.1, o1.2.2.2.1, y1.1, o1.2.2.2.2.2.1, o1.2.2.2.2.2.2.1, o1.2.2.2.2.2.2.2.1, o1.2.2.2.2.2.2.2.2.1, o1.2.2.2.2.2.2.2.2.2.1, o1.2.2.2.2.2.2.2.2.2.2.1, o1.2.2.2.2.2.2.2.2.2.2.2.1, o1.2.2.2.2.2.2.2.2.2.2.2.2.1, o1.2.2.2.2.2.2.2.2.2.2.2.2.2.1, o1.2.2.2.2.2.2.2.2.2.2.2.2.2.2.1, o1.2.2.2.2.2.2.2.2.2.2.2.2.2.2.2.1, o1.2.2.2.2.2.2.2.2.2.2.2.2.2.2.2.2.1, o1.2.2.2.2.2.2.2.2.2.2.2.2.2.2.2.2.2.1, o1.2.2.2.2.2.2.2.2.2.2.2.2.2.2.2.2.2.2.1, ()))).bind fun y4 =>
 some ((), (y4.2.1, y4.2.2.1, ()))
 else
 ((ref18_R_takeo () (⟨#[61]⟩ : ByteArray) y2.2.1)).bind fun y5 =>
 bif y5.1 then
 ((ref18_R_Termo n () y5.2.1)).bind fun y6 =>
 some ((), (y6.2.1, (o1.1, (2 : Int), (40 : Int), (0 : Int), y1.1, (0 : Int), (0 : Int), (0 : Int), (0 : Int), (0 : Int), false, o1.2.2.2.2.2.2.2.2.2.2.2.1, o1.2.2.2.2.2.2.2.2.2.2.2.2.1, o1.2.2.2.2.2.2.2.2.2.2.2.2.2.1, o1.2.2.2.2.2.2.2.2.2.2.2.2.2.2.1, y6.1.op, y6.1.n, y6.1.name, y6.1.args, ()), ()))
 else
 ((ref18_R_reacho n () () y5.2.1 (o1.1, o1.2.1, (40 : Int), (0 : Int), y1.1, (0 : Int), (0 : Int), (0 : Int), (0 : Int), (0 : Int), false, o1.2.2.2.2.2.2.2.2.2.2.2.1, o1.2.2.2.2.2.2.2.2.2.2.2.2.1, o1.2.2.2.2.2.2.2.2.2.2.2.2.2.1, o1.2.2.2.2.2.2.2.2.2.2.2.2.2.2.1, o1.2.2.2.2.2.2.2.2.2.2.2.2.2.2.2.1, o1.2.2.2.2.2.2.2.2.2.2.2.2.2.2.2.2.1, o1.2.2.2.2.2.2.2.2.2.2.2.2.2.2.2.2.2.1, o1.2.2.2.2.2.2.2.2.2.2.2.2.2.2.2.2.2.2.1, ()))).bind fun y7 =>
 some ((), (y7.2.1, y7.2.2.1, ()))
def ref18_R_loads_fm (n : Nat) : FM := ⟨[(.ptr 0 0), (.ptr 1 0)], [(.box [(.ty (.sl .tok)), (.ty (.i .i64)), (.ty (.i .i64))]), (.box [(.ty .s), (.ty (.i .i64)), (.ty (.i .i64)), (.ty (.i .i64)), (.ty (.i .i64)), (.ty (.i .i64)), (.ty (.i .i64)), (.ty (.i .i64)), (.ty (.i .i64)), (.ty (.i .i64)), (.ty .b), (.ty (.i .i64)), (.ty .s), (.ty .b), (.ty (.i .i64)), (.ty (.i .i64)), (.ty (.i .i64)), (.ty .s), (.ty (.sl .expr))])], (.tup []), false, none, fun a o => ref18_R_loadso n a.1 a.2.1 o.1 o.2.1⟩
def ref18_R_loads_cx (n : Nat) : Cx := ⟨ti, ty, gl, fun g => find [] g [(146, [ref18_R_reg_fm n]), (147, [ref18_R_must_fm]), (172, [ref18_R_is_fm]), (173, [ref18_R_access_fm n]), (171, [ref18_R_take_fm]), (106, [ref18_R_Term_fm n]), (174, [ref18_R_reach_fm n])], fun k => find none k [], [], false, false⟩
theorem ref18_R_loads_ev (n : Nat) (a : ShTs (ref18_R_loads_fm n).ash) (o : ObTs (ref18_R_loads_fm n).os) : evalF (ref18_R_loads_cx n) Tryz.f149 (ref18_R_loads_fm n) a o = (ref18_R_loads_fm n).run a o := by kernel_rfl
def ref18_R_list_L16 (n : Nat) (r_0 : Unit) (s_2 : Int) (l_3 : Int) (was_4 : Int) (b_7 : Int) (k_8 : Int) (o0 : ((List GTok) × Int × Int × Unit)) : Option (Option Nat × (Unit × Int × Int × Int × Int × Int × Unit) × (((List GTok) × Int × Int × Unit) × Unit)) :=
 bif (ile k_8 b_7) then
 chk (ile 0 (wr .u64 k_8)) (
 some (none, ((), s_2, (wor .i64 l_3 (wshl .i64 1 (wr .u64 k_8))), was_4, b_7, (wr .i64 (iadd k_8 1)), ()), (o0, ())))
 else
 some ((some 0), ((), s_2, l_3, was_4, b_7, k_8, ()), (o0, ()))
def ref18_R_list_L16f (n : Nat) (s : (Unit × Int × Int × Int × Int × Int × Unit) × (((List GTok) × Int × Int × Unit) × Unit)) := ref18_R_list_L16 n s.1.1 s.1.2.1 s.1.2.2.1 s.1.2.2.2.1 s.1.2.2.2.2.1 s.1.2.2.2.2.2.1 s.2.1
def ref18_R_list_L16m (n : Nat) : LM := ⟨53, [(0, (.ptr 0 0)), (2, (.ty (.i .i64))), (3, (.ty (.i .i64))), (4, (.ty (.i .i64))), (7, (.ty (.i .i64))), (8, (.ty (.i .i64)))], [(.box [(.ty (.sl .tok)), (.ty (.i .i64)), (.ty (.i .i64))])], [.exit 2], fun x o => iter (ref18_R_list_L16f n) n (x, o)⟩
def ref18_R_list_L4 (n : Nat) (r_0 : Unit) (s_2 : Int) (l_3 : Int) (was_4 : Int) (more_5 : Bool) (o0 : ((List GTok) × Int × Int × Unit)) : Option (Option Nat × (Unit × Int × Int × Int × Bool × Unit) × (((List GTok) × Int × Int × Unit) × Unit)) :=
 bif (bif more_5 then (ieq o0.2.2.1 0) else false) then
 ((ref18_R_rego n () o0)).bind fun y2 =>
 ((ref18_R_takeo () (⟨#[45]⟩ : ByteArray) y2.2.1)).bind fun y3 =>
 bif y3.1 then
 ((ref18_R_rego n () y3.2.1)).bind fun y4 =>
 bif (ile y4.1 y2.1) then
 ((ref18_R_bado () (3 : Int) y4.2.1)).bind fun y5 =>
 bif (ile y2.1 was_4) then
 ((ref18_R_bado () (3 : Int) y5.2.1)).bind fun y6 =>
 ((iter (ref18_R_list_L16f n) n (((), s_2, l_3, y4.1, y4.1, y2.1, ()), (y6.2.1, ())))).bind fun z7 =>
 ((ref18_R_takeo () (⟨#[44]⟩ : ByteArray) z7.2.2.1)).bind fun y8 =>
 some (none, ((), z7.2.1.2.1, z7.2.1.2.2.1, z7.2.1.2.2.2.1, y8.1, ()), (y8.2.1, ()))
 else
 ((iter (ref18_R_list_L16f n) n (((), s_2, l_3, y4.1, y4.1, y2.1, ()), (y5.2.1, ())))).bind fun z9 =>
 ((ref18_R_takeo () (⟨#[44]⟩ : ByteArray) z9.2.2.1)).bind fun y10 =>
 some (none, ((), z9.2.1.2.1, z9.2.1.2.2.1, z9.2.1.2.2.2.1, y10.1, ()), (y10.2.1, ()))
 else
 bif (ile y2.1 was_4) then
 ((ref18_R_bado () (3 : Int) y4.2.1)).bind fun y11 =>
 ((iter (ref18_R_list_L16f n) n (((), s_2, l_3, y4.1, y4.1, y2.1, ()), (y11.2.1, ())))).bind fun z12 =>
 ((ref18_R_takeo () (⟨#[44]⟩ : ByteArray) z12.2.2.1)).bind fun y13 =>
 some (none, ((), z12.2.1.2.1, z12.2.1.2.2.1, z12.2.1.2.2.2.1, y13.1, ()), (y13.2.1, ()))
 else
 ((iter (ref18_R_list_L16f n) n (((), s_2, l_3, y4.1, y4.1, y2.1, ()), (y4.2.1, ())))).bind fun z14 =>
 ((ref18_R_takeo () (⟨#[44]⟩ : ByteArray) z14.2.2.1)).bind fun y15 =>
 some (none, ((), z14.2.1.2.1, z14.2.1.2.2.1, z14.2.1.2.2.2.1, y15.1, ()), (y15.2.1, ()))
 else
 bif (ile y2.1 was_4) then
 ((ref18_R_bado () (3 : Int) y3.2.1)).bind fun y16 =>
 ((iter (ref18_R_list_L16f n) n (((), s_2, l_3, y2.1, y2.1, y2.1, ()), (y16.2.1, ())))).bind fun z17 =>
 ((ref18_R_takeo () (⟨#[44]⟩ : ByteArray) z17.2.2.1)).bind fun y18 =>
 some (none, ((), z17.2.1.2.1, z17.2.1.2.2.1, z17.2.1.2.2.2.1, y18.1, ()), (y18.2.1, ()))
 else
 ((iter (ref18_R_list_L16f n) n (((), s_2, l_3, y2.1, y2.1, y2.1, ()), (y3.2.1, ())))).bind fun z19 =>
 ((ref18_R_takeo () (⟨#[44]⟩ : ByteArray) z19.2.2.1)).bind fun y20 =>
 some (none, ((), z19.2.1.2.1, z19.2.1.2.2.1, z19.2.1.2.2.2.1, y20.1, ()), (y20.2.1, ()))
 else
 some ((some 0), ((), s_2, l_3, was_4, more_5, ()), (o0, ()))
def ref18_R_list_L4f (n : Nat) (s : (Unit × Int × Int × Int × Bool × Unit) × (((List GTok) × Int × Int × Unit) × Unit)) := ref18_R_list_L4 n s.1.1 s.1.2.1 s.1.2.2.1 s.1.2.2.2.1 s.1.2.2.2.2.1 s.2.1
def ref18_R_list_L4m (n : Nat) : LM := ⟨53, [(0, (.ptr 0 0)), (2, (.ty (.i .i64))), (3, (.ty (.i .i64))), (4, (.ty (.i .i64))), (5, (.ty .b))], [(.box [(.ty (.sl .tok)), (.ty (.i .i64)), (.ty (.i .i64))])], [.exit 0], fun x o => iter (ref18_R_list_L4f n) n (x, o)⟩
def ref18_R_listo (n : Nat) (r0 : Unit) (o0 : ((List GTok) × Int × Int × Unit)) : Option (Int × (((List GTok) × Int × Int × Unit) × Unit)) :=
 ((ref18_R_musto () (⟨#[123]⟩ : ByteArray) o0)).bind fun y1 =>
 ((iter (ref18_R_list_L4f n) n (((), (0 : Int), (0 : Int), ((-1) : Int), true, ()), (y1.2.1, ())))).bind fun z21 =>
 ((ref18_R_musto () (⟨#[125]⟩ : ByteArray) z21.2.2.1)).bind fun y22 =>
 some (z21.2.1.2.2.1, (y22.2.1, ()))
def ref18_R_list_fm (n : Nat) : FM := ⟨[(.ptr 0 0)], [(.box [(.ty (.sl .tok)), (.ty (.i .i64)), (.ty (.i .i64))])], (.ty (.i .i64)), false, none, fun a o => ref18_R_listo n a.1 o.1⟩
def ref18_R_list_cx (n : Nat) : Cx := ⟨ti, ty, gl, fun g => find [] g [(147, [ref18_R_must_fm]), (146, [ref18_R_reg_fm n]), (171, [ref18_R_take_fm]), (113, [ref18_R_bad_fm])], fun k => find none k [(16, some (ref18_R_list_L16m n)), (4, some (ref18_R_list_L4m n))], [], false, false⟩
theorem ref18_R_list_L16r (n : Nat) (s : FrT (ref18_R_list_L16m n).fs × ObTs (ref18_R_list_L16m n).os) : ref18_R_list_L16f n s = roundF { ref18_R_list_cx n with res := [] } (loopOf Tryz.f175 16) (ref18_R_list_L16m n) s.1 s.2 := by kernel_rfl
theorem ref18_R_list_L4r (n : Nat) (s : FrT (ref18_R_list_L4m n).fs × ObTs (ref18_R_list_L4m n).os) : ref18_R_list_L4f n s = roundF { ref18_R_list_cx n with res := [] } (loopOf Tryz.f175 4) (ref18_R_list_L4m n) s.1 s.2 := by kernel_rfl
theorem ref18_R_list_ev (n : Nat) (a : ShTs (ref18_R_list_fm n).ash) (o : ObTs (ref18_R_list_fm n).os) : evalF (ref18_R_list_cx n) Tryz.f175 (ref18_R_list_fm n) a o = (ref18_R_list_fm n).run a o := by kernel_rfl
end Go.Ev.Tryz
