/- Models of the functions that the laws reach, each with the proof that the evaluator gives it. Written by sym.py. -/
import Derived.Test.YtjepeadpofpadaaGreatDoorLsKS
set_option linter.unusedSimpArgs false
set_option linter.unusedVariables false
set_option linter.unusedSectionVars false
namespace Go.Ev.Tryz
open Go Go.Ev Go.Proofs
set_option maxRecDepth 1000000
def gl (g : Nat) : Option (List V) := find none g [(0, some [.i .i64 0, .b false, .i .i64 8, .b true, .i .i64 11, .b true, .i .i64 20, .b true, .i .i64 24, .b true, .i .i64 6, .b false])]
def law17_Few_L5 (n : Nat) (r_law17_Few : GExpr → Int → Int → Option (Int × Unit)) (deep_1 : Int) (left_2 : Int) (e_3 : Unit) (s_6 : Int) (i_7 : Int) (o0 : (Int × Int × ByteArray × (List GExpr) × Unit)) : Option (Option Nat × (Int × Int × Unit × Int × Int × Unit) × ((Int × Int × ByteArray × (List GExpr) × Unit) × Unit)) :=
 bif (bif (ilt i_7 (iof (@xlen .expr o0.2.2.2.1))) then (ile 0 left_2) else false) then
 chk (inside i_7 (iof (@xlen .expr o0.2.2.2.1))) (
 let x1 : GExpr := (@xget .expr o0.2.2.2.1 (Int.toNat i_7))
 ((r_law17_Few (GExpr.mk x1.op x1.n x1.name x1.args) (wr .i64 (isub deep_1 1)) left_2)).bind fun y2 =>
 some (none, (deep_1, y2.1, (), s_6, (wr .i64 (iadd i_7 1)), ()), (o0, ())))
 else
 some ((some 0), (deep_1, left_2, (), s_6, i_7, ()), (o0, ()))
def law17_Few_L5f (n : Nat) (r_law17_Few : GExpr → Int → Int → Option (Int × Unit)) (s : (Int × Int × Unit × Int × Int × Unit) × ((Int × Int × ByteArray × (List GExpr) × Unit) × Unit)) := law17_Few_L5 n r_law17_Few s.1.1 s.1.2.1 s.1.2.2.1 s.1.2.2.2.1 s.1.2.2.2.2.1 s.2.1
def law17_Few_L5m (n : Nat) (r_law17_Few : GExpr → Int → Int → Option (Int × Unit)) : LM := ⟨46, [(1, (.ty (.i .i64))), (2, (.ty (.i .i64))), (3, (.ptr 0 0)), (6, (.ty (.i .i64))), (7, (.ty (.i .i64)))], [(.box [(.ty (.i .i64)), (.ty (.i .i64)), (.ty .s), (.ty (.sl .expr))])], [.exit 0], fun x o => iter (law17_Few_L5f n r_law17_Few) n (x, o)⟩
def law17_FewB (n : Nat) (r_law17_Few : GExpr → Int → Int → Option (Int × Unit)) (e0 : GExpr) (deep1 : Int) (left2 : Int) : Option (Int × Unit) :=
 bif (bif (ilt deep1 1) then true else (ilt (wr .i64 (isub left2 (wr .i64 (iadd (wr .i64 (iadd 1 (iof (@xlen .expr e0.args)))) (wquo .i64 (slen e0.name) 100))))) 0)) then
 some (((-1) : Int), ())
 else
 ((iter (law17_Few_L5f n r_law17_Few) n ((deep1, (wr .i64 (isub left2 (wr .i64 (iadd (wr .i64 (iadd 1 (iof (@xlen .expr e0.args)))) (wquo .i64 (slen e0.name) 100))))), (), (0 : Int), (0 : Int), ()), ((e0.op, e0.n, e0.name, e0.args, ()), ())))).bind fun z3 =>
 some (z3.2.1.2.1, ())
def law17_Fewo : Nat → GExpr → Int → Int → Option (Int × Unit)
 | 0 => fun _ _ _ => none
 | n + 1 => law17_FewB n (law17_Fewo n)
def law17_Few_fmr (f : GExpr → Int → Int → Option (Int × Unit)) : FM := ⟨[(.ty .expr), (.ty (.i .i64)), (.ty (.i .i64))], [], (.ty (.i .i64)), true, none, fun a o => f a.1 a.2.1 a.2.2.1⟩
def law17_Few_fm (n : Nat) : FM := law17_Few_fmr (law17_Fewo n)
def law17_Few_cx (n : Nat) (r_law17_Few : GExpr → Int → Int → Option (Int × Unit)) : Cx := ⟨ti, ty, gl, fun g => find [] g [(48, [law17_Few_fmr r_law17_Few])], fun k => find none k [(5, some (law17_Few_L5m n r_law17_Few))], [], false, false⟩
theorem law17_Few_L5r (n : Nat) (r_law17_Few : GExpr → Int → Int → Option (Int × Unit)) (s : FrT (law17_Few_L5m n r_law17_Few).fs × ObTs (law17_Few_L5m n r_law17_Few).os) : law17_Few_L5f n r_law17_Few s = roundF { law17_Few_cx n r_law17_Few with res := [] } (loopOf Tryz.f48 5) (law17_Few_L5m n r_law17_Few) s.1 s.2 := by kernel_rfl
theorem law17_Few_ev (n : Nat) (r_law17_Few : GExpr → Int → Int → Option (Int × Unit)) (a : ShTs (law17_Few_fmr r_law17_Few).ash) (o : ObTs (law17_Few_fmr r_law17_Few).os) : evalF (law17_Few_cx n r_law17_Few) Tryz.f48 (law17_Few_fmr r_law17_Few) a o = law17_FewB n r_law17_Few a.1 a.2.1 a.2.2.1 := by kernel_rfl
def law19_Few_L4 (n : Nat) (l_0 : (List GLine)) (s_2 : Int) (i_3 : Int) : Option (Option Nat × ((List GLine) × Int × Int × Unit) × Unit) :=
 bif (ilt i_3 (iof (@xlen .line l_0))) then
 chk (inside i_3 (iof (@xlen .line l_0))) (
 let x1 : GLine := (@xget .line l_0 (Int.toNat i_3))
 ((law17_Fewo n (GExpr.mk x1.expr.op x1.expr.n x1.expr.name x1.expr.args) (60 : Int) (300 : Int))).bind fun y2 =>
 chk (bNot (bAnd (bNot (inside i_3 (iof (@xlen .line l_0)))) (bNot (ilt y2.1 0)))) (
 let x3 : GLine := (@xget .line l_0 (Int.toNat i_3))
 chk (bNot (bAnd (bNot (inside i_3 (iof (@xlen .line l_0)))) (bNot (bif (ilt y2.1 0) then true else (ilt 300 (slen x3.label)))))) (
 let x4 : GLine := (@xget .line l_0 (Int.toNat i_3))
 bif (bif (bif (ilt y2.1 0) then true else (ilt 300 (slen x3.label))) then true else (ilt 300 (slen x4.ref))) then
 some ((some 1), (l_0, (0 : Int), i_3, ()), ())
 else
 some (none, (l_0, s_2, (wr .i64 (iadd i_3 1)), ()), ()))))
 else
 some ((some 0), (l_0, s_2, i_3, ()), ())
def law19_Few_L4f (n : Nat) (s : ((List GLine) × Int × Int × Unit) × Unit) := law19_Few_L4 n s.1.1 s.1.2.1 s.1.2.2.1
def law19_Few_L4m (n : Nat) : LM := ⟨38, [(0, (.ty (.sl .line))), (2, (.ty (.i .i64))), (3, (.ty (.i .i64)))], [], [.exit 0, .ret], fun x o => iter (law19_Few_L4f n) n (x, o)⟩
def law19_Fewo (n : Nat) (l0 : (List GLine)) : Option (Int × Unit) :=
 bif (ilt 300 (iof (@xlen .line l0))) then
 some ((0 : Int), ())
 else
 ((iter (law19_Few_L4f n) n ((l0, (0 : Int), (0 : Int), ()), ()))).bind fun z5 =>
 bif (Nat.beq z5.1 0) then
 some ((1 : Int), ())
 else
 some (z5.2.1.2.1, ())
def law19_Few_fm (n : Nat) : FM := ⟨[(.ty (.sl .line))], [], (.ty (.i .i64)), true, none, fun a o => law19_Fewo n a.1⟩
def law19_Few_cx (n : Nat) : Cx := ⟨ti, ty, gl, fun g => find [] g [(48, [law17_Few_fm n])], fun k => find none k [(4, some (law19_Few_L4m n))], [], false, false⟩
theorem law19_Few_L4r (n : Nat) (s : FrT (law19_Few_L4m n).fs × ObTs (law19_Few_L4m n).os) : law19_Few_L4f n s = roundF { law19_Few_cx n with res := [] } (loopOf Tryz.f20 4) (law19_Few_L4m n) s.1 s.2 := by kernel_rfl
theorem law19_Few_ev (n : Nat) (a : ShTs (law19_Few_fm n).ash) (o : ObTs (law19_Few_fm n).os) : evalF (law19_Few_cx n) Tryz.f20 (law19_Few_fm n) a o = (law19_Few_fm n).run a o := by kernel_rfl
def ref06_nameso : Option ((List ByteArray) × Unit) :=
 some (([(⟨#[]⟩ : ByteArray), (⟨#[97, 110, 100]⟩ : ByteArray), (⟨#[101, 111, 114]⟩ : ByteArray), (⟨#[111, 114, 114]⟩ : ByteArray), (⟨#[98, 105, 99]⟩ : ByteArray), (⟨#[97, 100, 100]⟩ : ByteArray), (⟨#[97, 100, 99]⟩ : ByteArray), (⟨#[115, 117, 98]⟩ : ByteArray), (⟨#[115, 98, 99]⟩ : ByteArray), (⟨#[114, 115, 98]⟩ : ByteArray), (⟨#[109, 111, 118]⟩ : ByteArray), (⟨#[109, 118, 110]⟩ : ByteArray), (⟨#[99, 109, 112]⟩ : ByteArray), (⟨#[99, 109, 110]⟩ : ByteArray), (⟨#[116, 115, 116]⟩ : ByteArray), (⟨#[116, 101, 113]⟩ : ByteArray), (⟨#[108, 115, 108]⟩ : ByteArray), (⟨#[108, 115, 114]⟩ : ByteArray), (⟨#[97, 115, 114]⟩ : ByteArray), (⟨#[114, 111, 114]⟩ : ByteArray), (⟨#[109, 117, 108]⟩ : ByteArray), (⟨#[117, 100, 105, 118]⟩ : ByteArray), (⟨#[115, 100, 105, 118]⟩ : ByteArray), (⟨#[109, 111, 118, 119]⟩ : ByteArray), (⟨#[109, 111, 118, 116]⟩ : ByteArray), (⟨#[108, 100, 114]⟩ : ByteArray), (⟨#[108, 100, 114, 98]⟩ : ByteArray), (⟨#[108, 100, 114, 104]⟩ : ByteArray), (⟨#[115, 116, 114]⟩ : ByteArray), (⟨#[115, 116, 114, 98]⟩ : ByteArray), (⟨#[115, 116, 114, 104]⟩ : ByteArray), (⟨#[108, 100, 109]⟩ : ByteArray), (⟨#[115, 116, 109]⟩ : ByteArray), (⟨#[112, 117, 115, 104]⟩ : ByteArray), (⟨#[112, 111, 112]⟩ : ByteArray), (⟨#[98]⟩ : ByteArray), (⟨#[98, 108]⟩ : ByteArray), (⟨#[99, 98, 122]⟩ : ByteArray), (⟨#[99, 98, 110, 122]⟩ : ByteArray), (⟨#[98, 120]⟩ : ByteArray), (⟨#[108, 100, 114]⟩ : ByteArray), (⟨#[97, 100, 114]⟩ : ByteArray), (⟨#[105, 116]⟩ : ByteArray), (⟨#[110, 111, 112]⟩ : ByteArray), (⟨#[98, 107, 112, 116]⟩ : ByteArray), (⟨#[116, 98, 98]⟩ : ByteArray)] : List ByteArray), ())
theorem ref06_names_tot : ∃ r, ref06_nameso = some (r, ()) := by
 unfold ref06_nameso
 repeat' (first | exact ⟨_, rfl⟩ | refine ex_bif ?_ ?_)
def ref06_names : (List ByteArray) := ((ref06_nameso).map Prod.fst).getD (dfS (.own .s))
theorem ref06_names_eq : ref06_nameso = some (ref06_names, ()) := by
 obtain ⟨r, h⟩ := ref06_names_tot
 unfold ref06_names; rw [h]; rfl
def ref06_names_fm : FM := ⟨[], [], (.own .s), true, some (fun a o => ref06_names ), fun a o => some (ref06_names , o)⟩
def ref06_names_cx : Cx := ⟨ti, ty, gl, fun g => find [] g [], fun k => find none k [], [], false, true⟩
theorem ref06_names_ev (a : ShTs (ref06_names_fm).ash) (o : ObTs (ref06_names_fm).os) : evalF (ref06_names_cx) Tryz.f162 (ref06_names_fm) a o = ref06_nameso := by kernel_rfl
theorem ref06_names_evt (a : ShTs (ref06_names_fm).ash) (o : ObTs (ref06_names_fm).os) : evalF (ref06_names_cx) Tryz.f162 (ref06_names_fm) a o = (ref06_names_fm).run a o := (ref06_names_ev a o).trans (ref06_names_eq )
def ref06_Nameo (op0 : Int) : Option (ByteArray × Unit) :=
 bif (bif (ilt op0 1) then true else (ilt 45 op0)) then
 some ((⟨#[]⟩ : ByteArray), ())
 else
 chk (inside op0 (iof (@xlen .s (ref06_names)))) (
 some ((@xget .s (ref06_names) (Int.toNat op0)), ()))
def ref06_Name_fm : FM := ⟨[(.ty (.i .i64))], [], (.ty .s), true, none, fun a o => ref06_Nameo a.1⟩
def ref06_Name_cx : Cx := ⟨ti, ty, gl, fun g => find [] g [(162, [ref06_names_fm])], fun k => find none k [], [], false, false⟩
theorem ref06_Name_ev (a : ShTs (ref06_Name_fm).ash) (o : ObTs (ref06_Name_fm).os) : evalF (ref06_Name_cx) Tryz.f133 (ref06_Name_fm) a o = (ref06_Name_fm).run a o := by kernel_rfl
def ref04_Turno (c0 : Int) : Option (Int × Unit) :=
 bif (bif (ilt c0 0) then true else (ilt 13 c0)) then
 some ((14 : Int), ())
 else
 bif (ieq (wrem c0 2) 0) then
 some ((wr .i64 (iadd c0 1)), ())
 else
 some ((wr .i64 (isub c0 1)), ())
theorem ref04_Turn_tot (c0 : Int) : ∃ r, ref04_Turno c0 = some (r, ()) := by
 unfold ref04_Turno
 repeat' (first | exact ⟨_, rfl⟩ | refine ex_bif ?_ ?_)
def ref04_Turn (c0 : Int) : Int := ((ref04_Turno c0).map Prod.fst).getD (dfS (.ty (.i .i64)))
theorem ref04_Turn_eq (c0 : Int) : ref04_Turno c0 = some (ref04_Turn c0, ()) := by
 obtain ⟨r, h⟩ := ref04_Turn_tot c0
 unfold ref04_Turn; rw [h]; rfl
def ref04_Turn_fm : FM := ⟨[(.ty (.i .i64))], [], (.ty (.i .i64)), true, some (fun a o => ref04_Turn a.1), fun a o => some (ref04_Turn a.1, o)⟩
def ref04_Turn_cx : Cx := ⟨ti, ty, gl, fun g => find [] g [], fun k => find none k [], [], false, false⟩
theorem ref04_Turn_ev (a : ShTs (ref04_Turn_fm).ash) (o : ObTs (ref04_Turn_fm).os) : evalF (ref04_Turn_cx) Tryz.f96 (ref04_Turn_fm) a o = ref04_Turno a.1 := by kernel_rfl
theorem ref04_Turn_evt (a : ShTs (ref04_Turn_fm).ash) (o : ObTs (ref04_Turn_fm).os) : evalF (ref04_Turn_cx) Tryz.f96 (ref04_Turn_fm) a o = (ref04_Turn_fm).run a o := (ref04_Turn_ev a o).trans (ref04_Turn_eq a.1)
def ref04_Conds_L4 (n : Nat) (c_0 : Int) (mask_1 : Int) (s_4 : (List Int)) (out_5 : (List Int)) : Option (Option Nat × (Int × Int × (List Int) × (List Int) × Unit) × Unit) :=
 bif (bNot (ieq mask_1 8)) then
 bif (bNot (bEq (ile 8 mask_1) (ieq (wrem c_0 2) 1))) then
 bif (ieq c_0 14) then
 some ((some 1), (c_0, mask_1, ([] : List Int), out_5, ()), ())
 else
 chk (room ((@xlen (.i .i64) out_5) + (@xlen (.i .i64) ([(ref04_Turn c_0)] : List Int))) 8) (
 some (none, (c_0, (wr .i64 (imul (wrem mask_1 8) 2)), s_4, (@xapp (.i .i64) out_5 ([(ref04_Turn c_0)] : List Int)), ()), ()))
 else
 chk (room ((@xlen (.i .i64) out_5) + (@xlen (.i .i64) ([c_0] : List Int))) 8) (
 some (none, (c_0, (wr .i64 (imul (wrem mask_1 8) 2)), s_4, (@xapp (.i .i64) out_5 ([c_0] : List Int)), ()), ()))
 else
 some ((some 0), (c_0, mask_1, s_4, out_5, ()), ())
def ref04_Conds_L4f (n : Nat) (s : (Int × Int × (List Int) × (List Int) × Unit) × Unit) := ref04_Conds_L4 n s.1.1 s.1.2.1 s.1.2.2.1 s.1.2.2.2.1
def ref04_Conds_L4m (n : Nat) : LM := ⟨46, [(0, (.ty (.i .i64))), (1, (.ty (.i .i64))), (4, (.own (.i .i64))), (5, (.own (.i .i64)))], [], [.exit 0, .ret], fun x o => iter (ref04_Conds_L4f n) n (x, o)⟩
def ref04_Condso (n : Nat) (c0 : Int) (mask1 : Int) : Option ((List Int) × Unit) :=
 bif (bif (bif (bif (ilt c0 0) then true else (ilt 14 c0)) then true else (ilt mask1 1)) then true else (ilt 15 mask1)) then
 some (([] : List Int), ())
 else
 ((iter (ref04_Conds_L4f n) n ((c0, mask1, ([] : List Int), ([c0] : List Int), ()), ()))).bind fun z1 =>
 bif (Nat.beq z1.1 0) then
 some (z1.2.1.2.2.2.1, ())
 else
 some (z1.2.1.2.2.1, ())
def ref04_Conds_fm (n : Nat) : FM := ⟨[(.ty (.i .i64)), (.ty (.i .i64))], [], (.own (.i .i64)), true, none, fun a o => ref04_Condso n a.1 a.2.1⟩
def ref04_Conds_cx (n : Nat) : Cx := ⟨ti, ty, gl, fun g => find [] g [(96, [ref04_Turn_fm])], fun k => find none k [(4, some (ref04_Conds_L4m n))], [], false, true⟩
theorem ref04_Conds_L4r (n : Nat) (s : FrT (ref04_Conds_L4m n).fs × ObTs (ref04_Conds_L4m n).os) : ref04_Conds_L4f n s = roundF { ref04_Conds_cx n with res := [] } (loopOf Tryz.f68 4) (ref04_Conds_L4m n) s.1 s.2 := by kernel_rfl
theorem ref04_Conds_ev (n : Nat) (a : ShTs (ref04_Conds_fm n).ash) (o : ObTs (ref04_Conds_fm n).os) : evalF (ref04_Conds_cx n) Tryz.f68 (ref04_Conds_fm n) a o = (ref04_Conds_fm n).run a o := by kernel_rfl
def ref04_nameso : Option ((List ByteArray) × Unit) :=
 some (([(⟨#[101, 113]⟩ : ByteArray), (⟨#[110, 101]⟩ : ByteArray), (⟨#[99, 115]⟩ : ByteArray), (⟨#[99, 99]⟩ : ByteArray), (⟨#[109, 105]⟩ : ByteArray), (⟨#[112, 108]⟩ : ByteArray), (⟨#[118, 115]⟩ : ByteArray), (⟨#[118, 99]⟩ : ByteArray), (⟨#[104, 105]⟩ : ByteArray), (⟨#[108, 115]⟩ : ByteArray), (⟨#[103, 101]⟩ : ByteArray), (⟨#[108, 116]⟩ : ByteArray), (⟨#[103, 116]⟩ : ByteArray), (⟨#[108, 101]⟩ : ByteArray)] : List ByteArray), ())
theorem ref04_names_tot : ∃ r, ref04_nameso = some (r, ()) := by
 unfold ref04_nameso
 repeat' (first | exact ⟨_, rfl⟩ | refine ex_bif ?_ ?_)
def ref04_names : (List ByteArray) := ((ref04_nameso).map Prod.fst).getD (dfS (.own .s))
theorem ref04_names_eq : ref04_nameso = some (ref04_names, ()) := by
 obtain ⟨r, h⟩ := ref04_names_tot
 unfold ref04_names; rw [h]; rfl
def ref04_names_fm : FM := ⟨[], [], (.own .s), true, some (fun a o => ref04_names ), fun a o => some (ref04_names , o)⟩
def ref04_names_cx : Cx := ⟨ti, ty, gl, fun g => find [] g [], fun k => find none k [], [], false, true⟩
theorem ref04_names_ev (a : ShTs (ref04_names_fm).ash) (o : ObTs (ref04_names_fm).os) : evalF (ref04_names_cx) Tryz.f163 (ref04_names_fm) a o = ref04_nameso := by kernel_rfl
theorem ref04_names_evt (a : ShTs (ref04_names_fm).ash) (o : ObTs (ref04_names_fm).os) : evalF (ref04_names_cx) Tryz.f163 (ref04_names_fm) a o = (ref04_names_fm).run a o := (ref04_names_ev a o).trans (ref04_names_eq )
def ref04_Nameo (c0 : Int) : Option (ByteArray × Unit) :=
 bif (bif (ilt c0 0) then true else (ilt 13 c0)) then
 some ((⟨#[]⟩ : ByteArray), ())
 else
 chk (inside c0 (iof (@xlen .s (ref04_names)))) (
 some ((@xget .s (ref04_names) (Int.toNat c0)), ()))
def ref04_Name_fm : FM := ⟨[(.ty (.i .i64))], [], (.ty .s), true, none, fun a o => ref04_Nameo a.1⟩
def ref04_Name_cx : Cx := ⟨ti, ty, gl, fun g => find [] g [(163, [ref04_names_fm])], fun k => find none k [], [], false, false⟩
theorem ref04_Name_ev (a : ShTs (ref04_Name_fm).ash) (o : ObTs (ref04_Name_fm).os) : evalF (ref04_Name_cx) Tryz.f134 (ref04_Name_fm) a o = (ref04_Name_fm).run a o := by kernel_rfl
def ref05_nameso : Option ((List ByteArray) × Unit) :=
 some (([(⟨#[114, 48]⟩ : ByteArray), (⟨#[114, 49]⟩ : ByteArray), (⟨#[114, 50]⟩ : ByteArray), (⟨#[114, 51]⟩ : ByteArray), (⟨#[114, 52]⟩ : ByteArray), (⟨#[114, 53]⟩ : ByteArray), (⟨#[114, 54]⟩ : ByteArray), (⟨#[114, 55]⟩ : ByteArray), (⟨#[114, 56]⟩ : ByteArray), (⟨#[114, 57]⟩ : ByteArray), (⟨#[114, 49, 48]⟩ : ByteArray), (⟨#[114, 49, 49]⟩ : ByteArray), (⟨#[114, 49, 50]⟩ : ByteArray), (⟨#[115, 112]⟩ : ByteArray), (⟨#[108, 114]⟩ : ByteArray), (⟨#[112, 99]⟩ : ByteArray), (⟨#[114, 49, 51]⟩ : ByteArray), (⟨#[114, 49, 52]⟩ : ByteArray), (⟨#[114, 49, 53]⟩ : ByteArray)] : List ByteArray), ())
theorem ref05_names_tot : ∃ r, ref05_nameso = some (r, ()) := by
 unfold ref05_nameso
 repeat' (first | exact ⟨_, rfl⟩ | refine ex_bif ?_ ?_)
def ref05_names : (List ByteArray) := ((ref05_nameso).map Prod.fst).getD (dfS (.own .s))
theorem ref05_names_eq : ref05_nameso = some (ref05_names, ()) := by
 obtain ⟨r, h⟩ := ref05_names_tot
 unfold ref05_names; rw [h]; rfl
def ref05_names_fm : FM := ⟨[], [], (.own .s), true, some (fun a o => ref05_names ), fun a o => some (ref05_names , o)⟩
def ref05_names_cx : Cx := ⟨ti, ty, gl, fun g => find [] g [], fun k => find none k [], [], false, true⟩
theorem ref05_names_ev (a : ShTs (ref05_names_fm).ash) (o : ObTs (ref05_names_fm).os) : evalF (ref05_names_cx) Tryz.f178 (ref05_names_fm) a o = ref05_nameso := by kernel_rfl
theorem ref05_names_evt (a : ShTs (ref05_names_fm).ash) (o : ObTs (ref05_names_fm).os) : evalF (ref05_names_cx) Tryz.f178 (ref05_names_fm) a o = (ref05_names_fm).run a o := (ref05_names_ev a o).trans (ref05_names_eq )
def ref05_Nameo (r0 : Int) : Option (ByteArray × Unit) :=
 bif (bif (ilt r0 0) then true else (ilt 15 r0)) then
 some ((⟨#[]⟩ : ByteArray), ())
 else
 chk (inside r0 (iof (@xlen .s (ref05_names)))) (
 some ((@xget .s (ref05_names) (Int.toNat r0)), ()))
def ref05_Name_fm : FM := ⟨[(.ty (.i .i64))], [], (.ty .s), true, none, fun a o => ref05_Nameo a.1⟩
def ref05_Name_cx : Cx := ⟨ti, ty, gl, fun g => find [] g [(178, [ref05_names_fm])], fun k => find none k [], [], false, false⟩
theorem ref05_Name_ev (a : ShTs (ref05_Name_fm).ash) (o : ObTs (ref05_Name_fm).os) : evalF (ref05_Name_cx) Tryz.f164 (ref05_Name_fm) a o = (ref05_Name_fm).run a o := by kernel_rfl
def ref16_lettero (c0 : Int) : Option (Bool × Unit) :=
 some ((bif (bif (bif (ile 97 c0) then (ile c0 122) else false) then true else (ieq c0 95)) then true else (ieq c0 46)), ())
theorem ref16_letter_tot (c0 : Int) : ∃ r, ref16_lettero c0 = some (r, ()) := by
 unfold ref16_lettero
 repeat' (first | exact ⟨_, rfl⟩ | refine ex_bif ?_ ?_)
def ref16_letter (c0 : Int) : Bool := ((ref16_lettero c0).map Prod.fst).getD (dfS (.ty .b))
theorem ref16_letter_eq (c0 : Int) : ref16_lettero c0 = some (ref16_letter c0, ()) := by
 obtain ⟨r, h⟩ := ref16_letter_tot c0
 unfold ref16_letter; rw [h]; rfl
def ref16_letter_fm : FM := ⟨[(.ty (.i .u8))], [], (.ty .b), true, some (fun a o => ref16_letter a.1), fun a o => some (ref16_letter a.1, o)⟩
def ref16_letter_cx : Cx := ⟨ti, ty, gl, fun g => find [] g [], fun k => find none k [], [], false, false⟩
theorem ref16_letter_ev (a : ShTs (ref16_letter_fm).ash) (o : ObTs (ref16_letter_fm).os) : evalF (ref16_letter_cx) Tryz.f100 (ref16_letter_fm) a o = ref16_lettero a.1 := by kernel_rfl
theorem ref16_letter_evt (a : ShTs (ref16_letter_fm).ash) (o : ObTs (ref16_letter_fm).os) : evalF (ref16_letter_cx) Tryz.f100 (ref16_letter_fm) a o = (ref16_letter_fm).run a o := (ref16_letter_ev a o).trans (ref16_letter_eq a.1)
def ref16_digito (c0 : Int) : Option (Bool × Unit) :=
 some ((bif (ile 48 c0) then (ile c0 57) else false), ())
theorem ref16_digit_tot (c0 : Int) : ∃ r, ref16_digito c0 = some (r, ()) := by
 unfold ref16_digito
 repeat' (first | exact ⟨_, rfl⟩ | refine ex_bif ?_ ?_)
def ref16_digit (c0 : Int) : Bool := ((ref16_digito c0).map Prod.fst).getD (dfS (.ty .b))
theorem ref16_digit_eq (c0 : Int) : ref16_digito c0 = some (ref16_digit c0, ()) := by
 obtain ⟨r, h⟩ := ref16_digit_tot c0
 unfold ref16_digit; rw [h]; rfl
def ref16_digit_fm : FM := ⟨[(.ty (.i .u8))], [], (.ty .b), true, some (fun a o => ref16_digit a.1), fun a o => some (ref16_digit a.1, o)⟩
def ref16_digit_cx : Cx := ⟨ti, ty, gl, fun g => find [] g [], fun k => find none k [], [], false, false⟩
theorem ref16_digit_ev (a : ShTs (ref16_digit_fm).ash) (o : ObTs (ref16_digit_fm).os) : evalF (ref16_digit_cx) Tryz.f102 (ref16_digit_fm) a o = ref16_digito a.1 := by kernel_rfl
theorem ref16_digit_evt (a : ShTs (ref16_digit_fm).ash) (o : ObTs (ref16_digit_fm).os) : evalF (ref16_digit_cx) Tryz.f102 (ref16_digit_fm) a o = (ref16_digit_fm).run a o := (ref16_digit_ev a o).trans (ref16_digit_eq a.1)
def ref16_run_L4 (n : Nat) (s_0 : ByteArray) (s_2 : Int) (n_3 : Int) : Option (Option Nat × (ByteArray × Int × Int × Unit) × Unit) :=
 chk (bNot (bAnd (bNot (inside n_3 (slen s_0))) (ilt n_3 (slen s_0)))) (
 chk (bNot (bAnd (bNot (inside n_3 (slen s_0))) (bAnd (ilt n_3 (slen s_0)) (bNot (ref16_letter (sget s_0 n_3)))))) (
 bif (bif (ilt n_3 (slen s_0)) then (bif (ref16_letter (sget s_0 n_3)) then true else (ref16_digit (sget s_0 n_3))) else false) then
 some (none, (s_0, s_2, (wr .i64 (iadd n_3 1)), ()), ())
 else
 some ((some 0), (s_0, s_2, n_3, ()), ())))
def ref16_run_L4f (n : Nat) (s : (ByteArray × Int × Int × Unit) × Unit) := ref16_run_L4 n s.1.1 s.1.2.1 s.1.2.2.1
def ref16_run_L4m (n : Nat) : LM := ⟨31, [(0, (.ty .s)), (2, (.ty (.i .i64))), (3, (.ty (.i .i64)))], [], [.exit 0], fun x o => iter (ref16_run_L4f n) n (x, o)⟩
def ref16_runo (n : Nat) (s0 : ByteArray) : Option (Int × Unit) :=
 chk (bNot (bAnd (bNot (inside 0 (slen s0))) (bNot (strEq s0 (⟨#[]⟩ : ByteArray))))) (
 bif (bif (strEq s0 (⟨#[]⟩ : ByteArray)) then true else (bNot (ref16_letter (sget s0 0)))) then
 some ((0 : Int), ())
 else
 ((iter (ref16_run_L4f n) n ((s0, (0 : Int), (1 : Int), ()), ()))).bind fun z1 =>
 some (z1.2.1.2.2.1, ()))
def ref16_run_fm (n : Nat) : FM := ⟨[(.ty .s)], [], (.ty (.i .i64)), true, none, fun a o => ref16_runo n a.1⟩
def ref16_run_cx (n : Nat) : Cx := ⟨ti, ty, gl, fun g => find [] g [(100, [ref16_letter_fm]), (102, [ref16_digit_fm])], fun k => find none k [(4, some (ref16_run_L4m n))], [], false, false⟩
theorem ref16_run_L4r (n : Nat) (s : FrT (ref16_run_L4m n).fs × ObTs (ref16_run_L4m n).os) : ref16_run_L4f n s = roundF { ref16_run_cx n with res := [] } (loopOf Tryz.f101 4) (ref16_run_L4m n) s.1 s.2 := by kernel_rfl
theorem ref16_run_ev (n : Nat) (a : ShTs (ref16_run_fm n).ash) (o : ObTs (ref16_run_fm n).os) : evalF (ref16_run_cx n) Tryz.f101 (ref16_run_fm n) a o = (ref16_run_fm n).run a o := by kernel_rfl
def ref16_Name_L4 (n : Nat) (s_0 : ByteArray) (s_2 : Bool) (i_3 : Int) : Option (Option Nat × (ByteArray × Bool × Int × Unit) × Unit) :=
 bif (ilt i_3 (slen s_0)) then
 chk (inside i_3 (slen s_0)) (
 bif (ieq (sget s_0 i_3) 46) then
 some ((some 1), (s_0, false, i_3, ()), ())
 else
 some (none, (s_0, s_2, (wr .i64 (iadd i_3 1)), ()), ()))
 else
 some ((some 0), (s_0, s_2, i_3, ()), ())
def ref16_Name_L4f (n : Nat) (s : (ByteArray × Bool × Int × Unit) × Unit) := ref16_Name_L4 n s.1.1 s.1.2.1 s.1.2.2.1
def ref16_Name_L4m (n : Nat) : LM := ⟨28, [(0, (.ty .s)), (2, (.ty .b)), (3, (.ty (.i .i64)))], [], [.exit 0, .ret], fun x o => iter (ref16_Name_L4f n) n (x, o)⟩
def ref16_Nameo (n : Nat) (s0 : ByteArray) : Option (Bool × Unit) :=
 ((bif (bNot (bif (strEq s0 (⟨#[]⟩ : ByteArray)) then true else (ilt 32 (slen s0)))) then (ref16_runo n s0) else (some (dfS (.ty (.i .i64)), dfObs [])))).bind fun y1 =>
 bif (bif (bif (strEq s0 (⟨#[]⟩ : ByteArray)) then true else (ilt 32 (slen s0))) then true else (bNot (ieq y1.1 (slen s0)))) then
 some (false, ())
 else
 ((iter (ref16_Name_L4f n) n ((s0, false, (0 : Int), ()), ()))).bind fun z2 =>
 bif (Nat.beq z2.1 0) then
 some (true, ())
 else
 some (z2.2.1.2.1, ())
def ref16_Name_fm (n : Nat) : FM := ⟨[(.ty .s)], [], (.ty .b), true, none, fun a o => ref16_Nameo n a.1⟩
def ref16_Name_cx (n : Nat) : Cx := ⟨ti, ty, gl, fun g => find [] g [(101, [ref16_run_fm n])], fun k => find none k [(4, some (ref16_Name_L4m n))], [], false, false⟩
theorem ref16_Name_L4r (n : Nat) (s : FrT (ref16_Name_L4m n).fs × ObTs (ref16_Name_L4m n).os) : ref16_Name_L4f n s = roundF { ref16_Name_cx n with res := [] } (loopOf Tryz.f76 4) (ref16_Name_L4m n) s.1 s.2 := by kernel_rfl
theorem ref16_Name_ev (n : Nat) (a : ShTs (ref16_Name_fm n).ash) (o : ObTs (ref16_Name_fm n).os) : evalF (ref16_Name_cx n) Tryz.f76 (ref16_Name_fm n) a o = (ref16_Name_fm n).run a o := by kernel_rfl
def ref17_formo (n : Nat) (s0 : GExpr) : Option (Bool × Unit) :=
 bif (ieq s0.op 1) then
 some ((bif (bif (bif (ieq (iof (@xlen .expr s0.args)) 0) then (strEq s0.name (⟨#[]⟩ : ByteArray)) else false) then (ile 0 s0.n) else false) then (ilt s0.n 4294967296) else false), ())
 else
 bif (ieq s0.op 2) then
 ((bif (bif (ieq (iof (@xlen .expr s0.args)) 0) then (ieq s0.n 0) else false) then (ref16_Nameo n s0.name) else (some (dfS (.ty .b), dfObs [])))).bind fun y1 =>
 some ((bif (bif (ieq (iof (@xlen .expr s0.args)) 0) then (ieq s0.n 0) else false) then y1.1 else false), ())
 else
 bif (bif (ieq s0.op 3) then true else (ieq s0.op 4)) then
 some ((bif (bif (ieq (iof (@xlen .expr s0.args)) 1) then (ieq s0.n 0) else false) then (strEq s0.name (⟨#[]⟩ : ByteArray)) else false), ())
 else
 some ((bif (bif (bif (bif (ile 5 s0.op) then (ile s0.op 11) else false) then (ieq (iof (@xlen .expr s0.args)) 2) else false) then (ieq s0.n 0) else false) then (strEq s0.name (⟨#[]⟩ : ByteArray)) else false), ())
def ref17_form_fm (n : Nat) : FM := ⟨[(.ty .expr)], [], (.ty .b), true, none, fun a o => ref17_formo n a.1⟩
def ref17_form_cx (n : Nat) : Cx := ⟨ti, ty, gl, fun g => find [] g [(76, [ref16_Name_fm n])], fun k => find none k [], [], false, false⟩
theorem ref17_form_ev (n : Nat) (a : ShTs (ref17_form_fm n).ash) (o : ObTs (ref17_form_fm n).os) : evalF (ref17_form_cx n) Tryz.f167 (ref17_form_fm n) a o = (ref17_form_fm n).run a o := by kernel_rfl
def ref17_parts_L5 (n : Nat) (r_ref17_parts : GExpr → Int → Int → Option (Int × Unit)) (deep_1 : Int) (left_2 : Int) (e_3 : Unit) (s_6 : Int) (i_7 : Int) (o0 : (Int × Int × ByteArray × (List GExpr) × Unit)) : Option (Option Nat × (Int × Int × Unit × Int × Int × Unit) × ((Int × Int × ByteArray × (List GExpr) × Unit) × Unit)) :=
 bif (bif (ilt i_7 (iof (@xlen .expr o0.2.2.2.1))) then (ile 0 left_2) else false) then
 chk (inside i_7 (iof (@xlen .expr o0.2.2.2.1))) (
 let x2 : GExpr := (@xget .expr o0.2.2.2.1 (Int.toNat i_7))
 ((r_ref17_parts (GExpr.mk x2.op x2.n x2.name x2.args) (wr .i64 (isub deep_1 1)) left_2)).bind fun y3 =>
 some (none, (deep_1, y3.1, (), s_6, (wr .i64 (iadd i_7 1)), ()), (o0, ())))
 else
 some ((some 0), (deep_1, left_2, (), s_6, i_7, ()), (o0, ()))
def ref17_parts_L5f (n : Nat) (r_ref17_parts : GExpr → Int → Int → Option (Int × Unit)) (s : (Int × Int × Unit × Int × Int × Unit) × ((Int × Int × ByteArray × (List GExpr) × Unit) × Unit)) := ref17_parts_L5 n r_ref17_parts s.1.1 s.1.2.1 s.1.2.2.1 s.1.2.2.2.1 s.1.2.2.2.2.1 s.2.1
def ref17_parts_L5m (n : Nat) (r_ref17_parts : GExpr → Int → Int → Option (Int × Unit)) : LM := ⟨42, [(1, (.ty (.i .i64))), (2, (.ty (.i .i64))), (3, (.ptr 0 0)), (6, (.ty (.i .i64))), (7, (.ty (.i .i64)))], [(.box [(.ty (.i .i64)), (.ty (.i .i64)), (.ty .s), (.ty (.sl .expr))])], [.exit 0], fun x o => iter (ref17_parts_L5f n r_ref17_parts) n (x, o)⟩
def ref17_partsB (n : Nat) (r_ref17_parts : GExpr → Int → Int → Option (Int × Unit)) (e0 : GExpr) (deep1 : Int) (left2 : Int) : Option (Int × Unit) :=
 ((bif (bNot (bif (ilt deep1 1) then true else (ilt (wr .i64 (isub left2 1)) 0))) then (ref17_formo n (GExpr.mk e0.op e0.n e0.name e0.args)) else (some (dfS (.ty .b), dfObs [])))).bind fun y1 =>
 bif (bif (bif (ilt deep1 1) then true else (ilt (wr .i64 (isub left2 1)) 0)) then true else (bNot y1.1)) then
 some (((-1) : Int), ())
 else
 ((iter (ref17_parts_L5f n r_ref17_parts) n ((deep1, (wr .i64 (isub left2 1)), (), (0 : Int), (0 : Int), ()), ((e0.op, e0.n, e0.name, e0.args, ()), ())))).bind fun z4 =>
 some (z4.2.1.2.1, ())
def ref17_partso : Nat → GExpr → Int → Int → Option (Int × Unit)
 | 0 => fun _ _ _ => none
 | n + 1 => ref17_partsB n (ref17_partso n)
def ref17_parts_fmr (f : GExpr → Int → Int → Option (Int × Unit)) : FM := ⟨[(.ty .expr), (.ty (.i .i64)), (.ty (.i .i64))], [], (.ty (.i .i64)), true, none, fun a o => f a.1 a.2.1 a.2.2.1⟩
def ref17_parts_fm (n : Nat) : FM := ref17_parts_fmr (ref17_partso n)
def ref17_parts_cx (n : Nat) (r_ref17_parts : GExpr → Int → Int → Option (Int × Unit)) : Cx := ⟨ti, ty, gl, fun g => find [] g [(167, [ref17_form_fm n]), (136, [ref17_parts_fmr r_ref17_parts])], fun k => find none k [(5, some (ref17_parts_L5m n r_ref17_parts))], [], false, false⟩
theorem ref17_parts_L5r (n : Nat) (r_ref17_parts : GExpr → Int → Int → Option (Int × Unit)) (s : FrT (ref17_parts_L5m n r_ref17_parts).fs × ObTs (ref17_parts_L5m n r_ref17_parts).os) : ref17_parts_L5f n r_ref17_parts s = roundF { ref17_parts_cx n r_ref17_parts with res := [] } (loopOf Tryz.f136 5) (ref17_parts_L5m n r_ref17_parts) s.1 s.2 := by kernel_rfl
theorem ref17_parts_ev (n : Nat) (r_ref17_parts : GExpr → Int → Int → Option (Int × Unit)) (a : ShTs (ref17_parts_fmr r_ref17_parts).ash) (o : ObTs (ref17_parts_fmr r_ref17_parts).os) : evalF (ref17_parts_cx n r_ref17_parts) Tryz.f136 (ref17_parts_fmr r_ref17_parts) a o = ref17_partsB n r_ref17_parts a.1 a.2.1 a.2.2.1 := by kernel_rfl
def ref17_Mayo (n : Nat) (e0 : GExpr) : Option (Bool × Unit) :=
 ((ref17_partso n (GExpr.mk e0.op e0.n e0.name e0.args) (16 : Int) (1000 : Int))).bind fun y1 =>
 some ((ile 0 y1.1), ())
def ref17_May_fm (n : Nat) : FM := ⟨[(.ty .expr)], [], (.ty .b), true, none, fun a o => ref17_Mayo n a.1⟩
def ref17_May_cx (n : Nat) : Cx := ⟨ti, ty, gl, fun g => find [] g [(136, [ref17_parts_fm n])], fun k => find none k [], [], false, false⟩
theorem ref17_May_ev (n : Nat) (a : ShTs (ref17_May_fm n).ash) (o : ObTs (ref17_May_fm n).os) : evalF (ref17_May_cx n) Tryz.f98 (ref17_May_fm n) a o = (ref17_May_fm n).run a o := by kernel_rfl
def ref16_Digits_L2 (n : Nat) (n_0 : Int) (s_2 : ByteArray) (s_3 : ByteArray) : Option (Option Nat × (Int × ByteArray × ByteArray × Unit) × Unit) :=
 bif (ile 10 n_0) then
 chk (bounds (wrem n_0 10) (wr .i64 (iadd (wrem n_0 10) 1)) (slen (⟨#[48, 49, 50, 51, 52, 53, 54, 55, 56, 57]⟩ : ByteArray))) (
 chk (sroom (scut (⟨#[48, 49, 50, 51, 52, 53, 54, 55, 56, 57]⟩ : ByteArray) (wrem n_0 10) (wr .i64 (iadd (wrem n_0 10) 1))) s_3) (
 some (none, ((wquo .i64 n_0 10), s_2, (scat (scut (⟨#[48, 49, 50, 51, 52, 53, 54, 55, 56, 57]⟩ : ByteArray) (wrem n_0 10) (wr .i64 (iadd (wrem n_0 10) 1))) s_3), ()), ())))
 else
 some ((some 0), (n_0, s_2, s_3, ()), ())
def ref16_Digits_L2f (n : Nat) (s : (Int × ByteArray × ByteArray × Unit) × Unit) := ref16_Digits_L2 n s.1.1 s.1.2.1 s.1.2.2.1
def ref16_Digits_L2m (n : Nat) : LM := ⟨22, [(0, (.ty (.i .i64))), (2, (.ty .s)), (3, (.ty .s))], [], [.exit 0], fun x o => iter (ref16_Digits_L2f n) n (x, o)⟩
def ref16_Digitso (n : Nat) (n0 : Int) : Option (ByteArray × Unit) :=
 ((iter (ref16_Digits_L2f n) n ((n0, (⟨#[]⟩ : ByteArray), (⟨#[]⟩ : ByteArray), ()), ()))).bind fun z1 =>
 chk (bounds z1.2.1.1 (wr .i64 (iadd z1.2.1.1 1)) (slen (⟨#[48, 49, 50, 51, 52, 53, 54, 55, 56, 57]⟩ : ByteArray))) (
 chk (sroom (scut (⟨#[48, 49, 50, 51, 52, 53, 54, 55, 56, 57]⟩ : ByteArray) z1.2.1.1 (wr .i64 (iadd z1.2.1.1 1))) z1.2.1.2.2.1) (
 some ((scat (scut (⟨#[48, 49, 50, 51, 52, 53, 54, 55, 56, 57]⟩ : ByteArray) z1.2.1.1 (wr .i64 (iadd z1.2.1.1 1))) z1.2.1.2.2.1), ())))
def ref16_Digits_fm (n : Nat) : FM := ⟨[(.ty (.i .i64))], [], (.ty .s), true, none, fun a o => ref16_Digitso n a.1⟩
def ref16_Digits_cx (n : Nat) : Cx := ⟨ti, ty, gl, fun g => find [] g [], fun k => find none k [(2, some (ref16_Digits_L2m n))], [], false, false⟩
theorem ref16_Digits_L2r (n : Nat) (s : FrT (ref16_Digits_L2m n).fs × ObTs (ref16_Digits_L2m n).os) : ref16_Digits_L2f n s = roundF { ref16_Digits_cx n with res := [] } (loopOf Tryz.f73 2) (ref16_Digits_L2m n) s.1 s.2 := by kernel_rfl
theorem ref16_Digits_ev (n : Nat) (a : ShTs (ref16_Digits_fm n).ash) (o : ObTs (ref16_Digits_fm n).os) : evalF (ref16_Digits_cx n) Tryz.f73 (ref16_Digits_fm n) a o = (ref16_Digits_fm n).run a o := by kernel_rfl
def ref17_levelo (op0 : Int) : Option (Int × Unit) :=
 bif (ieq op0 9) then
 some ((1 : Int), ())
 else
 bif (ieq op0 8) then
 some ((2 : Int), ())
 else
 bif (ieq op0 10) then
 bif (ieq op0 10) then
 some ((3 : Int), ())
 else
 bif (ieq op0 5) then
 bif (ieq op0 5) then
 some ((4 : Int), ())
 else
 bif (ieq op0 7) then
 some ((5 : Int), ())
 else
 some ((6 : Int), ())
 else
 bif (ieq op0 6) then
 some ((4 : Int), ())
 else
 bif (ieq op0 7) then
 some ((5 : Int), ())
 else
 some ((6 : Int), ())
 else
 bif (ieq op0 11) then
 some ((3 : Int), ())
 else
 bif (ieq op0 5) then
 bif (ieq op0 5) then
 some ((4 : Int), ())
 else
 bif (ieq op0 7) then
 some ((5 : Int), ())
 else
 some ((6 : Int), ())
 else
 bif (ieq op0 6) then
 some ((4 : Int), ())
 else
 bif (ieq op0 7) then
 some ((5 : Int), ())
 else
 some ((6 : Int), ())
theorem ref17_level_tot (op0 : Int) : ∃ r, ref17_levelo op0 = some (r, ()) := by
 unfold ref17_levelo
 repeat' (first | exact ⟨_, rfl⟩ | refine ex_bif ?_ ?_)
def ref17_level (op0 : Int) : Int := ((ref17_levelo op0).map Prod.fst).getD (dfS (.ty (.i .i64)))
theorem ref17_level_eq (op0 : Int) : ref17_levelo op0 = some (ref17_level op0, ()) := by
 obtain ⟨r, h⟩ := ref17_level_tot op0
 unfold ref17_level; rw [h]; rfl
def ref17_level_fm : FM := ⟨[(.ty (.i .i64))], [], (.ty (.i .i64)), true, some (fun a o => ref17_level a.1), fun a o => some (ref17_level a.1, o)⟩
def ref17_level_cx : Cx := ⟨ti, ty, gl, fun g => find [] g [], fun k => find none k [], [], false, false⟩
theorem ref17_level_ev (a : ShTs (ref17_level_fm).ash) (o : ObTs (ref17_level_fm).os) : evalF (ref17_level_cx) Tryz.f138 (ref17_level_fm) a o = ref17_levelo a.1 := by kernel_rfl
theorem ref17_level_evt (a : ShTs (ref17_level_fm).ash) (o : ObTs (ref17_level_fm).os) : evalF (ref17_level_cx) Tryz.f138 (ref17_level_fm) a o = (ref17_level_fm).run a o := (ref17_level_ev a o).trans (ref17_level_eq a.1)
def ref17_signo (op0 : Int) : Option (ByteArray × Unit) :=
 bif (ieq op0 9) then
 some ((⟨#[124]⟩ : ByteArray), ())
 else
 bif (ieq op0 8) then
 some ((⟨#[38]⟩ : ByteArray), ())
 else
 bif (ieq op0 10) then
 some ((⟨#[60, 60]⟩ : ByteArray), ())
 else
 bif (ieq op0 11) then
 some ((⟨#[62, 62]⟩ : ByteArray), ())
 else
 bif (ieq op0 5) then
 some ((⟨#[43]⟩ : ByteArray), ())
 else
 bif (ieq op0 6) then
 some ((⟨#[45]⟩ : ByteArray), ())
 else
 some ((⟨#[42]⟩ : ByteArray), ())
theorem ref17_sign_tot (op0 : Int) : ∃ r, ref17_signo op0 = some (r, ()) := by
 unfold ref17_signo
 repeat' (first | exact ⟨_, rfl⟩ | refine ex_bif ?_ ?_)
def ref17_sign (op0 : Int) : ByteArray := ((ref17_signo op0).map Prod.fst).getD (dfS (.ty .s))
theorem ref17_sign_eq (op0 : Int) : ref17_signo op0 = some (ref17_sign op0, ()) := by
 obtain ⟨r, h⟩ := ref17_sign_tot op0
 unfold ref17_sign; rw [h]; rfl
def ref17_sign_fm : FM := ⟨[(.ty (.i .i64))], [], (.ty .s), true, some (fun a o => ref17_sign a.1), fun a o => some (ref17_sign a.1, o)⟩
def ref17_sign_cx : Cx := ⟨ti, ty, gl, fun g => find [] g [], fun k => find none k [], [], false, false⟩
theorem ref17_sign_ev (a : ShTs (ref17_sign_fm).ash) (o : ObTs (ref17_sign_fm).os) : evalF (ref17_sign_cx) Tryz.f139 (ref17_sign_fm) a o = ref17_signo a.1 := by kernel_rfl
theorem ref17_sign_evt (a : ShTs (ref17_sign_fm).ash) (o : ObTs (ref17_sign_fm).os) : evalF (ref17_sign_cx) Tryz.f139 (ref17_sign_fm) a o = (ref17_sign_fm).run a o := (ref17_sign_ev a o).trans (ref17_sign_eq a.1)
def ref17_textB (n : Nat) (r_ref17_text : GExpr → Option (ByteArray × Unit)) (r_ref17_part : GExpr → Int → Option (ByteArray × Unit)) (e0 : GExpr) : Option (ByteArray × Unit) :=
 bif (ieq e0.op 1) then
 ((ref16_Digitso n e0.n)).bind fun y1 =>
 some (y1.1, ())
 else
 bif (ieq e0.op 2) then
 some (e0.name, ())
 else
 bif (ieq e0.op 3) then
 chk (inside 0 (iof (@xlen .expr e0.args))) (
 let x2 : GExpr := (@xget .expr e0.args 0)
 ((r_ref17_part (GExpr.mk x2.op x2.n x2.name x2.args) (6 : Int))).bind fun y3 =>
 chk (sroom (⟨#[45]⟩ : ByteArray) y3.1) (
 some ((scat (⟨#[45]⟩ : ByteArray) y3.1), ())))
 else
 bif (ieq e0.op 4) then
 chk (inside 0 (iof (@xlen .expr e0.args))) (
 let x4 : GExpr := (@xget .expr e0.args 0)
 ((r_ref17_part (GExpr.mk x4.op x4.n x4.name x4.args) (6 : Int))).bind fun y5 =>
 chk (sroom (⟨#[126]⟩ : ByteArray) y5.1) (
 some ((scat (⟨#[126]⟩ : ByteArray) y5.1), ())))
 else
 chk (inside 0 (iof (@xlen .expr e0.args))) (
 let x6 : GExpr := (@xget .expr e0.args 0)
 ((r_ref17_part (GExpr.mk x6.op x6.n x6.name x6.args) (ref17_level e0.op))).bind fun y7 =>
 chk (sroom y7.1 (⟨#[32]⟩ : ByteArray)) (
 chk (sroom (scat y7.1 (⟨#[32]⟩ : ByteArray)) (ref17_sign e0.op)) (
 chk (sroom (scat (scat y7.1 (⟨#[32]⟩ : ByteArray)) (ref17_sign e0.op)) (⟨#[32]⟩ : ByteArray)) (
 chk (inside 1 (iof (@xlen .expr e0.args))) (
 let x8 : GExpr := (@xget .expr e0.args 1)
 ((r_ref17_part (GExpr.mk x8.op x8.n x8.name x8.args) (wr .i64 (iadd (ref17_level e0.op) 1)))).bind fun y9 =>
 chk (sroom (scat (scat (scat y7.1 (⟨#[32]⟩ : ByteArray)) (ref17_sign e0.op)) (⟨#[32]⟩ : ByteArray)) y9.1) (
 some ((scat (scat (scat (scat y7.1 (⟨#[32]⟩ : ByteArray)) (ref17_sign e0.op)) (⟨#[32]⟩ : ByteArray)) y9.1), ())))))))
def ref17_partB (n : Nat) (r_ref17_text : GExpr → Option (ByteArray × Unit)) (r_ref17_part : GExpr → Int → Option (ByteArray × Unit)) (e0 : GExpr) (least1 : Int) : Option (ByteArray × Unit) :=
 bif (ilt (ref17_level e0.op) least1) then
 ((r_ref17_text (GExpr.mk e0.op e0.n e0.name e0.args))).bind fun y1 =>
 chk (sroom (⟨#[40]⟩ : ByteArray) y1.1) (
 chk (sroom (scat (⟨#[40]⟩ : ByteArray) y1.1) (⟨#[41]⟩ : ByteArray)) (
 some ((scat (scat (⟨#[40]⟩ : ByteArray) y1.1) (⟨#[41]⟩ : ByteArray)), ())))
 else
 ((r_ref17_text (GExpr.mk e0.op e0.n e0.name e0.args))).bind fun y2 =>
 some (y2.1, ())
mutual
def ref17_texto : Nat → GExpr → Option (ByteArray × Unit)
 | 0 => fun _ => none
 | n + 1 => ref17_textB n (ref17_texto n) (ref17_parto n)
def ref17_parto : Nat → GExpr → Int → Option (ByteArray × Unit)
 | 0 => fun _ _ => none
 | n + 1 => ref17_partB n (ref17_texto n) (ref17_parto n)
end
def ref17_text_fmr (f : GExpr → Option (ByteArray × Unit)) : FM := ⟨[(.ty .expr)], [], (.ty .s), true, none, fun a o => f a.1⟩
def ref17_text_fm (n : Nat) : FM := ref17_text_fmr (ref17_texto n)
def ref17_part_fmr (f : GExpr → Int → Option (ByteArray × Unit)) : FM := ⟨[(.ty .expr), (.ty (.i .i64))], [], (.ty .s), true, none, fun a o => f a.1 a.2.1⟩
def ref17_part_fm (n : Nat) : FM := ref17_part_fmr (ref17_parto n)
def ref17_text_cx (n : Nat) (r_ref17_text : GExpr → Option (ByteArray × Unit)) (r_ref17_part : GExpr → Int → Option (ByteArray × Unit)) : Cx := ⟨ti, ty, gl, fun g => find [] g [(73, [ref16_Digits_fm n]), (137, [ref17_part_fmr r_ref17_part]), (138, [ref17_level_fm]), (139, [ref17_sign_fm])], fun k => find none k [], [], false, false⟩
theorem ref17_text_ev (n : Nat) (r_ref17_text : GExpr → Option (ByteArray × Unit)) (r_ref17_part : GExpr → Int → Option (ByteArray × Unit)) (a : ShTs (ref17_text_fmr r_ref17_text).ash) (o : ObTs (ref17_text_fmr r_ref17_text).os) : evalF (ref17_text_cx n r_ref17_text r_ref17_part) Tryz.f99 (ref17_text_fmr r_ref17_text) a o = ref17_textB n r_ref17_text r_ref17_part a.1 := by kernel_rfl
def ref17_part_cx (n : Nat) (r_ref17_text : GExpr → Option (ByteArray × Unit)) (r_ref17_part : GExpr → Int → Option (ByteArray × Unit)) : Cx := ⟨ti, ty, gl, fun g => find [] g [(138, [ref17_level_fm]), (99, [ref17_text_fmr r_ref17_text])], fun k => find none k [], [], false, false⟩
theorem ref17_part_ev (n : Nat) (r_ref17_text : GExpr → Option (ByteArray × Unit)) (r_ref17_part : GExpr → Int → Option (ByteArray × Unit)) (a : ShTs (ref17_part_fmr r_ref17_part).ash) (o : ObTs (ref17_part_fmr r_ref17_part).os) : evalF (ref17_part_cx n r_ref17_text r_ref17_part) Tryz.f137 (ref17_part_fmr r_ref17_part) a o = ref17_partB n r_ref17_text r_ref17_part a.1 a.2.1 := by kernel_rfl
def ref17_Printo (n : Nat) (e0 : GExpr) : Option (ByteArray × Unit) :=
 ((ref17_Mayo n (GExpr.mk e0.op e0.n e0.name e0.args))).bind fun y1 =>
 bif (bNot y1.1) then
 some ((⟨#[]⟩ : ByteArray), ())
 else
 ((ref17_texto n (GExpr.mk e0.op e0.n e0.name e0.args))).bind fun y2 =>
 some (y2.1, ())
def ref17_Print_fm (n : Nat) : FM := ⟨[(.ty .expr)], [], (.ty .s), true, none, fun a o => ref17_Printo n a.1⟩
def ref17_Print_cx (n : Nat) : Cx := ⟨ti, ty, gl, fun g => find [] g [(98, [ref17_May_fm n]), (99, [ref17_text_fm n])], fun k => find none k [], [], false, false⟩
theorem ref17_Print_ev (n : Nat) (a : ShTs (ref17_Print_fm n).ash) (o : ObTs (ref17_Print_fm n).os) : evalF (ref17_Print_cx n) Tryz.f72 (ref17_Print_fm n) a o = (ref17_Print_fm n).run a o := by kernel_rfl
def ref18_lasto (n : Nat) (l0 : GLine) : Option (ByteArray × Unit) :=
 bif (ieq l0.ins.mode 2) then
 ((ref05_Nameo l0.ins.rm)).bind fun y1 =>
 some (y1.1, ())
 else
 ((ref17_Printo n (GExpr.mk l0.expr.op l0.expr.n l0.expr.name l0.expr.args))).bind fun y2 =>
 chk (sroom (⟨#[35]⟩ : ByteArray) y2.1) (
 some ((scat (⟨#[35]⟩ : ByteArray) y2.1), ()))
def ref18_last_fm (n : Nat) : FM := ⟨[(.ty .line)], [], (.ty .s), true, none, fun a o => ref18_lasto n a.1⟩
def ref18_last_cx (n : Nat) : Cx := ⟨ti, ty, gl, fun g => find [] g [(164, [ref05_Name_fm]), (72, [ref17_Print_fm n])], fun k => find none k [], [], false, false⟩
theorem ref18_last_ev (n : Nat) (a : ShTs (ref18_last_fm n).ash) (o : ObTs (ref18_last_fm n).os) : evalF (ref18_last_cx n) Tryz.f165 (ref18_last_fm n) a o = (ref18_last_fm n).run a o := by kernel_rfl
def ref05_Haso (list0 : Int) (r1 : Int) : Option (Bool × Unit) :=
 chk (ile 0 (wr .u64 r1)) (
 some ((ieq (wand .i64 (wshr .i64 list0 (wr .u64 r1)) 1) 1), ()))
def ref05_Has_fm : FM := ⟨[(.ty (.i .i64)), (.ty (.i .i64))], [], (.ty .b), true, none, fun a o => ref05_Haso a.1 a.2.1⟩
def ref05_Has_cx : Cx := ⟨ti, ty, gl, fun g => find [] g [], fun k => find none k [], [], false, false⟩
theorem ref05_Has_ev (a : ShTs (ref05_Has_fm).ash) (o : ObTs (ref05_Has_fm).os) : evalF (ref05_Has_cx) Tryz.f179 (ref05_Has_fm) a o = (ref05_Has_fm).run a o := by kernel_rfl
def ref05_Print_L10 (n : Nat) (list_0 : Int) (s_2 : ByteArray) (s_3 : ByteArray) (r_4 : Int) (last_5 : Int) : Option (Option Nat × (Int × ByteArray × ByteArray × Int × Int × Unit) × Unit) :=
 ((bif (ilt last_5 12) then (ref05_Haso list_0 (wr .i64 (iadd last_5 1))) else (some (dfS (.ty .b), dfObs [])))).bind fun y3 =>
 bif (bif (ilt last_5 12) then y3.1 else false) then
 some (none, (list_0, s_2, s_3, r_4, (wr .i64 (iadd last_5 1)), ()), ())
 else
 some ((some 0), (list_0, s_2, s_3, r_4, last_5, ()), ())
def ref05_Print_L10f (n : Nat) (s : (Int × ByteArray × ByteArray × Int × Int × Unit) × Unit) := ref05_Print_L10 n s.1.1 s.1.2.1 s.1.2.2.1 s.1.2.2.2.1 s.1.2.2.2.2.1
def ref05_Print_L10m (n : Nat) : LM := ⟨44, [(0, (.ty (.i .i64))), (2, (.ty .s)), (3, (.ty .s)), (4, (.ty (.i .i64))), (5, (.ty (.i .i64)))], [], [.exit 2], fun x o => iter (ref05_Print_L10f n) n (x, o)⟩
def ref05_Print_L3 (n : Nat) (list_0 : Int) (s_2 : ByteArray) (s_3 : ByteArray) (r_4 : Int) : Option (Option Nat × (Int × ByteArray × ByteArray × Int × Unit) × Unit) :=
 bif (ilt r_4 16) then
 ((ref05_Haso list_0 r_4)).bind fun y1 =>
 bif (bNot y1.1) then
 some (none, (list_0, s_2, s_3, (wr .i64 (iadd r_4 1)), ()), ())
 else
 bif (bNot (strEq s_3 (⟨#[123]⟩ : ByteArray))) then
 chk (sroom s_3 (⟨#[44, 32]⟩ : ByteArray)) (
 ((ref05_Nameo r_4)).bind fun y2 =>
 chk (sroom (scat s_3 (⟨#[44, 32]⟩ : ByteArray)) y2.1) (
 ((iter (ref05_Print_L10f n) n ((list_0, s_2, (scat (scat s_3 (⟨#[44, 32]⟩ : ByteArray)) y2.1), r_4, r_4, ()), ()))).bind fun z4 =>
 bif (ilt z4.2.1.2.2.2.1 z4.2.1.2.2.2.2.1) then
 ((ref05_Nameo z4.2.1.2.2.2.2.1)).bind fun y5 =>
 chk (sroom (⟨#[45]⟩ : ByteArray) y5.1) (
 chk (sroom z4.2.1.2.2.1 (scat (⟨#[45]⟩ : ByteArray) y5.1)) (
 some (none, (z4.2.1.1, z4.2.1.2.1, (scat z4.2.1.2.2.1 (scat (⟨#[45]⟩ : ByteArray) y5.1)), (wr .i64 (iadd z4.2.1.2.2.2.2.1 1)), ()), ())))
 else
 some (none, (z4.2.1.1, z4.2.1.2.1, z4.2.1.2.2.1, (wr .i64 (iadd z4.2.1.2.2.2.1 1)), ()), ())))
 else
 ((ref05_Nameo r_4)).bind fun y6 =>
 chk (sroom s_3 y6.1) (
 ((iter (ref05_Print_L10f n) n ((list_0, s_2, (scat s_3 y6.1), r_4, r_4, ()), ()))).bind fun z7 =>
 bif (ilt z7.2.1.2.2.2.1 z7.2.1.2.2.2.2.1) then
 ((ref05_Nameo z7.2.1.2.2.2.2.1)).bind fun y8 =>
 chk (sroom (⟨#[45]⟩ : ByteArray) y8.1) (
 chk (sroom z7.2.1.2.2.1 (scat (⟨#[45]⟩ : ByteArray) y8.1)) (
 some (none, (z7.2.1.1, z7.2.1.2.1, (scat z7.2.1.2.2.1 (scat (⟨#[45]⟩ : ByteArray) y8.1)), (wr .i64 (iadd z7.2.1.2.2.2.2.1 1)), ()), ())))
 else
 some (none, (z7.2.1.1, z7.2.1.2.1, z7.2.1.2.2.1, (wr .i64 (iadd z7.2.1.2.2.2.1 1)), ()), ()))
 else
 some ((some 0), (list_0, s_2, s_3, r_4, ()), ())
def ref05_Print_L3f (n : Nat) (s : (Int × ByteArray × ByteArray × Int × Unit) × Unit) := ref05_Print_L3 n s.1.1 s.1.2.1 s.1.2.2.1 s.1.2.2.2.1
def ref05_Print_L3m (n : Nat) : LM := ⟨44, [(0, (.ty (.i .i64))), (2, (.ty .s)), (3, (.ty .s)), (4, (.ty (.i .i64)))], [], [.exit 0], fun x o => iter (ref05_Print_L3f n) n (x, o)⟩
def ref05_Printo (n : Nat) (list0 : Int) : Option (ByteArray × Unit) :=
 ((iter (ref05_Print_L3f n) n ((list0, (⟨#[]⟩ : ByteArray), (⟨#[123]⟩ : ByteArray), (0 : Int), ()), ()))).bind fun z9 =>
 chk (sroom z9.2.1.2.2.1 (⟨#[125]⟩ : ByteArray)) (
 some ((scat z9.2.1.2.2.1 (⟨#[125]⟩ : ByteArray)), ()))
def ref05_Print_fm (n : Nat) : FM := ⟨[(.ty (.i .i64))], [], (.ty .s), true, none, fun a o => ref05_Printo n a.1⟩
def ref05_Print_cx (n : Nat) : Cx := ⟨ti, ty, gl, fun g => find [] g [(179, [ref05_Has_fm]), (164, [ref05_Name_fm])], fun k => find none k [(10, some (ref05_Print_L10m n)), (3, some (ref05_Print_L3m n))], [], false, false⟩
theorem ref05_Print_L10r (n : Nat) (s : FrT (ref05_Print_L10m n).fs × ObTs (ref05_Print_L10m n).os) : ref05_Print_L10f n s = roundF { ref05_Print_cx n with res := [] } (loopOf Tryz.f166 10) (ref05_Print_L10m n) s.1 s.2 := by kernel_rfl
theorem ref05_Print_L3r (n : Nat) (s : FrT (ref05_Print_L3m n).fs × ObTs (ref05_Print_L3m n).os) : ref05_Print_L3f n s = roundF { ref05_Print_cx n with res := [] } (loopOf Tryz.f166 3) (ref05_Print_L3m n) s.1 s.2 := by kernel_rfl
theorem ref05_Print_ev (n : Nat) (a : ShTs (ref05_Print_fm n).ash) (o : ObTs (ref05_Print_fm n).os) : evalF (ref05_Print_cx n) Tryz.f166 (ref05_Print_fm n) a o = (ref05_Print_fm n).run a o := by kernel_rfl
def ref18_operandso (n : Nat) (s0 : GLine) : Option (ByteArray × Unit) :=
 ((ref05_Nameo s0.ins.rd)).bind fun y1 =>
 ((ref05_Nameo s0.ins.rn)).bind fun y2 =>
 ((ref05_Nameo s0.ins.rm)).bind fun y3 =>
 bif (ieq s0.kind 2) then
 chk (sroom y1.1 (⟨#[44, 32, 61]⟩ : ByteArray)) (
 ((ref17_Printo n (GExpr.mk s0.expr.op s0.expr.n s0.expr.name s0.expr.args))).bind fun y4 =>
 chk (sroom (scat y1.1 (⟨#[44, 32, 61]⟩ : ByteArray)) y4.1) (
 some ((scat (scat y1.1 (⟨#[44, 32, 61]⟩ : ByteArray)) y4.1), ())))
 else
 bif (ieq s0.ins.op 42) then
 bif (ieq s0.ins.cond 14) then
 some ((⟨#[97, 108]⟩ : ByteArray), ())
 else
 ((ref04_Nameo s0.ins.cond)).bind fun y5 =>
 some (y5.1, ())
 else
 bif (bif (ile s0.ins.op 9) then true else (bif (ile 16 s0.ins.op) then (ile s0.ins.op 19) else false)) then
 chk (sroom y1.1 (⟨#[44, 32]⟩ : ByteArray)) (
 chk (sroom (scat y1.1 (⟨#[44, 32]⟩ : ByteArray)) y2.1) (
 chk (sroom (scat (scat y1.1 (⟨#[44, 32]⟩ : ByteArray)) y2.1) (⟨#[44, 32]⟩ : ByteArray)) (
 ((ref18_lasto n s0)).bind fun y6 =>
 chk (sroom (scat (scat (scat y1.1 (⟨#[44, 32]⟩ : ByteArray)) y2.1) (⟨#[44, 32]⟩ : ByteArray)) y6.1) (
 some ((scat (scat (scat (scat y1.1 (⟨#[44, 32]⟩ : ByteArray)) y2.1) (⟨#[44, 32]⟩ : ByteArray)) y6.1), ())))))
 else
 bif (bif (bif (ile s0.ins.op 11) then true else (ieq s0.ins.op 23)) then true else (ieq s0.ins.op 24)) then
 chk (sroom y1.1 (⟨#[44, 32]⟩ : ByteArray)) (
 ((ref18_lasto n s0)).bind fun y7 =>
 chk (sroom (scat y1.1 (⟨#[44, 32]⟩ : ByteArray)) y7.1) (
 some ((scat (scat y1.1 (⟨#[44, 32]⟩ : ByteArray)) y7.1), ())))
 else
 bif (ile s0.ins.op 15) then
 chk (sroom y2.1 (⟨#[44, 32]⟩ : ByteArray)) (
 ((ref18_lasto n s0)).bind fun y8 =>
 chk (sroom (scat y2.1 (⟨#[44, 32]⟩ : ByteArray)) y8.1) (
 some ((scat (scat y2.1 (⟨#[44, 32]⟩ : ByteArray)) y8.1), ())))
 else
 bif (ile s0.ins.op 22) then
 chk (sroom y1.1 (⟨#[44, 32]⟩ : ByteArray)) (
 chk (sroom (scat y1.1 (⟨#[44, 32]⟩ : ByteArray)) y2.1) (
 chk (sroom (scat (scat y1.1 (⟨#[44, 32]⟩ : ByteArray)) y2.1) (⟨#[44, 32]⟩ : ByteArray)) (
 chk (sroom (scat (scat (scat y1.1 (⟨#[44, 32]⟩ : ByteArray)) y2.1) (⟨#[44, 32]⟩ : ByteArray)) y3.1) (
 some ((scat (scat (scat (scat y1.1 (⟨#[44, 32]⟩ : ByteArray)) y2.1) (⟨#[44, 32]⟩ : ByteArray)) y3.1), ())))))
 else
 bif (ile s0.ins.op 30) then
 chk (sroom y1.1 (⟨#[44, 32, 91]⟩ : ByteArray)) (
 chk (sroom (scat y1.1 (⟨#[44, 32, 91]⟩ : ByteArray)) y2.1) (
 chk (sroom (scat (scat y1.1 (⟨#[44, 32, 91]⟩ : ByteArray)) y2.1) (⟨#[44, 32]⟩ : ByteArray)) (
 ((ref18_lasto n s0)).bind fun y9 =>
 chk (sroom (scat (scat (scat y1.1 (⟨#[44, 32, 91]⟩ : ByteArray)) y2.1) (⟨#[44, 32]⟩ : ByteArray)) y9.1) (
 chk (sroom (scat (scat (scat (scat y1.1 (⟨#[44, 32, 91]⟩ : ByteArray)) y2.1) (⟨#[44, 32]⟩ : ByteArray)) y9.1) (⟨#[93]⟩ : ByteArray)) (
 some ((scat (scat (scat (scat (scat y1.1 (⟨#[44, 32, 91]⟩ : ByteArray)) y2.1) (⟨#[44, 32]⟩ : ByteArray)) y9.1) (⟨#[93]⟩ : ByteArray)), ()))))))
 else
 bif (bif (ieq s0.ins.op 40) then true else (ieq s0.ins.op 41)) then
 chk (sroom y1.1 (⟨#[44, 32]⟩ : ByteArray)) (
 chk (sroom (scat y1.1 (⟨#[44, 32]⟩ : ByteArray)) s0.ref) (
 some ((scat (scat y1.1 (⟨#[44, 32]⟩ : ByteArray)) s0.ref), ())))
 else
 bif (bif (ieq s0.ins.op 31) then true else (ieq s0.ins.op 32)) then
 chk (sroom y2.1 (⟨#[33, 44, 32]⟩ : ByteArray)) (
 ((ref05_Printo n s0.ins.list)).bind fun y10 =>
 chk (sroom (scat y2.1 (⟨#[33, 44, 32]⟩ : ByteArray)) y10.1) (
 some ((scat (scat y2.1 (⟨#[33, 44, 32]⟩ : ByteArray)) y10.1), ())))
 else
 bif (bif (ieq s0.ins.op 33) then true else (ieq s0.ins.op 34)) then
 ((ref05_Printo n s0.ins.list)).bind fun y11 =>
 some (y11.1, ())
 else
 bif (bif (ieq s0.ins.op 35) then true else (ieq s0.ins.op 36)) then
 some (s0.ref, ())
 else
 bif (bif (ieq s0.ins.op 37) then true else (ieq s0.ins.op 38)) then
 chk (sroom y2.1 (⟨#[44, 32]⟩ : ByteArray)) (
 chk (sroom (scat y2.1 (⟨#[44, 32]⟩ : ByteArray)) s0.ref) (
 some ((scat (scat y2.1 (⟨#[44, 32]⟩ : ByteArray)) s0.ref), ())))
 else
 bif (ieq s0.ins.op 39) then
 some (y3.1, ())
 else
 bif (ieq s0.ins.op 44) then
 ((ref18_lasto n s0)).bind fun y12 =>
 some (y12.1, ())
 else
 bif (ieq s0.ins.op 45) then
 chk (sroom (⟨#[91]⟩ : ByteArray) y2.1) (
 chk (sroom (scat (⟨#[91]⟩ : ByteArray) y2.1) (⟨#[44, 32]⟩ : ByteArray)) (
 chk (sroom (scat (scat (⟨#[91]⟩ : ByteArray) y2.1) (⟨#[44, 32]⟩ : ByteArray)) y3.1) (
 chk (sroom (scat (scat (scat (⟨#[91]⟩ : ByteArray) y2.1) (⟨#[44, 32]⟩ : ByteArray)) y3.1) (⟨#[93]⟩ : ByteArray)) (
 some ((scat (scat (scat (scat (⟨#[91]⟩ : ByteArray) y2.1) (⟨#[44, 32]⟩ : ByteArray)) y3.1) (⟨#[93]⟩ : ByteArray)), ())))))
 else
 some ((⟨#[]⟩ : ByteArray), ())
def ref18_operands_fm (n : Nat) : FM := ⟨[(.ty .line)], [], (.ty .s), true, none, fun a o => ref18_operandso n a.1⟩
def ref18_operands_cx (n : Nat) : Cx := ⟨ti, ty, gl, fun g => find [] g [(164, [ref05_Name_fm]), (72, [ref17_Print_fm n]), (134, [ref04_Name_fm]), (165, [ref18_last_fm n]), (166, [ref05_Print_fm n])], fun k => find none k [], [], false, false⟩
theorem ref18_operands_ev (n : Nat) (a : ShTs (ref18_operands_fm n).ash) (o : ObTs (ref18_operands_fm n).os) : evalF (ref18_operands_cx n) Tryz.f135 (ref18_operands_fm n) a o = (ref18_operands_fm n).run a o := by kernel_rfl
def ref18_text_L7 (n : Nat) (s_1 : Unit) (s_2 : ByteArray) (s_3 : ByteArray) (s_4 : (List Int)) (s_5 : Int) (o0 : (ByteArray × Int × Int × Int × Int × Int × Int × Int × Int × Int × Bool × Int × ByteArray × Bool × Int × Int × Int × ByteArray × (List GExpr) × Unit)) : Option (Option Nat × (Unit × ByteArray × ByteArray × (List Int) × Int × Unit) × ((ByteArray × Int × Int × Int × Int × Int × Int × Int × Int × Int × Bool × Int × ByteArray × Bool × Int × Int × Int × ByteArray × (List GExpr) × Unit) × Unit)) :=
 bif (ilt s_5 (iof (@xlen (.i .i64) s_4))) then
 chk (inside s_5 (iof (@xlen (.i .i64) s_4))) (
 bif (ieq (@xget (.i .i64) s_4 (Int.toNat s_5)) o0.2.2.2.1) then
 chk (sroom s_3 (⟨#[116]⟩ : ByteArray)) (
 some (none, ((), s_2, (scat s_3 (⟨#[116]⟩ : ByteArray)), s_4, (wr .i64 (iadd s_5 1)), ()), (o0, ())))
 else
 chk (sroom s_3 (⟨#[101]⟩ : ByteArray)) (
 some (none, ((), s_2, (scat s_3 (⟨#[101]⟩ : ByteArray)), s_4, (wr .i64 (iadd s_5 1)), ()), (o0, ()))))
 else
 some ((some 0), ((), s_2, s_3, s_4, s_5, ()), (o0, ()))
def ref18_text_L7f (n : Nat) (s : (Unit × ByteArray × ByteArray × (List Int) × Int × Unit) × ((ByteArray × Int × Int × Int × Int × Int × Int × Int × Int × Int × Bool × Int × ByteArray × Bool × Int × Int × Int × ByteArray × (List GExpr) × Unit) × Unit)) := ref18_text_L7 n s.1.1 s.1.2.1 s.1.2.2.1 s.1.2.2.2.1 s.1.2.2.2.2.1 s.2.1
def ref18_text_L7m (n : Nat) : LM := ⟨73, [(1, (.ptr 0 0)), (2, (.ty .s)), (3, (.ty .s)), (4, (.own (.i .i64))), (5, (.ty (.i .i64)))], [(.box [(.ty .s), (.ty (.i .i64)), (.ty (.i .i64)), (.ty (.i .i64)), (.ty (.i .i64)), (.ty (.i .i64)), (.ty (.i .i64)), (.ty (.i .i64)), (.ty (.i .i64)), (.ty (.i .i64)), (.ty .b), (.ty (.i .i64)), (.ty .s), (.ty .b), (.ty (.i .i64)), (.ty (.i .i64)), (.ty (.i .i64)), (.ty .s), (.ty (.sl .expr))])], [.exit 0], fun x o => iter (ref18_text_L7f n) n (x, o)⟩
def ref18_texto (n : Nat) (s0 : GLine) : Option (ByteArray × Unit) :=
 bif (bif (ilt s0.ins.op 1) then true else (ilt 45 s0.ins.op)) then
 some ((⟨#[]⟩ : ByteArray), ())
 else
 ((ref06_Nameo s0.ins.op)).bind fun y1 =>
 bif (ieq s0.ins.op 42) then
 ((ref04_Condso n s0.ins.cond s0.ins.imm)).bind fun y2 =>
 ((iter (ref18_text_L7f n) n (((), (⟨#[]⟩ : ByteArray), y1.1, y2.1, (1 : Int), ()), ((s0.label, s0.kind, s0.ins.op, s0.ins.cond, s0.ins.rd, s0.ins.rn, s0.ins.rm, s0.ins.imm, s0.ins.mode, s0.ins.list, s0.ins.s, s0.cond, s0.ref, s0.wide, s0.size, s0.expr.op, s0.expr.n, s0.expr.name, s0.expr.args, ()), ())))).bind fun z3 =>
 bif z3.2.2.1.2.2.2.2.2.2.2.2.2.2.1 then
 chk (sroom z3.2.1.2.2.1 (⟨#[115]⟩ : ByteArray)) (
 ((ref04_Nameo z3.2.2.1.2.2.2.2.2.2.2.2.2.2.2.1)).bind fun y4 =>
 chk (sroom (scat z3.2.1.2.2.1 (⟨#[115]⟩ : ByteArray)) y4.1) (
 bif z3.2.2.1.2.2.2.2.2.2.2.2.2.2.2.2.2.1 then
 chk (sroom (scat (scat z3.2.1.2.2.1 (⟨#[115]⟩ : ByteArray)) y4.1) (⟨#[46, 119]⟩ : ByteArray)) (
 ((ref18_operandso n (⟨z3.2.2.1.1, z3.2.2.1.2.1, (⟨z3.2.2.1.2.2.1, z3.2.2.1.2.2.2.1, z3.2.2.1.2.2.2.2.1, z3.2.2.1.2.2.2.2.2.1, z3.2.2.1.2.2.2.2.2.2.1, z3.2.2.1.2.2.2.2.2.2.2.1, z3.2.2.1.2.2.2.2.2.2.2.2.1, z3.2.2.1.2.2.2.2.2.2.2.2.2.1, z3.2.2.1.2.2.2.2.2.2.2.2.2.2.1⟩ : GIns), z3.2.2.1.2.2.2.2.2.2.2.2.2.2.2.1, z3.2.2.1.2.2.2.2.2.2.2.2.2.2.2.2.1, z3.2.2.1.2.2.2.2.2.2.2.2.2.2.2.2.2.1, z3.2.2.1.2.2.2.2.2.2.2.2.2.2.2.2.2.2.1, (GExpr.mk z3.2.2.1.2.2.2.2.2.2.2.2.2.2.2.2.2.2.2.1 z3.2.2.1.2.2.2.2.2.2.2.2.2.2.2.2.2.2.2.2.1 z3.2.2.1.2.2.2.2.2.2.2.2.2.2.2.2.2.2.2.2.2.1 z3.2.2.1.2.2.2.2.2.2.2.2.2.2.2.2.2.2.2.2.2.2.1)⟩ : GLine))).bind fun y5 =>
 bif (bNot (strEq y5.1 (⟨#[]⟩ : ByteArray))) then
 chk (sroom (⟨#[32]⟩ : ByteArray) y5.1) (
 chk (sroom (scat (scat (scat z3.2.1.2.2.1 (⟨#[115]⟩ : ByteArray)) y4.1) (⟨#[46, 119]⟩ : ByteArray)) (scat (⟨#[32]⟩ : ByteArray) y5.1)) (
 some ((scat (scat (scat (scat z3.2.1.2.2.1 (⟨#[115]⟩ : ByteArray)) y4.1) (⟨#[46, 119]⟩ : ByteArray)) (scat (⟨#[32]⟩ : ByteArray) y5.1)), ())))
 else
 some ((scat (scat (scat z3.2.1.2.2.1 (⟨#[115]⟩ : ByteArray)) y4.1) (⟨#[46, 119]⟩ : ByteArray)), ()))
 else
 ((ref18_operandso n (⟨z3.2.2.1.1, z3.2.2.1.2.1, (⟨z3.2.2.1.2.2.1, z3.2.2.1.2.2.2.1, z3.2.2.1.2.2.2.2.1, z3.2.2.1.2.2.2.2.2.1, z3.2.2.1.2.2.2.2.2.2.1, z3.2.2.1.2.2.2.2.2.2.2.1, z3.2.2.1.2.2.2.2.2.2.2.2.1, z3.2.2.1.2.2.2.2.2.2.2.2.2.1, z3.2.2.1.2.2.2.2.2.2.2.2.2.2.1⟩ : GIns), z3.2.2.1.2.2.2.2.2.2.2.2.2.2.2.1, z3.2.2.1.2.2.2.2.2.2.2.2.2.2.2.2.1, z3.2.2.1.2.2.2.2.2.2.2.2.2.2.2.2.2.1, z3.2.2.1.2.2.2.2.2.2.2.2.2.2.2.2.2.2.1, (GExpr.mk z3.2.2.1.2.2.2.2.2.2.2.2.2.2.2.2.2.2.2.1 z3.2.2.1.2.2.2.2.2.2.2.2.2.2.2.2.2.2.2.2.1 z3.2.2.1.2.2.2.2.2.2.2.2.2.2.2.2.2.2.2.2.2.1 z3.2.2.1.2.2.2.2.2.2.2.2.2.2.2.2.2.2.2.2.2.2.1)⟩ : GLine))).bind fun y6 =>
 bif (bNot (strEq y6.1 (⟨#[]⟩ : ByteArray))) then
 chk (sroom (⟨#[32]⟩ : ByteArray) y6.1) (
 chk (sroom (scat (scat z3.2.1.2.2.1 (⟨#[115]⟩ : ByteArray)) y4.1) (scat (⟨#[32]⟩ : ByteArray) y6.1)) (
 some ((scat (scat (scat z3.2.1.2.2.1 (⟨#[115]⟩ : ByteArray)) y4.1) (scat (⟨#[32]⟩ : ByteArray) y6.1)), ())))
 else
 some ((scat (scat z3.2.1.2.2.1 (⟨#[115]⟩ : ByteArray)) y4.1), ())))
 else
 ((ref04_Nameo z3.2.2.1.2.2.2.2.2.2.2.2.2.2.2.1)).bind fun y7 =>
 chk (sroom z3.2.1.2.2.1 y7.1) (
 bif z3.2.2.1.2.2.2.2.2.2.2.2.2.2.2.2.2.1 then
 chk (sroom (scat z3.2.1.2.2.1 y7.1) (⟨#[46, 119]⟩ : ByteArray)) (
 ((ref18_operandso n (⟨z3.2.2.1.1, z3.2.2.1.2.1, (⟨z3.2.2.1.2.2.1, z3.2.2.1.2.2.2.1, z3.2.2.1.2.2.2.2.1, z3.2.2.1.2.2.2.2.2.1, z3.2.2.1.2.2.2.2.2.2.1, z3.2.2.1.2.2.2.2.2.2.2.1, z3.2.2.1.2.2.2.2.2.2.2.2.1, z3.2.2.1.2.2.2.2.2.2.2.2.2.1, z3.2.2.1.2.2.2.2.2.2.2.2.2.2.1⟩ : GIns), z3.2.2.1.2.2.2.2.2.2.2.2.2.2.2.1, z3.2.2.1.2.2.2.2.2.2.2.2.2.2.2.2.1, z3.2.2.1.2.2.2.2.2.2.2.2.2.2.2.2.2.1, z3.2.2.1.2.2.2.2.2.2.2.2.2.2.2.2.2.2.1, (GExpr.mk z3.2.2.1.2.2.2.2.2.2.2.2.2.2.2.2.2.2.2.1 z3.2.2.1.2.2.2.2.2.2.2.2.2.2.2.2.2.2.2.2.1 z3.2.2.1.2.2.2.2.2.2.2.2.2.2.2.2.2.2.2.2.2.1 z3.2.2.1.2.2.2.2.2.2.2.2.2.2.2.2.2.2.2.2.2.2.1)⟩ : GLine))).bind fun y8 =>
 bif (bNot (strEq y8.1 (⟨#[]⟩ : ByteArray))) then
 chk (sroom (⟨#[32]⟩ : ByteArray) y8.1) (
 chk (sroom (scat (scat z3.2.1.2.2.1 y7.1) (⟨#[46, 119]⟩ : ByteArray)) (scat (⟨#[32]⟩ : ByteArray) y8.1)) (
 some ((scat (scat (scat z3.2.1.2.2.1 y7.1) (⟨#[46, 119]⟩ : ByteArray)) (scat (⟨#[32]⟩ : ByteArray) y8.1)), ())))
 else
 some ((scat (scat z3.2.1.2.2.1 y7.1) (⟨#[46, 119]⟩ : ByteArray)), ()))
 else
 ((ref18_operandso n (⟨z3.2.2.1.1, z3.2.2.1.2.1, (⟨z3.2.2.1.2.2.1, z3.2.2.1.2.2.2.1, z3.2.2.1.2.2.2.2.1, z3.2.2.1.2.2.2.2.2.1, z3.2.2.1.2.2.2.2.2.2.1, z3.2.2.1.2.2.2.2.2.2.2.1, z3.2.2.1.2.2.2.2.2.2.2.2.1, z3.2.2.1.2.2.2.2.2.2.2.2.2.1, z3.2.2.1.2.2.2.2.2.2.2.2.2.2.1⟩ : GIns), z3.2.2.1.2.2.2.2.2.2.2.2.2.2.2.1, z3.2.2.1.2.2.2.2.2.2.2.2.2.2.2.2.1, z3.2.2.1.2.2.2.2.2.2.2.2.2.2.2.2.2.1, z3.2.2.1.2.2.2.2.2.2.2.2.2.2.2.2.2.2.1, (GExpr.mk z3.2.2.1.2.2.2.2.2.2.2.2.2.2.2.2.2.2.2.1 z3.2.2.1.2.2.2.2.2.2.2.2.2.2.2.2.2.2.2.2.1 z3.2.2.1.2.2.2.2.2.2.2.2.2.2.2.2.2.2.2.2.2.1 z3.2.2.1.2.2.2.2.2.2.2.2.2.2.2.2.2.2.2.2.2.2.1)⟩ : GLine))).bind fun y9 =>
 bif (bNot (strEq y9.1 (⟨#[]⟩ : ByteArray))) then
 chk (sroom (⟨#[32]⟩ : ByteArray) y9.1) (
 chk (sroom (scat z3.2.1.2.2.1 y7.1) (scat (⟨#[32]⟩ : ByteArray) y9.1)) (
 some ((scat (scat z3.2.1.2.2.1 y7.1) (scat (⟨#[32]⟩ : ByteArray) y9.1)), ())))
 else
 some ((scat z3.2.1.2.2.1 y7.1), ()))
 else
 bif s0.ins.s then
 chk (sroom y1.1 (⟨#[115]⟩ : ByteArray)) (
 ((ref04_Nameo s0.cond)).bind fun y10 =>
 chk (sroom (scat y1.1 (⟨#[115]⟩ : ByteArray)) y10.1) (
 bif s0.wide then
 chk (sroom (scat (scat y1.1 (⟨#[115]⟩ : ByteArray)) y10.1) (⟨#[46, 119]⟩ : ByteArray)) (
 ((ref18_operandso n s0)).bind fun y11 =>
 bif (bNot (strEq y11.1 (⟨#[]⟩ : ByteArray))) then
 chk (sroom (⟨#[32]⟩ : ByteArray) y11.1) (
 chk (sroom (scat (scat (scat y1.1 (⟨#[115]⟩ : ByteArray)) y10.1) (⟨#[46, 119]⟩ : ByteArray)) (scat (⟨#[32]⟩ : ByteArray) y11.1)) (
 some ((scat (scat (scat (scat y1.1 (⟨#[115]⟩ : ByteArray)) y10.1) (⟨#[46, 119]⟩ : ByteArray)) (scat (⟨#[32]⟩ : ByteArray) y11.1)), ())))
 else
 some ((scat (scat (scat y1.1 (⟨#[115]⟩ : ByteArray)) y10.1) (⟨#[46, 119]⟩ : ByteArray)), ()))
 else
 ((ref18_operandso n s0)).bind fun y12 =>
 bif (bNot (strEq y12.1 (⟨#[]⟩ : ByteArray))) then
 chk (sroom (⟨#[32]⟩ : ByteArray) y12.1) (
 chk (sroom (scat (scat y1.1 (⟨#[115]⟩ : ByteArray)) y10.1) (scat (⟨#[32]⟩ : ByteArray) y12.1)) (
 some ((scat (scat (scat y1.1 (⟨#[115]⟩ : ByteArray)) y10.1) (scat (⟨#[32]⟩ : ByteArray) y12.1)), ())))
 else
 some ((scat (scat y1.1 (⟨#[115]⟩ : ByteArray)) y10.1), ())))
 else
 ((ref04_Nameo s0.cond)).bind fun y13 =>
 chk (sroom y1.1 y13.1) (
 bif s0.wide then
 chk (sroom (scat y1.1 y13.1) (⟨#[46, 119]⟩ : ByteArray)) (
 ((ref18_operandso n s0)).bind fun y14 =>
 bif (bNot (strEq y14.1 (⟨#[]⟩ : ByteArray))) then
 chk (sroom (⟨#[32]⟩ : ByteArray) y14.1) (
 chk (sroom (scat (scat y1.1 y13.1) (⟨#[46, 119]⟩ : ByteArray)) (scat (⟨#[32]⟩ : ByteArray) y14.1)) (
 some ((scat (scat (scat y1.1 y13.1) (⟨#[46, 119]⟩ : ByteArray)) (scat (⟨#[32]⟩ : ByteArray) y14.1)), ())))
 else
 some ((scat (scat y1.1 y13.1) (⟨#[46, 119]⟩ : ByteArray)), ()))
 else
 ((ref18_operandso n s0)).bind fun y15 =>
 bif (bNot (strEq y15.1 (⟨#[]⟩ : ByteArray))) then
 chk (sroom (⟨#[32]⟩ : ByteArray) y15.1) (
 chk (sroom (scat y1.1 y13.1) (scat (⟨#[32]⟩ : ByteArray) y15.1)) (
 some ((scat (scat y1.1 y13.1) (scat (⟨#[32]⟩ : ByteArray) y15.1)), ())))
 else
 some ((scat y1.1 y13.1), ()))
def ref18_text_fm (n : Nat) : FM := ⟨[(.ty .line)], [], (.ty .s), true, none, fun a o => ref18_texto n a.1⟩
def ref18_text_cx (n : Nat) : Cx := ⟨ti, ty, gl, fun g => find [] g [(133, [ref06_Name_fm]), (68, [ref04_Conds_fm n]), (134, [ref04_Name_fm]), (135, [ref18_operands_fm n])], fun k => find none k [(7, some (ref18_text_L7m n))], [], false, false⟩
theorem ref18_text_L7r (n : Nat) (s : FrT (ref18_text_L7m n).fs × ObTs (ref18_text_L7m n).os) : ref18_text_L7f n s = roundF { ref18_text_cx n with res := [] } (loopOf Tryz.f97 7) (ref18_text_L7m n) s.1 s.2 := by kernel_rfl
theorem ref18_text_ev (n : Nat) (a : ShTs (ref18_text_fm n).ash) (o : ObTs (ref18_text_fm n).os) : evalF (ref18_text_cx n) Tryz.f97 (ref18_text_fm n) a o = (ref18_text_fm n).run a o := by kernel_rfl
def ref16_valueo (c0 : Int) (base1 : Int) : Option (Int × Unit) :=
 bif (ref16_digit c0) then
 some ((wr .i64 (wr .u8 (isub c0 48))), ())
 else
 bif (bif (bif (ieq base1 16) then (ile 97 c0) else false) then (ile c0 102) else false) then
 some ((wr .i64 (iadd (wr .i64 (wr .u8 (isub c0 97))) 10)), ())
 else
 some (((-1) : Int), ())
theorem ref16_value_tot (c0 : Int) (base1 : Int) : ∃ r, ref16_valueo c0 base1 = some (r, ()) := by
 unfold ref16_valueo
 repeat' (first | exact ⟨_, rfl⟩ | refine ex_bif ?_ ?_)
def ref16_value (c0 : Int) (base1 : Int) : Int := ((ref16_valueo c0 base1).map Prod.fst).getD (dfS (.ty (.i .i64)))
theorem ref16_value_eq (c0 : Int) (base1 : Int) : ref16_valueo c0 base1 = some (ref16_value c0 base1, ()) := by
 obtain ⟨r, h⟩ := ref16_value_tot c0 base1
 unfold ref16_value; rw [h]; rfl
def ref16_value_fm : FM := ⟨[(.ty (.i .u8)), (.ty (.i .i64))], [], (.ty (.i .i64)), true, some (fun a o => ref16_value a.1 a.2.1), fun a o => some (ref16_value a.1 a.2.1, o)⟩
def ref16_value_cx : Cx := ⟨ti, ty, gl, fun g => find [] g [(102, [ref16_digit_fm])], fun k => find none k [], [], false, false⟩
theorem ref16_value_ev (a : ShTs (ref16_value_fm).ash) (o : ObTs (ref16_value_fm).os) : evalF (ref16_value_cx) Tryz.f140 (ref16_value_fm) a o = ref16_valueo a.1 a.2.1 := by kernel_rfl
theorem ref16_value_evt (a : ShTs (ref16_value_fm).ash) (o : ObTs (ref16_value_fm).os) : evalF (ref16_value_cx) Tryz.f140 (ref16_value_fm) a o = (ref16_value_fm).run a o := (ref16_value_ev a o).trans (ref16_value_eq a.1 a.2.1)
def ref16_number_L5 (n : Nat) (s_0 : ByteArray) (s_2 : Int) (s_3 : Int) (base_4 : Int) (from_5 : Int) (n_6 : Int) (v_7 : Int) : Option (Option Nat × (ByteArray × Int × Int × Int × Int × Int × Int × Unit) × Unit) :=
 chk (bNot (bAnd (bNot (inside n_6 (slen s_0))) (ilt n_6 (slen s_0)))) (
 bif (bif (ilt n_6 (slen s_0)) then (ile 0 (ref16_value (sget s_0 n_6) base_4)) else false) then
 chk (inside n_6 (slen s_0)) (
 some (none, (s_0, s_2, s_3, base_4, from_5, (wr .i64 (iadd n_6 1)), (imin (wr .i64 (iadd (wr .i64 (imul v_7 base_4)) (ref16_value (sget s_0 n_6) base_4))) 4294967296), ()), ()))
 else
 some ((some 0), (s_0, s_2, s_3, base_4, from_5, n_6, v_7, ()), ()))
def ref16_number_L5f (n : Nat) (s : (ByteArray × Int × Int × Int × Int × Int × Int × Unit) × Unit) := ref16_number_L5 n s.1.1 s.1.2.1 s.1.2.2.1 s.1.2.2.2.1 s.1.2.2.2.2.1 s.1.2.2.2.2.2.1 s.1.2.2.2.2.2.2.1
def ref16_number_L5m (n : Nat) : LM := ⟨62, [(0, (.ty .s)), (2, (.ty (.i .i64))), (3, (.ty (.i .i64))), (4, (.ty (.i .i64))), (5, (.ty (.i .i64))), (6, (.ty (.i .i64))), (7, (.ty (.i .i64)))], [], [.exit 0], fun x o => iter (ref16_number_L5f n) n (x, o)⟩
def ref16_numbero (n : Nat) (s0 : ByteArray) : Option ((Int × Int × Unit) × Unit) :=
 chk (bNot (bAnd (bNot (bounds 0 2 (slen s0))) (ilt 1 (slen s0)))) (
 bif (bif (ilt 1 (slen s0)) then (strEq (scut s0 0 2) (⟨#[48, 120]⟩ : ByteArray)) else false) then
 ((iter (ref16_number_L5f n) n ((s0, (0 : Int), (0 : Int), (16 : Int), (2 : Int), (2 : Int), (0 : Int), ()), ()))).bind fun z1 =>
 chk (bNot (bAnd (bNot (inside z1.2.1.2.2.2.2.2.1 (slen z1.2.1.1))) (bAnd (bNot (bif (ieq z1.2.1.2.2.2.2.2.1 z1.2.1.2.2.2.2.1) then true else (ile 4294967296 z1.2.1.2.2.2.2.2.2.1))) (ilt z1.2.1.2.2.2.2.2.1 (slen z1.2.1.1))))) (
 bif (bif (bif (ieq z1.2.1.2.2.2.2.2.1 z1.2.1.2.2.2.2.1) then true else (ile 4294967296 z1.2.1.2.2.2.2.2.2.1)) then true else (bif (ilt z1.2.1.2.2.2.2.2.1 (slen z1.2.1.1)) then (ref16_letter (sget z1.2.1.1 z1.2.1.2.2.2.2.2.1)) else false)) then
 some (((0 : Int), (0 : Int), ()), ())
 else
 some ((z1.2.1.2.2.2.2.2.1, z1.2.1.2.2.2.2.2.2.1, ()), ()))
 else
 ((iter (ref16_number_L5f n) n ((s0, (0 : Int), (0 : Int), (10 : Int), (0 : Int), (0 : Int), (0 : Int), ()), ()))).bind fun z2 =>
 chk (bNot (bAnd (bNot (inside z2.2.1.2.2.2.2.2.1 (slen z2.2.1.1))) (bAnd (bNot (bif (ieq z2.2.1.2.2.2.2.2.1 z2.2.1.2.2.2.2.1) then true else (ile 4294967296 z2.2.1.2.2.2.2.2.2.1))) (ilt z2.2.1.2.2.2.2.2.1 (slen z2.2.1.1))))) (
 bif (bif (bif (ieq z2.2.1.2.2.2.2.2.1 z2.2.1.2.2.2.2.1) then true else (ile 4294967296 z2.2.1.2.2.2.2.2.2.1)) then true else (bif (ilt z2.2.1.2.2.2.2.2.1 (slen z2.2.1.1)) then (ref16_letter (sget z2.2.1.1 z2.2.1.2.2.2.2.2.1)) else false)) then
 some (((0 : Int), (0 : Int), ()), ())
 else
 some ((z2.2.1.2.2.2.2.2.1, z2.2.1.2.2.2.2.2.2.1, ()), ())))
def ref16_number_fm (n : Nat) : FM := ⟨[(.ty .s)], [], (.tup [(.ty (.i .i64)), (.ty (.i .i64))]), true, none, fun a o => ref16_numbero n a.1⟩
def ref16_number_cx (n : Nat) : Cx := ⟨ti, ty, gl, fun g => find [] g [(140, [ref16_value_fm]), (100, [ref16_letter_fm])], fun k => find none k [(5, some (ref16_number_L5m n))], [], false, false⟩
theorem ref16_number_L5r (n : Nat) (s : FrT (ref16_number_L5m n).fs × ObTs (ref16_number_L5m n).os) : ref16_number_L5f n s = roundF { ref16_number_cx n with res := [] } (loopOf Tryz.f103 5) (ref16_number_L5m n) s.1 s.2 := by kernel_rfl
theorem ref16_number_ev (n : Nat) (a : ShTs (ref16_number_fm n).ash) (o : ObTs (ref16_number_fm n).os) : evalF (ref16_number_cx n) Tryz.f103 (ref16_number_fm n) a o = (ref16_number_fm n).run a o := by kernel_rfl
def ref16_sign_L5 (n : Nat) (s_0 : ByteArray) (s_2 : Int) (signs_3 : ByteArray) (i_4 : Int) : Option (Option Nat × (ByteArray × Int × ByteArray × Int × Unit) × Unit) :=
 bif (ilt i_4 (slen signs_3)) then
 chk (inside i_4 (slen signs_3)) (
 chk (inside 0 (slen s_0)) (
 bif (ieq (sget signs_3 i_4) (sget s_0 0)) then
 some ((some 1), (s_0, (1 : Int), signs_3, i_4, ()), ())
 else
 some (none, (s_0, s_2, signs_3, (wr .i64 (iadd i_4 1)), ()), ())))
 else
 some ((some 0), (s_0, s_2, signs_3, i_4, ()), ())
def ref16_sign_L5f (n : Nat) (s : (ByteArray × Int × ByteArray × Int × Unit) × Unit) := ref16_sign_L5 n s.1.1 s.1.2.1 s.1.2.2.1 s.1.2.2.2.1
def ref16_sign_L5m (n : Nat) : LM := ⟨30, [(0, (.ty .s)), (2, (.ty (.i .i64))), (3, (.ty .s)), (4, (.ty (.i .i64)))], [], [.exit 0, .ret], fun x o => iter (ref16_sign_L5f n) n (x, o)⟩
def ref16_signo (n : Nat) (s0 : ByteArray) : Option (Int × Unit) :=
 chk (bNot (bAnd (bNot (bounds 0 2 (slen s0))) (ilt 1 (slen s0)))) (
 chk (bNot (bAnd (bNot (bounds 0 2 (slen s0))) (bAnd (ilt 1 (slen s0)) (bNot (strEq (scut s0 0 2) (⟨#[60, 60]⟩ : ByteArray)))))) (
 bif (bif (ilt 1 (slen s0)) then (bif (strEq (scut s0 0 2) (⟨#[60, 60]⟩ : ByteArray)) then true else (strEq (scut s0 0 2) (⟨#[62, 62]⟩ : ByteArray))) else false) then
 some ((2 : Int), ())
 else
 ((iter (ref16_sign_L5f n) n ((s0, (0 : Int), (⟨#[44, 58, 35, 91, 93, 123, 125, 33, 61, 40, 41, 43, 45, 42, 38, 124, 126]⟩ : ByteArray), (0 : Int), ()), ()))).bind fun z1 =>
 bif (Nat.beq z1.1 0) then
 some ((0 : Int), ())
 else
 some (z1.2.1.2.1, ())))
def ref16_sign_fm (n : Nat) : FM := ⟨[(.ty .s)], [], (.ty (.i .i64)), true, none, fun a o => ref16_signo n a.1⟩
def ref16_sign_cx (n : Nat) : Cx := ⟨ti, ty, gl, fun g => find [] g [], fun k => find none k [(5, some (ref16_sign_L5m n))], [], false, false⟩
theorem ref16_sign_L5r (n : Nat) (s : FrT (ref16_sign_L5m n).fs × ObTs (ref16_sign_L5m n).os) : ref16_sign_L5f n s = roundF { ref16_sign_cx n with res := [] } (loopOf Tryz.f104 5) (ref16_sign_L5m n) s.1 s.2 := by kernel_rfl
theorem ref16_sign_ev (n : Nat) (a : ShTs (ref16_sign_fm n).ash) (o : ObTs (ref16_sign_fm n).os) : evalF (ref16_sign_cx n) Tryz.f104 (ref16_sign_fm n) a o = (ref16_sign_fm n).run a o := by kernel_rfl
def ref16_Line_L5 (n : Nat) (s_0 : ByteArray) (s_2 : (List GTok)) (s_3 : Bool) (s_4 : (List GTok)) (s_5 : Int) : Option (Option Nat × (ByteArray × (List GTok) × Bool × (List GTok) × Int × Unit) × Unit) :=
 bif (ilt s_5 (slen s_0)) then
 chk (bounds s_5 (slen s_0) (slen s_0)) (
 chk (inside 0 (slen (scut s_0 s_5 (slen s_0)))) (
 bif (bif (bif (ieq (sget (scut s_0 s_5 (slen s_0)) 0) 9) then true else (ieq (sget (scut s_0 s_5 (slen s_0)) 0) 13)) then true else (ieq (sget (scut s_0 s_5 (slen s_0)) 0) 32)) then
 some (none, (s_0, s_2, s_3, s_4, (wr .i64 (iadd s_5 1)), ()), ())
 else
 bif (bif (ieq (sget (scut s_0 s_5 (slen s_0)) 0) 64) then true else (ieq (sget (scut s_0 s_5 (slen s_0)) 0) 59)) then
 some (none, (s_0, s_2, s_3, s_4, (slen s_0), ()), ())
 else
 bif (ref16_letter (sget (scut s_0 s_5 (slen s_0)) 0)) then
 ((ref16_runo n (scut s_0 s_5 (slen s_0)))).bind fun y1 =>
 bif (ilt 32 y1.1) then
 some ((some 1), (s_0, ([] : List GTok), false, s_4, s_5, ()), ())
 else
 chk (bounds 0 y1.1 (slen (scut s_0 s_5 (slen s_0)))) (
 chk (room ((@xlen .tok s_4) + (@xlen .tok ([(⟨1, 0, (scut (scut s_0 s_5 (slen s_0)) 0 y1.1)⟩ : GTok)] : List GTok))) 32) (
 some (none, (s_0, s_2, s_3, (@xapp .tok s_4 ([(⟨1, 0, (scut (scut s_0 s_5 (slen s_0)) 0 y1.1)⟩ : GTok)] : List GTok)), (wr .i64 (iadd s_5 y1.1)), ()), ())))
 else
 bif (ref16_digit (sget (scut s_0 s_5 (slen s_0)) 0)) then
 ((ref16_numbero n (scut s_0 s_5 (slen s_0)))).bind fun y2 =>
 bif (ieq y2.1.1 0) then
 some ((some 1), (s_0, ([] : List GTok), false, s_4, s_5, ()), ())
 else
 chk (room ((@xlen .tok s_4) + (@xlen .tok ([(⟨2, y2.1.2.1, (⟨#[]⟩ : ByteArray)⟩ : GTok)] : List GTok))) 32) (
 some (none, (s_0, s_2, s_3, (@xapp .tok s_4 ([(⟨2, y2.1.2.1, (⟨#[]⟩ : ByteArray)⟩ : GTok)] : List GTok)), (wr .i64 (iadd s_5 y2.1.1)), ()), ()))
 else
 ((ref16_signo n (scut s_0 s_5 (slen s_0)))).bind fun y3 =>
 bif (ieq y3.1 0) then
 some ((some 1), (s_0, ([] : List GTok), false, s_4, s_5, ()), ())
 else
 chk (bounds 0 y3.1 (slen (scut s_0 s_5 (slen s_0)))) (
 chk (room ((@xlen .tok s_4) + (@xlen .tok ([(⟨3, 0, (scut (scut s_0 s_5 (slen s_0)) 0 y3.1)⟩ : GTok)] : List GTok))) 32) (
 some (none, (s_0, s_2, s_3, (@xapp .tok s_4 ([(⟨3, 0, (scut (scut s_0 s_5 (slen s_0)) 0 y3.1)⟩ : GTok)] : List GTok)), (wr .i64 (iadd s_5 y3.1)), ()), ())))))
 else
 some ((some 0), (s_0, s_2, s_3, s_4, s_5, ()), ())
def ref16_Line_L5f (n : Nat) (s : (ByteArray × (List GTok) × Bool × (List GTok) × Int × Unit) × Unit) := ref16_Line_L5 n s.1.1 s.1.2.1 s.1.2.2.1 s.1.2.2.2.1 s.1.2.2.2.2.1
def ref16_Line_L5m (n : Nat) : LM := ⟨96, [(0, (.ty .s)), (2, (.own .tok)), (3, (.ty .b)), (4, (.own .tok)), (5, (.ty (.i .i64)))], [], [.exit 0, .ret], fun x o => iter (ref16_Line_L5f n) n (x, o)⟩
def ref16_Lineo (n : Nat) (s0 : ByteArray) : Option (((List GTok) × Bool × Unit) × Unit) :=
 bif (ilt 256 (slen s0)) then
 some ((([] : List GTok), false, ()), ())
 else
 ((iter (ref16_Line_L5f n) n ((s0, ([] : List GTok), false, ([] : List GTok), (0 : Int), ()), ()))).bind fun z4 =>
 bif (Nat.beq z4.1 0) then
 some ((z4.2.1.2.2.2.1, true, ()), ())
 else
 some ((z4.2.1.2.1, z4.2.1.2.2.1, ()), ())
def ref16_Line_fm (n : Nat) : FM := ⟨[(.ty .s)], [], (.tup [(.ty (.sl .tok)), (.ty .b)]), true, none, fun a o => ref16_Lineo n a.1⟩
def ref16_Line_cx (n : Nat) : Cx := ⟨ti, ty, gl, fun g => find [] g [(100, [ref16_letter_fm]), (101, [ref16_run_fm n]), (102, [ref16_digit_fm]), (103, [ref16_number_fm n]), (104, [ref16_sign_fm n])], fun k => find none k [(5, some (ref16_Line_L5m n))], [], false, false⟩
theorem ref16_Line_L5r (n : Nat) (s : FrT (ref16_Line_L5m n).fs × ObTs (ref16_Line_L5m n).os) : ref16_Line_L5f n s = roundF { ref16_Line_cx n with res := [] } (loopOf Tryz.f75 5) (ref16_Line_L5m n) s.1 s.2 := by kernel_rfl
theorem ref16_Line_ev (n : Nat) (a : ShTs (ref16_Line_fm n).ash) (o : ObTs (ref16_Line_fm n).os) : evalF (ref16_Line_cx n) Tryz.f75 (ref16_Line_fm n) a o = (ref16_Line_fm n).run a o := by kernel_rfl
def ref18_R_to (r0 : Unit) (o0 : ((List GTok) × Int × Int × Unit)) : Option (GTok × (((List GTok) × Int × Int × Unit) × Unit)) :=
 bif (bif (ilt o0.2.1 0) then true else (ile (iof (@xlen .tok o0.1)) o0.2.1)) then
 some ((⟨0, 0, (⟨#[]⟩ : ByteArray)⟩ : GTok), (o0, ()))
 else
 chk (inside o0.2.1 (iof (@xlen .tok o0.1))) (
 let x1 : GTok := (@xget .tok o0.1 (Int.toNat o0.2.1))
 some (x1, (o0, ())))
def ref18_R_t_fm : FM := ⟨[(.ptr 0 0)], [(.box [(.ty (.sl .tok)), (.ty (.i .i64)), (.ty (.i .i64))])], (.ty .tok), true, none, fun a o => ref18_R_to a.1 o.1⟩
def ref18_R_t_cx : Cx := ⟨ti, ty, gl, fun g => find [] g [], fun k => find none k [], [], false, false⟩
theorem ref18_R_t_ev (a : ShTs (ref18_R_t_fm).ash) (o : ObTs (ref18_R_t_fm).os) : evalF (ref18_R_t_cx) Tryz.f108 (ref18_R_t_fm) a o = (ref18_R_t_fm).run a o := by kernel_rfl
def ref18_block_L5 (n : Nat) (w_0 : ByteArray) (s_2 : (List Bool)) (s_3 : Bool) (l_4 : (List Bool)) (i_5 : Int) : Option (Option Nat × (ByteArray × (List Bool) × Bool × (List Bool) × Int × Unit) × Unit) :=
 bif (ilt i_5 (slen w_0)) then
 chk (inside i_5 (slen w_0)) (
 chk (bNot (bAnd (bNot (inside i_5 (slen w_0))) (bNot (ieq (sget w_0 i_5) 116)))) (
 bif (bif (bNot (ieq (sget w_0 i_5) 116)) then (bNot (ieq (sget w_0 i_5) 101)) else false) then
 some ((some 1), (w_0, ([] : List Bool), false, l_4, i_5, ()), ())
 else
 chk (inside i_5 (slen w_0)) (
 chk (room ((@xlen .b l_4) + (@xlen .b ([(ieq (sget w_0 i_5) 116)] : List Bool))) 1) (
 some (none, (w_0, s_2, s_3, (@xapp .b l_4 ([(ieq (sget w_0 i_5) 116)] : List Bool)), (wr .i64 (iadd i_5 1)), ()), ())))))
 else
 some ((some 0), (w_0, s_2, s_3, l_4, i_5, ()), ())
def ref18_block_L5f (n : Nat) (s : (ByteArray × (List Bool) × Bool × (List Bool) × Int × Unit) × Unit) := ref18_block_L5 n s.1.1 s.1.2.1 s.1.2.2.1 s.1.2.2.2.1 s.1.2.2.2.2.1
def ref18_block_L5m (n : Nat) : LM := ⟨43, [(0, (.ty .s)), (2, (.own .b)), (3, (.ty .b)), (4, (.own .b)), (5, (.ty (.i .i64)))], [], [.exit 0, .ret], fun x o => iter (ref18_block_L5f n) n (x, o)⟩
def ref18_blocko (n : Nat) (w0 : ByteArray) : Option (((List Bool) × Bool × Unit) × Unit) :=
 chk (bNot (bAnd (bNot (bounds 0 2 (slen w0))) (bNot (bif (ilt (slen w0) 2) then true else (ilt 5 (slen w0)))))) (
 bif (bif (bif (ilt (slen w0) 2) then true else (ilt 5 (slen w0))) then true else (bNot (strEq (scut w0 0 2) (⟨#[105, 116]⟩ : ByteArray)))) then
 some ((([] : List Bool), false, ()), ())
 else
 ((iter (ref18_block_L5f n) n ((w0, ([] : List Bool), false, ([] : List Bool), (2 : Int), ()), ()))).bind fun z1 =>
 bif (Nat.beq z1.1 0) then
 some ((z1.2.1.2.2.2.1, true, ()), ())
 else
 some ((z1.2.1.2.1, z1.2.1.2.2.1, ()), ()))
def ref18_block_fm (n : Nat) : FM := ⟨[(.ty .s)], [], (.tup [(.ty (.sl .b)), (.ty .b)]), true, none, fun a o => ref18_blocko n a.1⟩
def ref18_block_cx (n : Nat) : Cx := ⟨ti, ty, gl, fun g => find [] g [], fun k => find none k [(5, some (ref18_block_L5m n))], [], false, false⟩
theorem ref18_block_L5r (n : Nat) (s : FrT (ref18_block_L5m n).fs × ObTs (ref18_block_L5m n).os) : ref18_block_L5f n s = roundF { ref18_block_cx n with res := [] } (loopOf Tryz.f109 5) (ref18_block_L5m n) s.1 s.2 := by kernel_rfl
theorem ref18_block_ev (n : Nat) (a : ShTs (ref18_block_fm n).ash) (o : ObTs (ref18_block_fm n).os) : evalF (ref18_block_cx n) Tryz.f109 (ref18_block_fm n) a o = (ref18_block_fm n).run a o := by kernel_rfl
def ref04_Find_L10 (n : Nat) (s_0 : ByteArray) (s_2 : Int) (c_3 : Int) : Option (Option Nat × (ByteArray × Int × Int × Unit) × Unit) :=
 bif (ile c_3 13) then
 chk (inside c_3 (iof (@xlen .s (ref04_names)))) (
 bif (strEq (@xget .s (ref04_names) (Int.toNat c_3)) s_0) then
 some ((some 1), (s_0, c_3, c_3, ()), ())
 else
 some (none, (s_0, s_2, (wr .i64 (iadd c_3 1)), ()), ()))
 else
 some ((some 0), (s_0, s_2, c_3, ()), ())
def ref04_Find_L10f (n : Nat) (s : (ByteArray × Int × Int × Unit) × Unit) := ref04_Find_L10 n s.1.1 s.1.2.1 s.1.2.2.1
def ref04_Find_L10m (n : Nat) : LM := ⟨23, [(0, (.ty .s)), (2, (.ty (.i .i64))), (3, (.ty (.i .i64)))], [], [.exit 1, .ret], fun x o => iter (ref04_Find_L10f n) n (x, o)⟩
def ref04_Findo (n : Nat) (s0 : ByteArray) : Option (Int × Unit) :=
 bif (strEq s0 (⟨#[104, 115]⟩ : ByteArray)) then
 some ((2 : Int), ())
 else
 bif (strEq s0 (⟨#[108, 111]⟩ : ByteArray)) then
 some ((3 : Int), ())
 else
 bif (strEq s0 (⟨#[]⟩ : ByteArray)) then
 bif (strEq s0 (⟨#[]⟩ : ByteArray)) then
 some ((14 : Int), ())
 else
 ((iter (ref04_Find_L10f n) n ((s0, (0 : Int), (0 : Int), ()), ()))).bind fun z1 =>
 bif (Nat.beq z1.1 0) then
 some (((-1) : Int), ())
 else
 some (z1.2.1.2.1, ())
 else
 bif (strEq s0 (⟨#[97, 108]⟩ : ByteArray)) then
 some ((14 : Int), ())
 else
 ((iter (ref04_Find_L10f n) n ((s0, (0 : Int), (0 : Int), ()), ()))).bind fun z2 =>
 bif (Nat.beq z2.1 0) then
 some (((-1) : Int), ())
 else
 some (z2.2.1.2.1, ())
def ref04_Find_fm (n : Nat) : FM := ⟨[(.ty .s)], [], (.ty (.i .i64)), true, none, fun a o => ref04_Findo n a.1⟩
def ref04_Find_cx (n : Nat) : Cx := ⟨ti, ty, gl, fun g => find [] g [(163, [ref04_names_fm])], fun k => find none k [(10, some (ref04_Find_L10m n))], [], false, false⟩
theorem ref04_Find_L10r (n : Nat) (s : FrT (ref04_Find_L10m n).fs × ObTs (ref04_Find_L10m n).os) : ref04_Find_L10f n s = roundF { ref04_Find_cx n with res := [] } (loopOf Tryz.f142 10) (ref04_Find_L10m n) s.1 s.2 := by kernel_rfl
theorem ref04_Find_ev (n : Nat) (a : ShTs (ref04_Find_fm n).ash) (o : ObTs (ref04_Find_fm n).os) : evalF (ref04_Find_cx n) Tryz.f142 (ref04_Find_fm n) a o = (ref04_Find_fm n).run a o := by kernel_rfl
def ref18_R_bado (r0 : Unit) (e1 : Int) (o0 : ((List GTok) × Int × Int × Unit)) : Option ((Unit) × (((List GTok) × Int × Int × Unit) × Unit)) :=
 bif (ieq o0.2.2.1 0) then
 some ((), ((o0.1, o0.2.1, e1, ()), ()))
 else
 some ((), (o0, ()))
def ref18_R_bad_fm : FM := ⟨[(.ptr 0 0), (.ty (.i .i64))], [(.box [(.ty (.sl .tok)), (.ty (.i .i64)), (.ty (.i .i64))])], (.tup []), false, none, fun a o => ref18_R_bado a.1 a.2.1 o.1⟩
def ref18_R_bad_cx : Cx := ⟨ti, ty, gl, fun g => find [] g [], fun k => find none k [], [], false, false⟩
theorem ref18_R_bad_ev (a : ShTs (ref18_R_bad_fm).ash) (o : ObTs (ref18_R_bad_fm).os) : evalF (ref18_R_bad_cx) Tryz.f113 (ref18_R_bad_fm) a o = (ref18_R_bad_fm).run a o := by kernel_rfl
def ref04_Mask_L5 (n : Nat) (c_0 : Int) (l_1 : (List Bool)) (s_4 : Int) (m_5 : Int) (at_6 : Int) (i_7 : Int) : Option (Option Nat × (Int × (List Bool) × Int × Int × Int × Int × Unit) × Unit) :=
 bif (ilt i_7 (iof (@xlen .b l_1))) then
 chk (inside i_7 (iof (@xlen .b l_1))) (
 bif (bNot (@xget .b l_1 (Int.toNat i_7))) then
 bif (ieq c_0 14) then
 some ((some 1), (c_0, l_1, (0 : Int), m_5, at_6, i_7, ()), ())
 else
 some (none, (c_0, l_1, s_4, (wr .i64 (iadd m_5 (wr .i64 (imul (wr .i64 (isub 1 (wrem c_0 2))) at_6)))), (wquo .i64 at_6 2), (wr .i64 (iadd i_7 1)), ()), ())
 else
 some (none, (c_0, l_1, s_4, (wr .i64 (iadd m_5 (wr .i64 (imul (wrem c_0 2) at_6)))), (wquo .i64 at_6 2), (wr .i64 (iadd i_7 1)), ()), ()))
 else
 some ((some 0), (c_0, l_1, s_4, m_5, at_6, i_7, ()), ())
def ref04_Mask_L5f (n : Nat) (s : (Int × (List Bool) × Int × Int × Int × Int × Unit) × Unit) := ref04_Mask_L5 n s.1.1 s.1.2.1 s.1.2.2.1 s.1.2.2.2.1 s.1.2.2.2.2.1 s.1.2.2.2.2.2.1
def ref04_Mask_L5m (n : Nat) : LM := ⟨47, [(0, (.ty (.i .i64))), (1, (.ty (.sl .b))), (4, (.ty (.i .i64))), (5, (.ty (.i .i64))), (6, (.ty (.i .i64))), (7, (.ty (.i .i64)))], [], [.exit 0, .ret], fun x o => iter (ref04_Mask_L5f n) n (x, o)⟩
def ref04_Masko (n : Nat) (c0 : Int) (l1 : (List Bool)) : Option (Int × Unit) :=
 bif (bif (bif (ilt c0 0) then true else (ilt 14 c0)) then true else (ilt 3 (iof (@xlen .b l1)))) then
 some ((0 : Int), ())
 else
 ((iter (ref04_Mask_L5f n) n ((c0, l1, (0 : Int), (0 : Int), (8 : Int), (0 : Int), ()), ()))).bind fun z1 =>
 bif (Nat.beq z1.1 0) then
 some ((wr .i64 (iadd z1.2.1.2.2.2.1 z1.2.1.2.2.2.2.1)), ())
 else
 some (z1.2.1.2.2.1, ())
def ref04_Mask_fm (n : Nat) : FM := ⟨[(.ty (.i .i64)), (.ty (.sl .b))], [], (.ty (.i .i64)), true, none, fun a o => ref04_Masko n a.1 a.2.1⟩
def ref04_Mask_cx (n : Nat) : Cx := ⟨ti, ty, gl, fun g => find [] g [], fun k => find none k [(5, some (ref04_Mask_L5m n))], [], false, false⟩
theorem ref04_Mask_L5r (n : Nat) (s : FrT (ref04_Mask_L5m n).fs × ObTs (ref04_Mask_L5m n).os) : ref04_Mask_L5f n s = roundF { ref04_Mask_cx n with res := [] } (loopOf Tryz.f143 5) (ref04_Mask_L5m n) s.1 s.2 := by kernel_rfl
theorem ref04_Mask_ev (n : Nat) (a : ShTs (ref04_Mask_fm n).ash) (o : ObTs (ref04_Mask_fm n).os) : evalF (ref04_Mask_cx n) Tryz.f143 (ref04_Mask_fm n) a o = (ref04_Mask_fm n).run a o := by kernel_rfl
def ref18_R_ito (n : Nat) (r0 : Unit) (l1 : Unit) (more2 : (List Bool)) (o0 : ((List GTok) × Int × Int × Unit)) (o1 : (ByteArray × Int × Int × Int × Int × Int × Int × Int × Int × Int × Bool × Int × ByteArray × Bool × Int × Int × Int × ByteArray × (List GExpr) × Unit)) : Option ((Unit) × (((List GTok) × Int × Int × Unit) × (ByteArray × Int × Int × Int × Int × Int × Int × Int × Int × Int × Bool × Int × ByteArray × Bool × Int × Int × Int × ByteArray × (List GExpr) × Unit) × Unit)) :=
 ((ref18_R_to () o0)).bind fun y1 =>
 ((bif (ieq y1.1.kind 1) then (ref18_R_to () o0) else (some (dfS (.ty .tok), dfObs [(.box [(.ty (.sl .tok)), (.ty (.i .i64)), (.ty (.i .i64))])])))).bind fun y2 =>
 bif (bif (ieq y1.1.kind 1) then (bNot (strEq y2.1.text (⟨#[]⟩ : ByteArray))) else false) then
 ((ref18_R_to () o0)).bind fun y3 =>
 ((ref04_Findo n y3.1.text)).bind fun y4 =>
 bif (ilt y4.1 0) then
 ((ref18_R_bado () (3 : Int) o0)).bind fun y5 =>
 some ((), (y5.2.1, o1, ()))
 else
 ((ref04_Masko n y4.1 more2)).bind fun y6 =>
 bif (ieq y6.1 0) then
 ((ref18_R_bado () (3 : Int) (o0.1, (wr .i64 (iadd o0.2.1 1)), o0.2.2.1, ()))).bind fun y7 =>
 some ((), (y7.2.1, (o1.1, o1.2.1, (42 : Int), y4.1, (0 : Int), (0 : Int), (0 : Int), y6.1, (1 : Int), (0 : Int), false, o1.2.2.2.2.2.2.2.2.2.2.2.1, o1.2.2.2.2.2.2.2.2.2.2.2.2.1, o1.2.2.2.2.2.2.2.2.2.2.2.2.2.1, o1.2.2.2.2.2.2.2.2.2.2.2.2.2.2.1, o1.2.2.2.2.2.2.2.2.2.2.2.2.2.2.2.1, o1.2.2.2.2.2.2.2.2.2.2.2.2.2.2.2.2.1, o1.2.2.2.2.2.2.2.2.2.2.2.2.2.2.2.2.2.1, o1.2.2.2.2.2.2.2.2.2.2.2.2.2.2.2.2.2.2.1, ()), ()))
 else
 some ((), ((o0.1, (wr .i64 (iadd o0.2.1 1)), o0.2.2.1, ()), (o1.1, o1.2.1, (42 : Int), y4.1, (0 : Int), (0 : Int), (0 : Int), y6.1, (1 : Int), (0 : Int), false, o1.2.2.2.2.2.2.2.2.2.2.2.1, o1.2.2.2.2.2.2.2.2.2.2.2.2.1, o1.2.2.2.2.2.2.2.2.2.2.2.2.2.1, o1.2.2.2.2.2.2.2.2.2.2.2.2.2.2.1, o1.2.2.2.2.2.2.2.2.2.2.2.2.2.2.2.1, o1.2.2.2.2.2.2.2.2.2.2.2.2.2.2.2.2.1, o1.2.2.2.2.2.2.2.2.2.2.2.2.2.2.2.2.2.1, o1.2.2.2.2.2.2.2.2.2.2.2.2.2.2.2.2.2.2.1, ()), ()))
 else
 ((ref18_R_bado () (3 : Int) o0)).bind fun y8 =>
 some ((), (y8.2.1, o1, ()))
def ref18_R_it_fm (n : Nat) : FM := ⟨[(.ptr 0 0), (.ptr 1 0), (.ty (.sl .b))], [(.box [(.ty (.sl .tok)), (.ty (.i .i64)), (.ty (.i .i64))]), (.box [(.ty .s), (.ty (.i .i64)), (.ty (.i .i64)), (.ty (.i .i64)), (.ty (.i .i64)), (.ty (.i .i64)), (.ty (.i .i64)), (.ty (.i .i64)), (.ty (.i .i64)), (.ty (.i .i64)), (.ty .b), (.ty (.i .i64)), (.ty .s), (.ty .b), (.ty (.i .i64)), (.ty (.i .i64)), (.ty (.i .i64)), (.ty .s), (.ty (.sl .expr))])], (.tup []), false, none, fun a o => ref18_R_ito n a.1 a.2.1 a.2.2.1 o.1 o.2.1⟩
def ref18_R_it_cx (n : Nat) : Cx := ⟨ti, ty, gl, fun g => find [] g [(108, [ref18_R_t_fm]), (142, [ref04_Find_fm n]), (113, [ref18_R_bad_fm]), (143, [ref04_Mask_fm n])], fun k => find none k [], [], false, false⟩
theorem ref18_R_it_ev (n : Nat) (a : ShTs (ref18_R_it_fm n).ash) (o : ObTs (ref18_R_it_fm n).os) : evalF (ref18_R_it_cx n) Tryz.f110 (ref18_R_it_fm n) a o = (ref18_R_it_fm n).run a o := by kernel_rfl
def ref18_condo (n : Nat) (op0 : Int) (s1 : ByteArray) : Option ((Int × Bool × Unit) × Unit) :=
 bif (bif (bNot (strEq s1 (⟨#[]⟩ : ByteArray))) then (bif (ieq op0 37) then true else (ieq op0 38)) else false) then
 some (((0 : Int), false, ()), ())
 else
 ((ref04_Findo n s1)).bind fun y1 =>
 some ((y1.1, (ile 0 y1.1), ()), ())
def ref18_cond_fm (n : Nat) : FM := ⟨[(.ty (.i .i64)), (.ty .s)], [], (.tup [(.ty (.i .i64)), (.ty .b)]), true, none, fun a o => ref18_condo n a.1 a.2.1⟩
def ref18_cond_cx (n : Nat) : Cx := ⟨ti, ty, gl, fun g => find [] g [(142, [ref04_Find_fm n])], fun k => find none k [], [], false, false⟩
theorem ref18_cond_ev (n : Nat) (a : ShTs (ref18_cond_fm n).ash) (o : ObTs (ref18_cond_fm n).os) : evalF (ref18_cond_cx n) Tryz.f144 (ref18_cond_fm n) a o = (ref18_cond_fm n).run a o := by kernel_rfl
def ref06_Setso (op0 : Int) : Option (Bool × Unit) :=
 some ((bif (bif (ile 1 op0) then (ile op0 11) else false) then true else (bif (ile 16 op0) then (ile op0 19) else false)), ())
theorem ref06_Sets_tot (op0 : Int) : ∃ r, ref06_Setso op0 = some (r, ()) := by
 unfold ref06_Setso
 repeat' (first | exact ⟨_, rfl⟩ | refine ex_bif ?_ ?_)
def ref06_Sets (op0 : Int) : Bool := ((ref06_Setso op0).map Prod.fst).getD (dfS (.ty .b))
theorem ref06_Sets_eq (op0 : Int) : ref06_Setso op0 = some (ref06_Sets op0, ()) := by
 obtain ⟨r, h⟩ := ref06_Sets_tot op0
 unfold ref06_Sets; rw [h]; rfl
def ref06_Sets_fm : FM := ⟨[(.ty (.i .i64))], [], (.ty .b), true, some (fun a o => ref06_Sets a.1), fun a o => some (ref06_Sets a.1, o)⟩
def ref06_Sets_cx : Cx := ⟨ti, ty, gl, fun g => find [] g [], fun k => find none k [], [], false, false⟩
theorem ref06_Sets_ev (a : ShTs (ref06_Sets_fm).ash) (o : ObTs (ref06_Sets_fm).os) : evalF (ref06_Sets_cx) Tryz.f145 (ref06_Sets_fm) a o = ref06_Setso a.1 := by kernel_rfl
theorem ref06_Sets_evt (a : ShTs (ref06_Sets_fm).ash) (o : ObTs (ref06_Sets_fm).os) : evalF (ref06_Sets_cx) Tryz.f145 (ref06_Sets_fm) a o = (ref06_Sets_fm).run a o := (ref06_Sets_ev a o).trans (ref06_Sets_eq a.1)
def ref18_word_L6 (n : Nat) (s_2 : Int) (s_3 : Bool) (s_4 : Int) (s_5 : Bool) (s_6 : Bool) (s_7 : Bool) (s_8 : ByteArray) (s_9 : Int) : Option (Option Nat × (Int × Bool × Int × Bool × Bool × Bool × ByteArray × Int × Unit) × Unit) :=
 bif (ile s_9 45) then
 ((ref06_Nameo s_9)).bind fun y1 =>
 chk (bNot (bAnd (bNot (bounds 0 (slen y1.1) (slen s_8))) (bNot (bif (ieq s_9 42) then true else (ilt (slen s_8) (slen y1.1)))))) (
 bif (bif (bif (ieq s_9 42) then true else (ilt (slen s_8) (slen y1.1))) then true else (bNot (strEq (scut s_8 0 (slen y1.1)) y1.1))) then
 some (none, (s_2, s_3, s_4, s_5, s_6, s_7, s_8, (wr .i64 (iadd s_9 1)), ()), ())
 else
 bif (bif s_7 then (bif (bif (bif (ieq s_9 37) then true else (ieq s_9 38)) then true else (ieq s_9 39)) then true else (ieq s_9 44)) else false) then
 some (none, (s_2, s_3, s_4, s_5, s_6, s_7, s_8, (wr .i64 (iadd s_9 1)), ()), ())
 else
 chk (bounds (slen y1.1) (slen s_8) (slen s_8)) (
 ((ref18_condo n s_9 (scut s_8 (slen y1.1) (slen s_8)))).bind fun y2 =>
 bif y2.1.2.1 then
 some ((some 1), (s_9, false, y2.1.1, s_7, true, s_7, s_8, s_9, ()), ())
 else
 chk (bNot (bAnd (bNot (inside 0 (slen (scut s_8 (slen y1.1) (slen s_8))))) (bif (ref06_Sets s_9) then (bNot (strEq (scut s_8 (slen y1.1) (slen s_8)) (⟨#[]⟩ : ByteArray))) else false))) (
 bif (bif (bif (ref06_Sets s_9) then (bNot (strEq (scut s_8 (slen y1.1) (slen s_8)) (⟨#[]⟩ : ByteArray))) else false) then (ieq (sget (scut s_8 (slen y1.1) (slen s_8)) 0) 115) else false) then
 chk (bounds 1 (slen (scut s_8 (slen y1.1) (slen s_8))) (slen (scut s_8 (slen y1.1) (slen s_8)))) (
 ((ref18_condo n s_9 (scut (scut s_8 (slen y1.1) (slen s_8)) 1 (slen (scut s_8 (slen y1.1) (slen s_8)))))).bind fun y3 =>
 bif y3.1.2.1 then
 some ((some 1), (s_9, true, y3.1.1, s_7, true, s_7, s_8, s_9, ()), ())
 else
 some (none, (s_2, s_3, s_4, s_5, s_6, s_7, s_8, (wr .i64 (iadd s_9 1)), ()), ()))
 else
 some (none, (s_2, s_3, s_4, s_5, s_6, s_7, s_8, (wr .i64 (iadd s_9 1)), ()), ()))))
 else
 some ((some 0), (s_2, s_3, s_4, s_5, s_6, s_7, s_8, s_9, ()), ())
def ref18_word_L6f (n : Nat) (s : (Int × Bool × Int × Bool × Bool × Bool × ByteArray × Int × Unit) × Unit) := ref18_word_L6 n s.1.1 s.1.2.1 s.1.2.2.1 s.1.2.2.2.1 s.1.2.2.2.2.1 s.1.2.2.2.2.2.1 s.1.2.2.2.2.2.2.1 s.1.2.2.2.2.2.2.2.1
def ref18_word_L6m (n : Nat) : LM := ⟨110, [(2, (.ty (.i .i64))), (3, (.ty .b)), (4, (.ty (.i .i64))), (5, (.ty .b)), (6, (.ty .b)), (7, (.ty .b)), (8, (.ty .s)), (9, (.ty (.i .i64)))], [], [.exit 0, .ret], fun x o => iter (ref18_word_L6f n) n (x, o)⟩
def ref18_wordo (n : Nat) (s0 : ByteArray) : Option ((Int × Bool × Int × Bool × Bool × Unit) × Unit) :=
 chk (bNot (bAnd (bNot (bounds (wr .i64 (isub (slen s0) 2)) (slen s0) (slen s0))) (ilt 2 (slen s0)))) (
 bif (bif (ilt 2 (slen s0)) then (strEq (scut s0 (wr .i64 (isub (slen s0) 2)) (slen s0)) (⟨#[46, 119]⟩ : ByteArray)) else false) then
 chk (bounds 0 (wr .i64 (isub (slen s0) 2)) (slen s0)) (
 ((iter (ref18_word_L6f n) n (((0 : Int), false, (0 : Int), false, false, (bif (ilt 2 (slen s0)) then (strEq (scut s0 (wr .i64 (isub (slen s0) 2)) (slen s0)) (⟨#[46, 119]⟩ : ByteArray)) else false), (scut s0 0 (wr .i64 (isub (slen s0) 2))), (1 : Int), ()), ()))).bind fun z4 =>
 bif (Nat.beq z4.1 0) then
 some (((0 : Int), false, (0 : Int), false, false, ()), ())
 else
 some ((z4.2.1.1, z4.2.1.2.1, z4.2.1.2.2.1, z4.2.1.2.2.2.1, z4.2.1.2.2.2.2.1, ()), ()))
 else
 ((iter (ref18_word_L6f n) n (((0 : Int), false, (0 : Int), false, false, (bif (ilt 2 (slen s0)) then (strEq (scut s0 (wr .i64 (isub (slen s0) 2)) (slen s0)) (⟨#[46, 119]⟩ : ByteArray)) else false), s0, (1 : Int), ()), ()))).bind fun z5 =>
 bif (Nat.beq z5.1 0) then
 some (((0 : Int), false, (0 : Int), false, false, ()), ())
 else
 some ((z5.2.1.1, z5.2.1.2.1, z5.2.1.2.2.1, z5.2.1.2.2.2.1, z5.2.1.2.2.2.2.1, ()), ()))
def ref18_word_fm (n : Nat) : FM := ⟨[(.ty .s)], [], (.tup [(.ty (.i .i64)), (.ty .b), (.ty (.i .i64)), (.ty .b), (.ty .b)]), true, none, fun a o => ref18_wordo n a.1⟩
def ref18_word_cx (n : Nat) : Cx := ⟨ti, ty, gl, fun g => find [] g [(133, [ref06_Name_fm]), (144, [ref18_cond_fm n]), (145, [ref06_Sets_fm])], fun k => find none k [(6, some (ref18_word_L6m n))], [], false, false⟩
theorem ref18_word_L6r (n : Nat) (s : FrT (ref18_word_L6m n).fs × ObTs (ref18_word_L6m n).os) : ref18_word_L6f n s = roundF { ref18_word_cx n with res := [] } (loopOf Tryz.f111 6) (ref18_word_L6m n) s.1 s.2 := by kernel_rfl
theorem ref18_word_ev (n : Nat) (a : ShTs (ref18_word_fm n).ash) (o : ObTs (ref18_word_fm n).os) : evalF (ref18_word_cx n) Tryz.f111 (ref18_word_fm n) a o = (ref18_word_fm n).run a o := by kernel_rfl
end Go.Ev.Tryz
