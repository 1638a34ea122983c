/- Models of the functions that the laws reach, each with the proof that the evaluator gives it. Written by sym.py. -/
import Derived.Test.YtjepeadpofpadaaGreatDoorLsM4
set_option linter.unusedSimpArgs false
set_option linter.unusedVariables false
set_option linter.unusedSectionVars false
namespace Go.Ev.Tryz
open Go Go.Ev Go.Proofs
set_option maxRecDepth 1000000
def layout_Desk_pooledo (n : Nat) (s0 : ((List GLine) × (List (List Int)) × (List Int) × (List Bool) × (List Int) × Unit)) (s1 : Int) : Option ((Int × Bool × Unit) × Unit) :=
 bif (ile (iof (@xlen (.i .i64) s0.2.2.1)) s1) then
 some (((0 : Int), false, ()), ())
 else
 ((pools_Ofo n s0.1 s1)).bind fun y1 =>
 ((layout_poolo s0.2.1 y1.1)).bind fun y2 =>
 chk (inside s1 (iof (@xlen (.i .i64) s0.2.2.1))) (
 ((pools_Findo n y2.1 (@xget (.i .i64) s0.2.2.1 (Int.toNat s1)))).bind fun y3 =>
 bif (ilt y3.1 0) then
 some (((0 : Int), false, ()), ())
 else
 chk (bounds s1 (iof (@xlen .line s0.1)) (iof (@xlen .line s0.1))) (
 ((slices_IndexFunco n (@xdrop .line s0.1 (Int.toNat s1)) ())).bind fun y4 =>
 chk (inside (iof (@xlen .line s0.1)) (iof (@xlen (.i .i64) s0.2.2.2.2.1))) (
 bif (ile 0 y4.1) then
 chk (inside (wr .i64 (iadd s1 y4.1)) (iof (@xlen (.i .i64) s0.2.2.2.2.1))) (
 ((layout_Leado (@xget (.i .i64) s0.2.2.2.2.1 (Int.toNat (wr .i64 (iadd s1 y4.1)))) (4 : Int))).bind fun y5 =>
 some (((wr .i64 (iadd (wr .i64 (iadd (@xget (.i .i64) s0.2.2.2.2.1 (Int.toNat (wr .i64 (iadd s1 y4.1)))) y5.1)) (wr .i64 (imul 4 y3.1)))), true, ()), ()))
 else
 ((layout_Leado (@xget (.i .i64) s0.2.2.2.2.1 (Int.toNat (iof (@xlen .line s0.1)))) (4 : Int))).bind fun y6 =>
 some (((wr .i64 (iadd (wr .i64 (iadd (@xget (.i .i64) s0.2.2.2.2.1 (Int.toNat (iof (@xlen .line s0.1)))) y6.1)) (wr .i64 (imul 4 y3.1)))), true, ()), ()))))
def layout_Desk_pooled_fm (n : Nat) : FM := ⟨[(.rp [(.ty (.sl .line)), (.ty (.sl (.sl (.i .i64)))), (.ty (.sl (.i .i64))), (.ty (.sl .b)), (.ty (.sl (.i .i64)))]), (.ty (.i .i64))], [], (.tup [(.ty (.i .i64)), (.ty .b)]), true, none, fun a o => layout_Desk_pooledo n a.1 a.2.1⟩
def layout_Desk_pooled_cx (n : Nat) : Cx := ⟨ti, ty, gl, fun g => find [] g [(92, [pools_Of_fm n]), (39, [layout_pool_fm]), (91, [pools_Find_fm n]), (93, [slices_IndexFunc_fm n]), (37, [layout_Lead_fm])], fun k => find none k [], [], false, false⟩
theorem layout_Desk_pooled_ev (n : Nat) (a : ShTs (layout_Desk_pooled_fm n).ash) (o : ObTs (layout_Desk_pooled_fm n).os) : evalF (layout_Desk_pooled_cx n) Tryz.f62 (layout_Desk_pooled_fm n) a o = (layout_Desk_pooled_fm n).run a o := by kernel_rfl
def symbols_Target_1o (x0 : GLine) (s1 : Unit) (o0 : (ByteArray × Unit)) : Option (Bool × ((ByteArray × Unit) × Unit)) :=
 some ((bif (bNot (strEq o0.1 (⟨#[]⟩ : ByteArray))) then (strEq x0.label o0.1) else false), ((o0.1, ()), ()))
theorem symbols_Target_1_tot (x0 : GLine) (s1 : Unit) (o0 : (ByteArray × Unit)) : ∃ r, symbols_Target_1o x0 s1 o0 = some (r, (o0, ())) := by
 unfold symbols_Target_1o
 repeat' (first | exact ⟨_, rfl⟩ | refine ex_bif ?_ ?_)
def symbols_Target_1 (x0 : GLine) (s1 : Unit) (o0 : (ByteArray × Unit)) : Bool := ((symbols_Target_1o x0 s1 o0).map Prod.fst).getD (dfS (.ty .b))
theorem symbols_Target_1_eq (x0 : GLine) (s1 : Unit) (o0 : (ByteArray × Unit)) : symbols_Target_1o x0 s1 o0 = some (symbols_Target_1 x0 s1 o0, (o0, ())) := by
 obtain ⟨r, h⟩ := symbols_Target_1_tot x0 s1 o0
 unfold symbols_Target_1; rw [h]; rfl
def symbols_Target_1_fm : FM := ⟨[(.ty .line), (.ptr 0 0)], [(.box [(.ty .s)])], (.ty .b), true, some (fun a o => symbols_Target_1 a.1 a.2.1 o.1), fun a o => some (symbols_Target_1 a.1 a.2.1 o.1, o)⟩
def symbols_Target_1_cx : Cx := ⟨ti, ty, gl, fun g => find [] g [], fun k => find none k [], [], false, false⟩
theorem symbols_Target_1_ev (a : ShTs (symbols_Target_1_fm).ash) (o : ObTs (symbols_Target_1_fm).os) : evalF (symbols_Target_1_cx) Tryz.f95 (symbols_Target_1_fm) a o = symbols_Target_1o a.1 a.2.1 o.1 := by kernel_rfl
theorem symbols_Target_1_evt (a : ShTs (symbols_Target_1_fm).ash) (o : ObTs (symbols_Target_1_fm).os) : evalF (symbols_Target_1_cx) Tryz.f95 (symbols_Target_1_fm) a o = (symbols_Target_1_fm).run a o := (symbols_Target_1_ev a o).trans (symbols_Target_1_eq a.1 a.2.1 o.1)
def slices_IndexFunc_v1_L2 (n : Nat) (s_0 : (List GLine)) (f_1 : (Unit × Unit)) (s_4 : Int) (s_7 : Int) (s_8 : Int) (o0 : (ByteArray × Unit)) : Option (Option Nat × ((List GLine) × (Unit × Unit) × Int × Int × Int × Unit) × ((ByteArray × Unit) × Unit)) :=
 bif (ilt s_8 s_7) then
 chk (inside s_8 (iof (@xlen .line s_0))) (
 let x1 : GLine := (@xget .line s_0 (Int.toNat s_8))
 bif (symbols_Target_1 x1 () (o0.1, ())) then
 some ((some 1), (s_0, ((), ()), s_8, s_7, s_8, ()), ((o0.1, ()), ()))
 else
 some (none, (s_0, ((), ()), s_4, s_7, (wr .i64 (iadd s_8 1)), ()), ((o0.1, ()), ())))
 else
 some ((some 0), (s_0, ((), ()), s_4, s_7, s_8, ()), ((o0.1, ()), ()))
def slices_IndexFunc_v1_L2f (n : Nat) (s : ((List GLine) × (Unit × Unit) × Int × Int × Int × Unit) × ((ByteArray × Unit) × Unit)) := slices_IndexFunc_v1_L2 n s.1.1 s.1.2.1 s.1.2.2.1 s.1.2.2.2.1 s.1.2.2.2.2.1 s.2.1
def slices_IndexFunc_v1_L2m (n : Nat) : LM := ⟨19, [(0, (.ty (.sl .line))), (1, (.fn 95 [(.ptr 0 0)])), (4, (.ty (.i .i64))), (7, (.ty (.i .i64))), (8, (.ty (.i .i64)))], [(.box [(.ty .s)])], [.exit 0, .ret], fun x o => iter (slices_IndexFunc_v1_L2f n) n (x, o)⟩
def slices_IndexFunc_v1o (n : Nat) (s0 : (List GLine)) (f1 : (Unit × Unit)) (o0 : (ByteArray × Unit)) : Option (Int × ((ByteArray × Unit) × Unit)) :=
 ((iter (slices_IndexFunc_v1_L2f n) n ((s0, ((), ()), (0 : Int), (iof (@xlen .line s0)), (0 : Int), ()), ((o0.1, ()), ())))).bind fun z2 =>
 bif (Nat.beq z2.1 0) then
 some (((-1) : Int), ((z2.2.2.1.1, ()), ()))
 else
 some (z2.2.1.2.2.1, ((z2.2.2.1.1, ()), ()))
def slices_IndexFunc_v1_fm (n : Nat) : FM := ⟨[(.ty (.sl .line)), (.fn 95 [(.ptr 0 0)])], [(.box [(.ty .s)])], (.ty (.i .i64)), false, none, fun a o => slices_IndexFunc_v1o n a.1 a.2.1 o.1⟩
def slices_IndexFunc_v1_cx (n : Nat) : Cx := ⟨ti, ty, gl, fun g => find [] g [(95, [symbols_Target_1_fm])], fun k => find none k [(2, some (slices_IndexFunc_v1_L2m n))], [], false, false⟩
theorem slices_IndexFunc_v1_L2r (n : Nat) (s : FrT (slices_IndexFunc_v1_L2m n).fs × ObTs (slices_IndexFunc_v1_L2m n).os) : slices_IndexFunc_v1_L2f n s = roundF { slices_IndexFunc_v1_cx n with res := [] } (loopOf Tryz.f93 2) (slices_IndexFunc_v1_L2m n) s.1 s.2 := by kernel_rfl
theorem slices_IndexFunc_v1_ev (n : Nat) (a : ShTs (slices_IndexFunc_v1_fm n).ash) (o : ObTs (slices_IndexFunc_v1_fm n).os) : evalF (slices_IndexFunc_v1_cx n) Tryz.f93 (slices_IndexFunc_v1_fm n) a o = (slices_IndexFunc_v1_fm n).run a o := by kernel_rfl
def symbols_Targeto (n : Nat) (l0 : (List GLine)) (name1 : ByteArray) : Option (Int × Unit) :=
 ((slices_IndexFunc_v1o n l0 ((), ()) (name1, ()))).bind fun y1 =>
 some (y1.1, ())
def symbols_Target_fm (n : Nat) : FM := ⟨[(.ty (.sl .line)), (.ty .s)], [], (.ty (.i .i64)), true, none, fun a o => symbols_Targeto n a.1 a.2.1⟩
def symbols_Target_cx (n : Nat) : Cx := ⟨ti, ty, gl, fun g => find [] g [(93, [slices_IndexFunc_v1_fm n])], fun k => find none k [], [], false, false⟩
theorem symbols_Target_ev (n : Nat) (a : ShTs (symbols_Target_fm n).ash) (o : ObTs (symbols_Target_fm n).os) : evalF (symbols_Target_cx n) Tryz.f63 (symbols_Target_fm n) a o = (symbols_Target_fm n).run a o := by kernel_rfl
def layout_Desk_Offseto (n : Nat) (s0 : ((List GLine) × (List (List Int)) × (List Int) × (List Bool) × (List Int) × Unit)) (s1 : Int) (s2 : Int) : Option ((Int × Bool × Unit) × Unit) :=
 chk (inside s1 (iof (@xlen .line s0.1))) (
 let x1 : GLine := (@xget .line s0.1 (Int.toNat s1))
 chk (inside s1 (iof (@xlen (.i .i64) s0.2.2.2.2.1))) (
 bif (ieq x1.kind 2) then
 ((layout_Desk_pooledo n (s0.1, s0.2.1, s0.2.2.1, s0.2.2.2.1, s0.2.2.2.2.1, ()) s1)).bind fun y2 =>
 some (((wr .i64 (isub y2.1.1 (wandn .i64 (wr .i64 (iadd (@xget (.i .i64) s0.2.2.2.2.1 (Int.toNat s1)) 4)) 3))), y2.1.2.1, ()), ())
 else
 ((symbols_Targeto n s0.1 x1.ref)).bind fun y3 =>
 bif (ilt y3.1 0) then
 some (((0 : Int), false, ()), ())
 else
 bif (layout_places x1) then
 chk (inside y3.1 (iof (@xlen (.i .i64) s0.2.2.2.2.1))) (
 some (((wr .i64 (isub (@xget (.i .i64) s0.2.2.2.2.1 (Int.toNat y3.1)) (wandn .i64 (wr .i64 (iadd (@xget (.i .i64) s0.2.2.2.2.1 (Int.toNat s1)) 4)) 3))), true, ()), ()))
 else
 bif (ieq s2 2) then
 chk (inside y3.1 (iof (@xlen (.i .i64) s0.2.2.2.2.1))) (
 some (((wr .i64 (isub (@xget (.i .i64) s0.2.2.2.2.1 (Int.toNat y3.1)) (wr .i64 (iadd (wr .i64 (iadd (@xget (.i .i64) s0.2.2.2.2.1 (Int.toNat s1)) 4)) 2)))), true, ()), ()))
 else
 chk (inside y3.1 (iof (@xlen (.i .i64) s0.2.2.2.2.1))) (
 some (((wr .i64 (isub (@xget (.i .i64) s0.2.2.2.2.1 (Int.toNat y3.1)) (wr .i64 (iadd (@xget (.i .i64) s0.2.2.2.2.1 (Int.toNat s1)) 4)))), true, ()), ()))))
def layout_Desk_Offset_fm (n : Nat) : FM := ⟨[(.rp [(.ty (.sl .line)), (.ty (.sl (.sl (.i .i64)))), (.ty (.sl (.i .i64))), (.ty (.sl .b)), (.ty (.sl (.i .i64)))]), (.ty (.i .i64)), (.ty (.i .i64))], [], (.tup [(.ty (.i .i64)), (.ty .b)]), true, none, fun a o => layout_Desk_Offseto n a.1 a.2.1 a.2.2.1⟩
def layout_Desk_Offset_cx (n : Nat) : Cx := ⟨ti, ty, gl, fun g => find [] g [(62, [layout_Desk_pooled_fm n]), (63, [symbols_Target_fm n]), (23, [layout_places_fm])], fun k => find none k [], [], false, false⟩
theorem layout_Desk_Offset_ev (n : Nat) (a : ShTs (layout_Desk_Offset_fm n).ash) (o : ObTs (layout_Desk_Offset_fm n).os) : evalF (layout_Desk_Offset_cx n) Tryz.f32 (layout_Desk_Offset_fm n) a o = (layout_Desk_Offset_fm n).run a o := by kernel_rfl
def layout_Desk_owno (d0 : ((List GLine) × (List (List Int)) × (List Int) × (List Bool) × (List Int) × Unit)) (i1 : Int) : Option (Bool × Unit) :=
 chk (inside i1 (iof (@xlen .line d0.1))) (
 let x1 : GLine := (@xget .line d0.1 (Int.toNat i1))
 chk (bNot (bAnd (bNot (inside i1 (iof (@xlen .b d0.2.2.2.1)))) (bif (bif (ieq x1.kind 1) then (ieq x1.ins.op 35) else false) then (bNot (ieq x1.ins.cond 14)) else false))) (
 some ((bif (bif (bif (ieq x1.kind 1) then (ieq x1.ins.op 35) else false) then (bNot (ieq x1.ins.cond 14)) else false) then (bNot (@xget .b d0.2.2.2.1 (Int.toNat i1))) else false), ())))
def layout_Desk_own_fm : FM := ⟨[(.rp [(.ty (.sl .line)), (.ty (.sl (.sl (.i .i64)))), (.ty (.sl (.i .i64))), (.ty (.sl .b)), (.ty (.sl (.i .i64)))]), (.ty (.i .i64))], [], (.ty .b), true, none, fun a o => layout_Desk_owno a.1 a.2.1⟩
def layout_Desk_own_cx : Cx := ⟨ti, ty, gl, fun g => find [] g [], fun k => find none k [], [], false, false⟩
theorem layout_Desk_own_ev (a : ShTs (layout_Desk_own_fm).ash) (o : ObTs (layout_Desk_own_fm).os) : evalF (layout_Desk_own_cx) Tryz.f65 (layout_Desk_own_fm) a o = (layout_Desk_own_fm).run a o := by kernel_rfl
def layout_Desk_Fitso (s0 : ((List GLine) × (List (List Int)) × (List Int) × (List Bool) × (List Int) × Unit)) (s1 : Int) (s2 : Int) (s3 : Int) : Option (Bool × Unit) :=
 chk (inside s1 (iof (@xlen .line s0.1))) (
 let x1 : GLine := (@xget .line s0.1 (Int.toNat s1))
 bif (bif (layout_places x1) then (ieq s2 0) else false) then
 some ((bif (bif (ile 0 s3) then (ile s3 1020) else false) then (ieq (wand .i64 s3 3) 0) else false), ())
 else
 bif (layout_places x1) then
 some ((bif (ile (-4095) s3) then (ile s3 4095) else false), ())
 else
 bif (bif (ieq x1.ins.op 36) then true else (ieq s2 2)) then
 ((offs_Fitso (4 : Int) s3)).bind fun y2 =>
 some (y2.1, ())
 else
 bif (bNot (ieq x1.ins.op 35)) then
 ((offs_Fitso (5 : Int) s3)).bind fun y3 =>
 some (y3.1, ())
 else
 ((layout_Desk_owno (s0.1, s0.2.1, s0.2.2.1, s0.2.2.2.1, s0.2.2.2.2.1, ()) s1)).bind fun y4 =>
 bif y4.1 then
 bif (ieq s2 1) then
 ((offs_Fitso (3 : Int) s3)).bind fun y5 =>
 some (y5.1, ())
 else
 ((offs_Fitso (1 : Int) s3)).bind fun y6 =>
 some (y6.1, ())
 else
 bif (ieq s2 1) then
 ((offs_Fitso (4 : Int) s3)).bind fun y7 =>
 some (y7.1, ())
 else
 ((offs_Fitso (2 : Int) s3)).bind fun y8 =>
 some (y8.1, ()))
def layout_Desk_Fits_fm : FM := ⟨[(.rp [(.ty (.sl .line)), (.ty (.sl (.sl (.i .i64)))), (.ty (.sl (.i .i64))), (.ty (.sl .b)), (.ty (.sl (.i .i64)))]), (.ty (.i .i64)), (.ty (.i .i64)), (.ty (.i .i64))], [], (.ty .b), true, none, fun a o => layout_Desk_Fitso a.1 a.2.1 a.2.2.1 a.2.2.2.1⟩
def layout_Desk_Fits_cx : Cx := ⟨ti, ty, gl, fun g => find [] g [(23, [layout_places_fm]), (64, [offs_Fits_fm]), (65, [layout_Desk_own_fm])], fun k => find none k [], [], false, false⟩
theorem layout_Desk_Fits_ev (a : ShTs (layout_Desk_Fits_fm).ash) (o : ObTs (layout_Desk_Fits_fm).os) : evalF (layout_Desk_Fits_cx) Tryz.f33 (layout_Desk_Fits_fm) a o = (layout_Desk_Fits_fm).run a o := by kernel_rfl
def layout_Desk_nexto (d0 : ((List GLine) × (List (List Int)) × (List Int) × (List Bool) × (List Int) × Unit)) (i1 : Int) (form2 : Int) : Option (Int × Unit) :=
 chk (inside i1 (iof (@xlen .line d0.1))) (
 let x1 : GLine := (@xget .line d0.1 (Int.toNat i1))
 bif (bif (ieq form2 0) then (bif (ieq x1.kind 1) then (bif (ieq x1.ins.op 37) then true else (ieq x1.ins.op 38)) else false) else false) then
 bif (bif (ieq form2 0) then (bif (ieq x1.kind 1) then (bif (ieq x1.ins.op 37) then true else (ieq x1.ins.op 38)) else false) else false) then
 some ((2 : Int), ())
 else
 bif (ieq form2 0) then
 some ((1 : Int), ())
 else
 some (form2, ())
 else
 ((bif (ieq form2 1) then (layout_Desk_owno (d0.1, d0.2.1, d0.2.2.1, d0.2.2.2.1, d0.2.2.2.2.1, ()) i1) else (some (dfS (.ty .b), dfObs [])))).bind fun y2 =>
 bif (bif (ieq form2 1) then y2.1 else false) then
 some ((2 : Int), ())
 else
 bif (ieq form2 0) then
 some ((1 : Int), ())
 else
 some (form2, ()))
def layout_Desk_next_fm : FM := ⟨[(.rp [(.ty (.sl .line)), (.ty (.sl (.sl (.i .i64)))), (.ty (.sl (.i .i64))), (.ty (.sl .b)), (.ty (.sl (.i .i64)))]), (.ty (.i .i64)), (.ty (.i .i64))], [], (.ty (.i .i64)), true, none, fun a o => layout_Desk_nexto a.1 a.2.1 a.2.2.1⟩
def layout_Desk_next_cx : Cx := ⟨ti, ty, gl, fun g => find [] g [(65, [layout_Desk_own_fm])], fun k => find none k [], [], false, false⟩
theorem layout_Desk_next_ev (a : ShTs (layout_Desk_next_fm).ash) (o : ObTs (layout_Desk_next_fm).os) : evalF (layout_Desk_next_cx) Tryz.f34 (layout_Desk_next_fm) a o = (layout_Desk_next_fm).run a o := by kernel_rfl
def layout_Grow_L6 (n : Nat) (s_8 : (List Int)) (s_9 : Bool) (s_10 : ((List GLine) × (List (List Int)) × (List Int) × (List Bool) × (List Int) × Unit)) (s_11 : Unit) (s_12 : Bool) (s_29 : (List GLine)) (s_30 : Int) (s_31 : Int) (o0 : (List Int)) : Option (Option Nat × ((List Int) × Bool × ((List GLine) × (List (List Int)) × (List Int) × (List Bool) × (List Int) × Unit) × Unit × Bool × (List GLine) × Int × Int × Unit) × ((List Int) × Unit)) :=
 bif (ilt s_31 s_30) then
 chk (inside s_31 (iof (@xlen .line s_29))) (
 let x2 : GLine := (@xget .line s_29 (Int.toNat s_31))
 bif (bNot (layout_Reaches x2)) then
 some (none, (s_8, s_9, (s_10.1, s_10.2.1, s_10.2.2.1, s_10.2.2.2.1, s_10.2.2.2.2.1, ()), (), s_12, s_29, s_30, (wr .i64 (iadd s_31 1)), ()), (o0, ()))
 else
 chk (inside s_31 (iof (@xlen (.i .i64) o0))) (
 ((layout_Desk_Offseto n (s_10.1, s_10.2.1, s_10.2.2.1, s_10.2.2.2.1, s_10.2.2.2.2.1, ()) s_31 (@xget (.i .i64) o0 (Int.toNat s_31)))).bind fun y3 =>
 chk (bNot (bAnd (bNot (inside s_31 (iof (@xlen (.i .i64) o0)))) (bNot (bNot y3.1.2.1)))) (
 ((bif (bNot (bNot y3.1.2.1)) then (layout_Desk_Fitso (s_10.1, s_10.2.1, s_10.2.2.1, s_10.2.2.2.1, s_10.2.2.2.2.1, ()) s_31 (@xget (.i .i64) o0 (Int.toNat s_31)) y3.1.1) else (some (dfS (.ty .b), dfObs [])))).bind fun y4 =>
 bif (bif (bNot y3.1.2.1) then true else y4.1) then
 some (none, (s_8, s_9, (s_10.1, s_10.2.1, s_10.2.2.1, s_10.2.2.2.1, s_10.2.2.2.2.1, ()), (), s_12, s_29, s_30, (wr .i64 (iadd s_31 1)), ()), (o0, ()))
 else
 chk (inside s_31 (iof (@xlen (.i .i64) o0))) (
 ((layout_Desk_nexto (s_10.1, s_10.2.1, s_10.2.2.1, s_10.2.2.2.1, s_10.2.2.2.2.1, ()) s_31 (@xget (.i .i64) o0 (Int.toNat s_31)))).bind fun y5 =>
 chk (inside s_31 (iof (@xlen (.i .i64) o0))) (
 bif (bNot (ieq y5.1 (@xget (.i .i64) o0 (Int.toNat s_31)))) then
 chk (inside s_31 (iof (@xlen (.i .i64) o0))) (
 some (none, (s_8, s_9, (s_10.1, s_10.2.1, s_10.2.2.1, s_10.2.2.2.1, s_10.2.2.2.2.1, ()), (), true, s_29, s_30, (wr .i64 (iadd s_31 1)), ()), ((@xset (.i .i64) o0 (Int.toNat s_31) y5.1), ())))
 else
 some (none, (s_8, s_9, (s_10.1, s_10.2.1, s_10.2.2.1, s_10.2.2.2.1, s_10.2.2.2.2.1, ()), (), s_12, s_29, s_30, (wr .i64 (iadd s_31 1)), ()), (o0, ())))))))
 else
 some ((some 0), (s_8, s_9, (s_10.1, s_10.2.1, s_10.2.2.1, s_10.2.2.2.1, s_10.2.2.2.2.1, ()), (), s_12, s_29, s_30, s_31, ()), (o0, ()))
def layout_Grow_L6f (n : Nat) (s : ((List Int) × Bool × ((List GLine) × (List (List Int)) × (List Int) × (List Bool) × (List Int) × Unit) × Unit × Bool × (List GLine) × Int × Int × Unit) × ((List Int) × Unit)) := layout_Grow_L6 n s.1.1 s.1.2.1 s.1.2.2.1 s.1.2.2.2.1 s.1.2.2.2.2.1 s.1.2.2.2.2.2.1 s.1.2.2.2.2.2.2.1 s.1.2.2.2.2.2.2.2.1 s.2.1
def layout_Grow_L6m (n : Nat) : LM := ⟨81, [(8, (.own (.i .i64))), (9, (.ty .b)), (10, (.rp [(.ty (.sl .line)), (.ty (.sl (.sl (.i .i64)))), (.ty (.sl (.i .i64))), (.ty (.sl .b)), (.ty (.sl (.i .i64)))])), (11, (.ms 0)), (12, (.ty .b)), (29, (.ty (.sl .line))), (30, (.ty (.i .i64))), (31, (.ty (.i .i64)))], [(.arr (.i .i64))], [.exit 0], fun x o => iter (layout_Grow_L6f n) n (x, o)⟩
def layout_Growo (n : Nat) (s0 : (List GLine)) (s1 : (List Int)) (s2 : (List (List Int))) (s3 : (List Int)) : Option (((List Int) × Bool × Unit) × Unit) :=
 ((layout_Newo n s0 s1 s2 s3)).bind fun y1 =>
 chk (bAnd (ieq (iof (@xlen .line s0)) (iof (@xlen .line s0))) (bAnd (ile 0 (iof (@xlen .line s0))) (room (Int.toNat (iof (@xlen .line s0))) 8))) (
 ((iter (layout_Grow_L6f n) n ((([] : List Int), false, y1.1, (), false, s0, (iof (@xlen .line s0)), (0 : Int), ()), ((@xcopy (.i .i64) (xrep (.i .i64) (Int.toNat (iof (@xlen .line s0)))) s1), ())))).bind fun z6 =>
 some ((z6.2.2.1, z6.2.1.2.2.2.2.1, ()), ()))
def layout_Grow_fm (n : Nat) : FM := ⟨[(.ty (.sl .line)), (.ty (.sl (.i .i64))), (.ty (.sl (.sl (.i .i64)))), (.ty (.sl (.i .i64)))], [], (.tup [(.ty (.sl (.i .i64))), (.ty .b)]), true, none, fun a o => layout_Growo n a.1 a.2.1 a.2.2.1 a.2.2.2.1⟩
def layout_Grow_cx (n : Nat) : Cx := ⟨ti, ty, gl, fun g => find [] g [(31, [layout_New_fm n]), (26, [layout_Reaches_fm]), (32, [layout_Desk_Offset_fm n]), (33, [layout_Desk_Fits_fm]), (34, [layout_Desk_next_fm])], fun k => find none k [(6, some (layout_Grow_L6m n))], [], false, false⟩
theorem layout_Grow_L6r (n : Nat) (s : FrT (layout_Grow_L6m n).fs × ObTs (layout_Grow_L6m n).os) : layout_Grow_L6f n s = roundF { layout_Grow_cx n with res := [] } (loopOf Tryz.f13 6) (layout_Grow_L6m n) s.1 s.2 := by kernel_rfl
theorem layout_Grow_ev (n : Nat) (a : ShTs (layout_Grow_fm n).ash) (o : ObTs (layout_Grow_fm n).os) : evalF (layout_Grow_cx n) Tryz.f13 (layout_Grow_fm n) a o = (layout_Grow_fm n).run a o := by kernel_rfl
def layout_Solve_L3 (n : Nat) (s_0 : (List GLine)) (s_1 : (List (List Int))) (s_2 : (List Int)) (s_6 : (List Int)) (s_7 : Int) (s_8 : Unit) (s_9 : (List Int)) (s_10 : Int) (s_11 : Bool) (o0 : (Int × Int × Unit)) : Option (Option Nat × ((List GLine) × (List (List Int)) × (List Int) × (List Int) × Int × Unit × (List Int) × Int × Bool × Unit) × ((Int × Int × Unit) × Unit)) :=
 bif s_11 then
 ((layout_Growo n s_0 s_9 s_1 s_2)).bind fun y3 =>
 some (none, (s_0, s_1, s_2, s_6, s_7, (), y3.1.1, (wr .i64 (iadd s_10 1)), y3.1.2.1, ()), (o0, ()))
 else
 some ((some 0), (s_0, s_1, s_2, s_6, s_7, (), s_9, s_10, s_11, ()), (o0, ()))
def layout_Solve_L3f (n : Nat) (s : ((List GLine) × (List (List Int)) × (List Int) × (List Int) × Int × Unit × (List Int) × Int × Bool × Unit) × ((Int × Int × Unit) × Unit)) := layout_Solve_L3 n s.1.1 s.1.2.1 s.1.2.2.1 s.1.2.2.2.1 s.1.2.2.2.2.1 s.1.2.2.2.2.2.1 s.1.2.2.2.2.2.2.1 s.1.2.2.2.2.2.2.2.1 s.1.2.2.2.2.2.2.2.2.1 s.2.1
def layout_Solve_L3m (n : Nat) : LM := ⟨96, [(0, (.ty (.sl .line))), (1, (.ty (.sl (.sl (.i .i64))))), (2, (.ty (.sl (.i .i64)))), (6, (.own (.i .i64))), (7, (.ty (.i .i64))), (8, (.ptr 0 0)), (9, (.ty (.sl (.i .i64)))), (10, (.ty (.i .i64))), (11, (.ty .b))], [(.box [(.ty (.i .i64)), (.ty (.i .i64))])], [.exit 0], fun x o => iter (layout_Solve_L3f n) n (x, o)⟩
def layout_Solve_L11 (n : Nat) (s_6 : (List Int)) (s_7 : Int) (s_8 : Unit) (s_9 : (List Int)) (s_10 : Int) (s_12 : ((List GLine) × (List (List Int)) × (List Int) × (List Bool) × (List Int) × Unit)) (s_56 : (List GLine)) (s_57 : Int) (s_58 : Int) (o0 : (Int × Int × Unit)) : Option (Option Nat × ((List Int) × Int × Unit × (List Int) × Int × ((List GLine) × (List (List Int)) × (List Int) × (List Bool) × (List Int) × Unit) × (List GLine) × Int × Int × Unit) × ((Int × Int × Unit) × Unit)) :=
 bif (ilt s_58 s_57) then
 chk (inside s_58 (iof (@xlen .line s_56))) (
 let x7 : GLine := (@xget .line s_56 (Int.toNat s_58))
 bif (bNot (layout_Reaches x7)) then
 some (none, (s_6, s_7, (), s_9, s_10, (s_12.1, s_12.2.1, s_12.2.2.1, s_12.2.2.2.1, s_12.2.2.2.2.1, ()), s_56, s_57, (wr .i64 (iadd s_58 1)), ()), (o0, ()))
 else
 chk (inside s_58 (iof (@xlen (.i .i64) s_9))) (
 ((layout_Desk_Offseto n (s_12.1, s_12.2.1, s_12.2.2.1, s_12.2.2.2.1, s_12.2.2.2.2.1, ()) s_58 (@xget (.i .i64) s_9 (Int.toNat s_58)))).bind fun y8 =>
 chk (bNot (bAnd (bNot (inside s_58 (iof (@xlen (.i .i64) s_9)))) (bNot (bNot y8.1.2.1)))) (
 ((bif (bNot (bNot y8.1.2.1)) then (layout_Desk_Fitso (s_12.1, s_12.2.1, s_12.2.2.1, s_12.2.2.2.1, s_12.2.2.2.2.1, ()) s_58 (@xget (.i .i64) s_9 (Int.toNat s_58)) y8.1.1) else (some (dfS (.ty .b), dfObs [])))).bind fun y9 =>
 bif (bif (bNot y8.1.2.1) then true else (bNot y9.1)) then
 some ((some 1), (([] : List Int), (0 : Int), (), s_9, s_10, (s_12.1, s_12.2.1, s_12.2.2.1, s_12.2.2.2.1, s_12.2.2.2.2.1, ()), s_56, s_57, s_58, ()), (((8 : Int), (wr .i64 (iadd s_58 1)), ()), ()))
 else
 some (none, (s_6, s_7, (), s_9, s_10, (s_12.1, s_12.2.1, s_12.2.2.1, s_12.2.2.2.1, s_12.2.2.2.2.1, ()), s_56, s_57, (wr .i64 (iadd s_58 1)), ()), (o0, ())))))
 else
 some ((some 0), (s_6, s_7, (), s_9, s_10, (s_12.1, s_12.2.1, s_12.2.2.1, s_12.2.2.2.1, s_12.2.2.2.2.1, ()), s_56, s_57, s_58, ()), (o0, ()))
def layout_Solve_L11f (n : Nat) (s : ((List Int) × Int × Unit × (List Int) × Int × ((List GLine) × (List (List Int)) × (List Int) × (List Bool) × (List Int) × Unit) × (List GLine) × Int × Int × Unit) × ((Int × Int × Unit) × Unit)) := layout_Solve_L11 n s.1.1 s.1.2.1 s.1.2.2.1 s.1.2.2.2.1 s.1.2.2.2.2.1 s.1.2.2.2.2.2.1 s.1.2.2.2.2.2.2.1 s.1.2.2.2.2.2.2.2.1 s.1.2.2.2.2.2.2.2.2.1 s.2.1
def layout_Solve_L11m (n : Nat) : LM := ⟨96, [(6, (.own (.i .i64))), (7, (.ty (.i .i64))), (8, (.ptr 0 0)), (9, (.ty (.sl (.i .i64)))), (10, (.ty (.i .i64))), (12, (.rp [(.ty (.sl .line)), (.ty (.sl (.sl (.i .i64)))), (.ty (.sl (.i .i64))), (.ty (.sl .b)), (.ty (.sl (.i .i64)))])), (56, (.ty (.sl .line))), (57, (.ty (.i .i64))), (58, (.ty (.i .i64)))], [(.box [(.ty (.i .i64)), (.ty (.i .i64))])], [.exit 2, .ret], fun x o => iter (layout_Solve_L11f n) n (x, o)⟩
def layout_Solveo (n : Nat) (s0 : (List GLine)) (s1 : (List (List Int))) (s2 : (List Int)) : Option (((List Int) × Int × (Int × Int × Unit) × Unit) × Unit) :=
 ((layout_Starto n s0)).bind fun y1 =>
 ((iter (layout_Solve_L3f n) n ((s0, s1, s2, ([] : List Int), (0 : Int), (), y1.1, (0 : Int), true, ()), (((0 : Int), (0 : Int), ()), ())))).bind fun z4 =>
 ((layout_Newo n z4.2.1.1 z4.2.1.2.2.2.2.2.2.1 z4.2.1.2.1 z4.2.1.2.2.1)).bind fun y5 =>
 ((layout_Sizeso n z4.2.1.1 z4.2.1.2.2.2.2.2.2.1 z4.2.1.2.1)).bind fun y6 =>
 chk (inside (iof (@xlen .line z4.2.1.1)) (iof (@xlen (.i .i64) y5.1.2.2.2.2.1))) (
 chk (inside (iof (@xlen .line z4.2.1.1)) (iof (@xlen (.i .i64) y6.1))) (
 bif (ilt 1048576 (wr .i64 (iadd (@xget (.i .i64) y5.1.2.2.2.2.1 (Int.toNat (iof (@xlen .line z4.2.1.1)))) (@xget (.i .i64) y6.1 (Int.toNat (iof (@xlen .line z4.2.1.1))))))) then
 some ((([] : List Int), (0 : Int), ((2 : Int), (0 : Int), ()), ()), ())
 else
 ((iter (layout_Solve_L11f n) n ((z4.2.1.2.2.2.1, z4.2.1.2.2.2.2.1, (), z4.2.1.2.2.2.2.2.2.1, z4.2.1.2.2.2.2.2.2.2.1, y5.1, z4.2.1.1, (iof (@xlen .line z4.2.1.1)), (0 : Int), ()), (z4.2.2.1, ())))).bind fun z10 =>
 bif (Nat.beq z10.1 0) then
 some ((z10.2.1.2.2.2.1, z10.2.1.2.2.2.2.1, ((0 : Int), (0 : Int), ()), ()), ())
 else
 some ((z10.2.1.1, z10.2.1.2.1, z10.2.2.1, ()), ())))
def layout_Solve_fm (n : Nat) : FM := ⟨[(.ty (.sl .line)), (.ty (.sl (.sl (.i .i64)))), (.ty (.sl (.i .i64)))], [], (.tup [(.ty (.sl (.i .i64))), (.ty (.i .i64)), (.agg [(.ty (.i .i64)), (.ty (.i .i64))])]), true, none, fun a o => layout_Solveo n a.1 a.2.1 a.2.2.1⟩
def layout_Solve_cx (n : Nat) : Cx := ⟨ti, ty, gl, fun g => find [] g [(9, [layout_Start_fm n]), (13, [layout_Grow_fm n]), (31, [layout_New_fm n]), (16, [layout_Sizes_fm n]), (26, [layout_Reaches_fm]), (32, [layout_Desk_Offset_fm n]), (33, [layout_Desk_Fits_fm])], fun k => find none k [(3, some (layout_Solve_L3m n)), (11, some (layout_Solve_L11m n))], [], false, false⟩
theorem layout_Solve_L3r (n : Nat) (s : FrT (layout_Solve_L3m n).fs × ObTs (layout_Solve_L3m n).os) : layout_Solve_L3f n s = roundF { layout_Solve_cx n with res := [] } (loopOf Tryz.f12 3) (layout_Solve_L3m n) s.1 s.2 := by kernel_rfl
theorem layout_Solve_L11r (n : Nat) (s : FrT (layout_Solve_L11m n).fs × ObTs (layout_Solve_L11m n).os) : layout_Solve_L11f n s = roundF { layout_Solve_cx n with res := [] } (loopOf Tryz.f12 11) (layout_Solve_L11m n) s.1 s.2 := by kernel_rfl
theorem layout_Solve_ev (n : Nat) (a : ShTs (layout_Solve_fm n).ash) (o : ObTs (layout_Solve_fm n).os) : evalF (layout_Solve_cx n) Tryz.f12 (layout_Solve_fm n) a o = (layout_Solve_fm n).run a o := by kernel_rfl
def ref01_Ints_L4 (n : Nat) (a_0 : (List Int)) (b_1 : (List Int)) (s_4 : Bool) (i_5 : Int) : Option (Option Nat × ((List Int) × (List Int) × Bool × Int × Unit) × Unit) :=
 bif (ilt i_5 (iof (@xlen (.i .i64) a_0))) then
 chk (inside i_5 (iof (@xlen (.i .i64) a_0))) (
 chk (inside i_5 (iof (@xlen (.i .i64) b_1))) (
 bif (bNot (ieq (@xget (.i .i64) a_0 (Int.toNat i_5)) (@xget (.i .i64) b_1 (Int.toNat i_5)))) then
 some ((some 1), (a_0, b_1, false, i_5, ()), ())
 else
 some (none, (a_0, b_1, s_4, (wr .i64 (iadd i_5 1)), ()), ())))
 else
 some ((some 0), (a_0, b_1, s_4, i_5, ()), ())
def ref01_Ints_L4f (n : Nat) (s : ((List Int) × (List Int) × Bool × Int × Unit) × Unit) := ref01_Ints_L4 n s.1.1 s.1.2.1 s.1.2.2.1 s.1.2.2.2.1
def ref01_Ints_L4m (n : Nat) : LM := ⟨26, [(0, (.ty (.sl (.i .i64)))), (1, (.ty (.sl (.i .i64)))), (4, (.ty .b)), (5, (.ty (.i .i64)))], [], [.exit 0, .ret], fun x o => iter (ref01_Ints_L4f n) n (x, o)⟩
def ref01_Intso (n : Nat) (a0 : (List Int)) (b1 : (List Int)) : Option (Bool × Unit) :=
 bif (bNot (ieq (iof (@xlen (.i .i64) a0)) (iof (@xlen (.i .i64) b1)))) then
 some (false, ())
 else
 ((iter (ref01_Ints_L4f n) n ((a0, b1, false, (0 : Int), ()), ()))).bind fun z1 =>
 bif (Nat.beq z1.1 0) then
 some (true, ())
 else
 some (z1.2.1.2.2.1, ())
def ref01_Ints_fm (n : Nat) : FM := ⟨[(.ty (.sl (.i .i64))), (.ty (.sl (.i .i64)))], [], (.ty .b), true, none, fun a o => ref01_Intso n a.1 a.2.1⟩
def ref01_Ints_cx (n : Nat) : Cx := ⟨ti, ty, gl, fun g => find [] g [], fun k => find none k [(4, some (ref01_Ints_L4m n))], [], false, false⟩
theorem ref01_Ints_L4r (n : Nat) (s : FrT (ref01_Ints_L4m n).fs × ObTs (ref01_Ints_L4m n).os) : ref01_Ints_L4f n s = roundF { ref01_Ints_cx n with res := [] } (loopOf Tryz.f8 4) (ref01_Ints_L4m n) s.1 s.2 := by kernel_rfl
theorem ref01_Ints_ev (n : Nat) (a : ShTs (ref01_Ints_fm n).ash) (o : ObTs (ref01_Ints_fm n).os) : evalF (ref01_Ints_cx n) Tryz.f8 (ref01_Ints_fm n) a o = (ref01_Ints_fm n).run a o := by kernel_rfl
def law23_awakeo (n : Nat) : Option (Bool × Unit) :=
 ((layout_Solveo n ([(⟨(⟨#[]⟩ : ByteArray), 1, (⟨35, 14, 0, 0, 0, 0, 1, 0, false⟩ : GIns), 14, (⟨#[120]⟩ : ByteArray), false, 0, (GExpr.mk 0 0 (⟨#[]⟩ : ByteArray) ([] : List GExpr))⟩ : GLine), (⟨(⟨#[]⟩ : ByteArray), 7, (⟨0, 0, 0, 0, 0, 0, 0, 0, false⟩ : GIns), 0, (⟨#[]⟩ : ByteArray), false, 3000, (GExpr.mk 0 0 (⟨#[]⟩ : ByteArray) ([] : List GExpr))⟩ : GLine), (⟨(⟨#[120]⟩ : ByteArray), 0, (⟨0, 0, 0, 0, 0, 0, 0, 0, false⟩ : GIns), 0, (⟨#[]⟩ : ByteArray), false, 0, (GExpr.mk 0 0 (⟨#[]⟩ : ByteArray) ([] : List GExpr))⟩ : GLine)] : List GLine) ([([] : List Int)] : List (List Int)) ([0, 0, 0] : List Int))).bind fun y1 =>
 ((layout_Sizeso n ([(⟨(⟨#[]⟩ : ByteArray), 1, (⟨35, 14, 0, 0, 0, 0, 1, 0, false⟩ : GIns), 14, (⟨#[120]⟩ : ByteArray), false, 0, (GExpr.mk 0 0 (⟨#[]⟩ : ByteArray) ([] : List GExpr))⟩ : GLine), (⟨(⟨#[]⟩ : ByteArray), 7, (⟨0, 0, 0, 0, 0, 0, 0, 0, false⟩ : GIns), 0, (⟨#[]⟩ : ByteArray), false, 3000, (GExpr.mk 0 0 (⟨#[]⟩ : ByteArray) ([] : List GExpr))⟩ : GLine), (⟨(⟨#[120]⟩ : ByteArray), 0, (⟨0, 0, 0, 0, 0, 0, 0, 0, false⟩ : GIns), 0, (⟨#[]⟩ : ByteArray), false, 0, (GExpr.mk 0 0 (⟨#[]⟩ : ByteArray) ([] : List GExpr))⟩ : GLine)] : List GLine) y1.1.1 ([([] : List Int)] : List (List Int)))).bind fun y2 =>
 ((layout_Starto n ([(⟨(⟨#[]⟩ : ByteArray), 1, (⟨35, 14, 0, 0, 0, 0, 1, 0, false⟩ : GIns), 14, (⟨#[120]⟩ : ByteArray), false, 0, (GExpr.mk 0 0 (⟨#[]⟩ : ByteArray) ([] : List GExpr))⟩ : GLine), (⟨(⟨#[]⟩ : ByteArray), 7, (⟨0, 0, 0, 0, 0, 0, 0, 0, false⟩ : GIns), 0, (⟨#[]⟩ : ByteArray), false, 3000, (GExpr.mk 0 0 (⟨#[]⟩ : ByteArray) ([] : List GExpr))⟩ : GLine), (⟨(⟨#[120]⟩ : ByteArray), 0, (⟨0, 0, 0, 0, 0, 0, 0, 0, false⟩ : GIns), 0, (⟨#[]⟩ : ByteArray), false, 0, (GExpr.mk 0 0 (⟨#[]⟩ : ByteArray) ([] : List GExpr))⟩ : GLine)] : List GLine))).bind fun y3 =>
 ((layout_Growo n ([(⟨(⟨#[]⟩ : ByteArray), 1, (⟨35, 14, 0, 0, 0, 0, 1, 0, false⟩ : GIns), 14, (⟨#[120]⟩ : ByteArray), false, 0, (GExpr.mk 0 0 (⟨#[]⟩ : ByteArray) ([] : List GExpr))⟩ : GLine), (⟨(⟨#[]⟩ : ByteArray), 7, (⟨0, 0, 0, 0, 0, 0, 0, 0, false⟩ : GIns), 0, (⟨#[]⟩ : ByteArray), false, 3000, (GExpr.mk 0 0 (⟨#[]⟩ : ByteArray) ([] : List GExpr))⟩ : GLine), (⟨(⟨#[120]⟩ : ByteArray), 0, (⟨0, 0, 0, 0, 0, 0, 0, 0, false⟩ : GIns), 0, (⟨#[]⟩ : ByteArray), false, 0, (GExpr.mk 0 0 (⟨#[]⟩ : ByteArray) ([] : List GExpr))⟩ : GLine)] : List GLine) y3.1 ([([] : List Int)] : List (List Int)) ([0, 0, 0] : List Int))).bind fun y4 =>
 ((bif (bif (bAnd (ieq y1.1.2.2.1.1 0) (bAnd (ieq y1.1.2.2.1.2.1 0) true)) then (ieq y1.1.2.1 2) else false) then (ref01_Intso n y1.1.1 ([1, 0, 0] : List Int)) else (some (dfS (.ty .b), dfObs [])))).bind fun y5 =>
 ((bif (bif (bif (bAnd (ieq y1.1.2.2.1.1 0) (bAnd (ieq y1.1.2.2.1.2.1 0) true)) then (ieq y1.1.2.1 2) else false) then y5.1 else false) then (ref01_Intso n y2.1 ([4, 3000, 0, 0] : List Int)) else (some (dfS (.ty .b), dfObs [])))).bind fun y6 =>
 ((bif (bif (bif (bif (bAnd (ieq y1.1.2.2.1.1 0) (bAnd (ieq y1.1.2.2.1.2.1 0) true)) then (ieq y1.1.2.1 2) else false) then y5.1 else false) then y6.1 else false) then (layout_Addresseso n ([(⟨(⟨#[]⟩ : ByteArray), 1, (⟨35, 14, 0, 0, 0, 0, 1, 0, false⟩ : GIns), 14, (⟨#[120]⟩ : ByteArray), false, 0, (GExpr.mk 0 0 (⟨#[]⟩ : ByteArray) ([] : List GExpr))⟩ : GLine), (⟨(⟨#[]⟩ : ByteArray), 7, (⟨0, 0, 0, 0, 0, 0, 0, 0, false⟩ : GIns), 0, (⟨#[]⟩ : ByteArray), false, 3000, (GExpr.mk 0 0 (⟨#[]⟩ : ByteArray) ([] : List GExpr))⟩ : GLine), (⟨(⟨#[120]⟩ : ByteArray), 0, (⟨0, 0, 0, 0, 0, 0, 0, 0, false⟩ : GIns), 0, (⟨#[]⟩ : ByteArray), false, 0, (GExpr.mk 0 0 (⟨#[]⟩ : ByteArray) ([] : List GExpr))⟩ : GLine)] : List GLine) y2.1) else (some (dfS (.own (.i .i64)), dfObs [])))).bind fun y7 =>
 ((bif (bif (bif (bif (bAnd (ieq y1.1.2.2.1.1 0) (bAnd (ieq y1.1.2.2.1.2.1 0) true)) then (ieq y1.1.2.1 2) else false) then y5.1 else false) then y6.1 else false) then (ref01_Intso n y7.1 ([0, 4, 3004, 3004] : List Int)) else (some (dfS (.ty .b), dfObs [])))).bind fun y8 =>
 ((bif (bif (bif (bif (bif (bif (bAnd (ieq y1.1.2.2.1.1 0) (bAnd (ieq y1.1.2.2.1.2.1 0) true)) then (ieq y1.1.2.1 2) else false) then y5.1 else false) then y6.1 else false) then y8.1 else false) then y4.1.2.1 else false) then (ref01_Intso n y4.1.1 y1.1.1) else (some (dfS (.ty .b), dfObs [])))).bind fun y9 =>
 some ((bif (bif (bif (bif (bif (bif (bAnd (ieq y1.1.2.2.1.1 0) (bAnd (ieq y1.1.2.2.1.2.1 0) true)) then (ieq y1.1.2.1 2) else false) then y5.1 else false) then y6.1 else false) then y8.1 else false) then y4.1.2.1 else false) then y9.1 else false), ())
def law23_awake_fm (n : Nat) : FM := ⟨[], [], (.ty .b), true, none, fun a o => law23_awakeo n ⟩
def law23_awake_cx (n : Nat) : Cx := ⟨ti, ty, gl, fun g => find [] g [(12, [layout_Solve_fm n]), (16, [layout_Sizes_fm n]), (9, [layout_Start_fm n]), (13, [layout_Grow_fm n]), (8, [ref01_Ints_fm n]), (15, [layout_Addresses_fm n])], fun k => find none k [], [], false, false⟩
theorem law23_awake_ev (n : Nat) (a : ShTs (law23_awake_fm n).ash) (o : ObTs (law23_awake_fm n).os) : evalF (law23_awake_cx n) Tryz.f7 (law23_awake_fm n) a o = (law23_awake_fm n).run a o := by kernel_rfl
def ref21_inso (l0 : GLine) : Option (Bool × Unit) :=
 some ((bif (ieq l0.kind 1) then true else (ieq l0.kind 2)), ())
theorem ref21_ins_tot (l0 : GLine) : ∃ r, ref21_inso l0 = some (r, ()) := by
 unfold ref21_inso
 repeat' (first | exact ⟨_, rfl⟩ | refine ex_bif ?_ ?_)
def ref21_ins (l0 : GLine) : Bool := ((ref21_inso l0).map Prod.fst).getD (dfS (.ty .b))
theorem ref21_ins_eq (l0 : GLine) : ref21_inso l0 = some (ref21_ins l0, ()) := by
 obtain ⟨r, h⟩ := ref21_ins_tot l0
 unfold ref21_ins; rw [h]; rfl
def ref21_ins_fm : FM := ⟨[(.ty .line)], [], (.ty .b), true, some (fun a o => ref21_ins a.1), fun a o => some (ref21_ins a.1, o)⟩
def ref21_ins_cx : Cx := ⟨ti, ty, gl, fun g => find [] g [], fun k => find none k [], [], false, false⟩
theorem ref21_ins_ev (a : ShTs (ref21_ins_fm).ash) (o : ObTs (ref21_ins_fm).os) : evalF (ref21_ins_cx) Tryz.f66 (ref21_ins_fm) a o = ref21_inso a.1 := by kernel_rfl
theorem ref21_ins_evt (a : ShTs (ref21_ins_fm).ash) (o : ObTs (ref21_ins_fm).os) : evalF (ref21_ins_cx) Tryz.f66 (ref21_ins_fm) a o = (ref21_ins_fm).run a o := (ref21_ins_ev a o).trans (ref21_ins_eq a.1)
def ref21_beginso (l0 : GLine) : Option (Bool × Unit) :=
 some ((bif (ieq l0.kind 1) then (ieq l0.ins.op 42) else false), ())
theorem ref21_begins_tot (l0 : GLine) : ∃ r, ref21_beginso l0 = some (r, ()) := by
 unfold ref21_beginso
 repeat' (first | exact ⟨_, rfl⟩ | refine ex_bif ?_ ?_)
def ref21_begins (l0 : GLine) : Bool := ((ref21_beginso l0).map Prod.fst).getD (dfS (.ty .b))
theorem ref21_begins_eq (l0 : GLine) : ref21_beginso l0 = some (ref21_begins l0, ()) := by
 obtain ⟨r, h⟩ := ref21_begins_tot l0
 unfold ref21_begins; rw [h]; rfl
def ref21_begins_fm : FM := ⟨[(.ty .line)], [], (.ty .b), true, some (fun a o => ref21_begins a.1), fun a o => some (ref21_begins a.1, o)⟩
def ref21_begins_cx : Cx := ⟨ti, ty, gl, fun g => find [] g [], fun k => find none k [], [], false, false⟩
theorem ref21_begins_ev (a : ShTs (ref21_begins_fm).ash) (o : ObTs (ref21_begins_fm).os) : evalF (ref21_begins_cx) Tryz.f67 (ref21_begins_fm) a o = ref21_beginso a.1 := by kernel_rfl
theorem ref21_begins_evt (a : ShTs (ref21_begins_fm).ash) (o : ObTs (ref21_begins_fm).os) : evalF (ref21_begins_cx) Tryz.f67 (ref21_begins_fm) a o = (ref21_begins_fm).run a o := (ref21_begins_ev a o).trans (ref21_begins_eq a.1)
def ref21_conds_L4 (n : Nat) (l_0 : (List GLine)) (s_2 : (List Int)) (out_3 : (List Int)) (left_4 : (List Int)) (i_5 : Int) : Option (Option Nat × ((List GLine) × (List Int) × (List Int) × (List Int) × Int × Unit) × Unit) :=
 bif (ilt i_5 (iof (@xlen .line l_0))) then
 chk (inside i_5 (iof (@xlen .line l_0))) (
 let x6 : GLine := (@xget .line l_0 (Int.toNat i_5))
 bif (bNot (ref21_ins x6)) then
 chk (room ((@xlen (.i .i64) out_3) + (@xlen (.i .i64) ([(-1)] : List Int))) 8) (
 some (none, (l_0, s_2, (@xapp (.i .i64) out_3 ([(-1)] : List Int)), left_4, (wr .i64 (iadd i_5 1)), ()), ()))
 else
 bif (ilt 0 (iof (@xlen (.i .i64) left_4))) then
 chk (inside 0 (iof (@xlen (.i .i64) left_4))) (
 chk (bounds 1 (iof (@xlen (.i .i64) left_4)) (iof (@xlen (.i .i64) left_4))) (
 chk (room ((@xlen (.i .i64) out_3) + (@xlen (.i .i64) ([(@xget (.i .i64) left_4 0)] : List Int))) 8) (
 some (none, (l_0, s_2, (@xapp (.i .i64) out_3 ([(@xget (.i .i64) left_4 0)] : List Int)), (@xdrop (.i .i64) left_4 1), (wr .i64 (iadd i_5 1)), ()), ()))))
 else
 chk (inside i_5 (iof (@xlen .line l_0))) (
 let x7 : GLine := (@xget .line l_0 (Int.toNat i_5))
 bif (ref21_begins x7) then
 chk (inside i_5 (iof (@xlen .line l_0))) (
 let x8 : GLine := (@xget .line l_0 (Int.toNat i_5))
 chk (inside i_5 (iof (@xlen .line l_0))) (
 let x9 : GLine := (@xget .line l_0 (Int.toNat i_5))
 ((ref04_Condso n x8.ins.cond x9.ins.imm)).bind fun y10 =>
 chk (room ((@xlen (.i .i64) out_3) + (@xlen (.i .i64) ([(-1)] : List Int))) 8) (
 some (none, (l_0, s_2, (@xapp (.i .i64) out_3 ([(-1)] : List Int)), y10.1, (wr .i64 (iadd i_5 1)), ()), ()))))
 else
 chk (room ((@xlen (.i .i64) out_3) + (@xlen (.i .i64) ([(-1)] : List Int))) 8) (
 some (none, (l_0, s_2, (@xapp (.i .i64) out_3 ([(-1)] : List Int)), left_4, (wr .i64 (iadd i_5 1)), ()), ()))))
 else
 some ((some 0), (l_0, s_2, out_3, left_4, i_5, ()), ())
def ref21_conds_L4f (n : Nat) (s : ((List GLine) × (List Int) × (List Int) × (List Int) × Int × Unit) × Unit) := ref21_conds_L4 n s.1.1 s.1.2.1 s.1.2.2.1 s.1.2.2.2.1 s.1.2.2.2.2.1
def ref21_conds_L4m (n : Nat) : LM := ⟨53, [(0, (.ty (.sl .line))), (2, (.own (.i .i64))), (3, (.own (.i .i64))), (4, (.ty (.sl (.i .i64)))), (5, (.ty (.i .i64)))], [], [.exit 0], fun x o => iter (ref21_conds_L4f n) n (x, o)⟩
def ref21_condso (n : Nat) (l0 : (List GLine)) : Option ((List Int) × Unit) :=
 ((iter (ref21_conds_L4f n) n ((l0, ([] : List Int), ([] : List Int), ([] : List Int), (0 : Int), ()), ()))).bind fun z11 =>
 some (z11.2.1.2.2.1, ())
def ref21_conds_fm (n : Nat) : FM := ⟨[(.ty (.sl .line))], [], (.own (.i .i64)), true, none, fun a o => ref21_condso n a.1⟩
def ref21_conds_cx (n : Nat) : Cx := ⟨ti, ty, gl, fun g => find [] g [(66, [ref21_ins_fm]), (67, [ref21_begins_fm]), (68, [ref04_Conds_fm n])], fun k => find none k [(4, some (ref21_conds_L4m n))], [], false, true⟩
theorem ref21_conds_L4r (n : Nat) (s : FrT (ref21_conds_L4m n).fs × ObTs (ref21_conds_L4m n).os) : ref21_conds_L4f n s = roundF { ref21_conds_cx n with res := [] } (loopOf Tryz.f35 4) (ref21_conds_L4m n) s.1 s.2 := by kernel_rfl
theorem ref21_conds_ev (n : Nat) (a : ShTs (ref21_conds_fm n).ash) (o : ObTs (ref21_conds_fm n).os) : evalF (ref21_conds_cx n) Tryz.f35 (ref21_conds_fm n) a o = (ref21_conds_fm n).run a o := by kernel_rfl
def ref21_Inside_L4 (n : Nat) (s_2 : (List Bool)) (out_3 : (List Bool)) (c_4 : (List Int)) (i_5 : Int) : Option (Option Nat × ((List Bool) × (List Bool) × (List Int) × Int × Unit) × Unit) :=
 bif (ilt i_5 (iof (@xlen (.i .i64) c_4))) then
 chk (inside i_5 (iof (@xlen (.i .i64) c_4))) (
 chk (room ((@xlen .b out_3) + (@xlen .b ([(ile 0 (@xget (.i .i64) c_4 (Int.toNat i_5)))] : List Bool))) 1) (
 some (none, (s_2, (@xapp .b out_3 ([(ile 0 (@xget (.i .i64) c_4 (Int.toNat i_5)))] : List Bool)), c_4, (wr .i64 (iadd i_5 1)), ()), ())))
 else
 some ((some 0), (s_2, out_3, c_4, i_5, ()), ())
def ref21_Inside_L4f (n : Nat) (s : ((List Bool) × (List Bool) × (List Int) × Int × Unit) × Unit) := ref21_Inside_L4 n s.1.1 s.1.2.1 s.1.2.2.1 s.1.2.2.2.1
def ref21_Inside_L4m (n : Nat) : LM := ⟨23, [(2, (.own .b)), (3, (.own .b)), (4, (.own (.i .i64))), (5, (.ty (.i .i64)))], [], [.exit 0], fun x o => iter (ref21_Inside_L4f n) n (x, o)⟩
def ref21_Insideo (n : Nat) (l0 : (List GLine)) : Option ((List Bool) × Unit) :=
 ((ref21_condso n l0)).bind fun y1 =>
 ((iter (ref21_Inside_L4f n) n ((([] : List Bool), ([] : List Bool), y1.1, (0 : Int), ()), ()))).bind fun z2 =>
 some (z2.2.1.2.1, ())
def ref21_Inside_fm (n : Nat) : FM := ⟨[(.ty (.sl .line))], [], (.own .b), true, none, fun a o => ref21_Insideo n a.1⟩
def ref21_Inside_cx (n : Nat) : Cx := ⟨ti, ty, gl, fun g => find [] g [(35, [ref21_conds_fm n])], fun k => find none k [(4, some (ref21_Inside_L4m n))], [], false, true⟩
theorem ref21_Inside_L4r (n : Nat) (s : FrT (ref21_Inside_L4m n).fs × ObTs (ref21_Inside_L4m n).os) : ref21_Inside_L4f n s = roundF { ref21_Inside_cx n with res := [] } (loopOf Tryz.f14 4) (ref21_Inside_L4m n) s.1 s.2 := by kernel_rfl
theorem ref21_Inside_ev (n : Nat) (a : ShTs (ref21_Inside_fm n).ash) (o : ObTs (ref21_Inside_fm n).os) : evalF (ref21_Inside_cx n) Tryz.f14 (ref21_Inside_fm n) a o = (ref21_Inside_fm n).run a o := by kernel_rfl
def ref06_Lowo (r0 : Int) : Option (Bool × Unit) :=
 some ((bif (ile 0 r0) then (ile r0 7) else false), ())
theorem ref06_Low_tot (r0 : Int) : ∃ r, ref06_Lowo r0 = some (r, ()) := by
 unfold ref06_Lowo
 repeat' (first | exact ⟨_, rfl⟩ | refine ex_bif ?_ ?_)
def ref06_Low (r0 : Int) : Bool := ((ref06_Lowo r0).map Prod.fst).getD (dfS (.ty .b))
theorem ref06_Low_eq (r0 : Int) : ref06_Lowo r0 = some (ref06_Low r0, ()) := by
 obtain ⟨r, h⟩ := ref06_Low_tot r0
 unfold ref06_Low; rw [h]; rfl
def ref06_Low_fm : FM := ⟨[(.ty (.i .i64))], [], (.ty .b), true, some (fun a o => ref06_Low a.1), fun a o => some (ref06_Low a.1, o)⟩
def ref06_Low_cx : Cx := ⟨ti, ty, gl, fun g => find [] g [], fun k => find none k [], [], false, false⟩
theorem ref06_Low_ev (a : ShTs (ref06_Low_fm).ash) (o : ObTs (ref06_Low_fm).os) : evalF (ref06_Low_cx) Tryz.f28 (ref06_Low_fm) a o = ref06_Lowo a.1 := by kernel_rfl
theorem ref06_Low_evt (a : ShTs (ref06_Low_fm).ash) (o : ObTs (ref06_Low_fm).os) : evalF (ref06_Low_cx) Tryz.f28 (ref06_Low_fm) a o = (ref06_Low_fm).run a o := (ref06_Low_ev a o).trans (ref06_Low_eq a.1)
def ref23_Reacheso (l0 : GLine) : Option (Bool × Unit) :=
 some ((bif (ieq l0.kind 2) then true else (bif (ieq l0.kind 1) then (bif (bif (bif (bif (bif (ieq l0.ins.op 40) then true else (ieq l0.ins.op 41)) then true else (ieq l0.ins.op 35)) then true else (ieq l0.ins.op 36)) then true else (ieq l0.ins.op 37)) then true else (ieq l0.ins.op 38)) else false)), ())
theorem ref23_Reaches_tot (l0 : GLine) : ∃ r, ref23_Reacheso l0 = some (r, ()) := by
 unfold ref23_Reacheso
 repeat' (first | exact ⟨_, rfl⟩ | refine ex_bif ?_ ?_)
def ref23_Reaches (l0 : GLine) : Bool := ((ref23_Reacheso l0).map Prod.fst).getD (dfS (.ty .b))
theorem ref23_Reaches_eq (l0 : GLine) : ref23_Reacheso l0 = some (ref23_Reaches l0, ()) := by
 obtain ⟨r, h⟩ := ref23_Reaches_tot l0
 unfold ref23_Reaches; rw [h]; rfl
def ref23_Reaches_fm : FM := ⟨[(.ty .line)], [], (.ty .b), true, some (fun a o => ref23_Reaches a.1), fun a o => some (ref23_Reaches a.1, o)⟩
def ref23_Reaches_cx : Cx := ⟨ti, ty, gl, fun g => find [] g [], fun k => find none k [], [], false, false⟩
theorem ref23_Reaches_ev (a : ShTs (ref23_Reaches_fm).ash) (o : ObTs (ref23_Reaches_fm).os) : evalF (ref23_Reaches_cx) Tryz.f17 (ref23_Reaches_fm) a o = ref23_Reacheso a.1 := by kernel_rfl
theorem ref23_Reaches_evt (a : ShTs (ref23_Reaches_fm).ash) (o : ObTs (ref23_Reaches_fm).os) : evalF (ref23_Reaches_cx) Tryz.f17 (ref23_Reaches_fm) a o = (ref23_Reaches_fm).run a o := (ref23_Reaches_ev a o).trans (ref23_Reaches_eq a.1)
def ref06_fieldso (s0 : Int) : Option (ByteArray × Unit) :=
 bif (bif (bif (ile 1 s0) then (ile s0 9) else false) then true else (bif (ile 16 s0) then (ile s0 19) else false)) then
 some ((⟨#[100, 110, 109, 115]⟩ : ByteArray), ())
 else
 bif (bif (ieq s0 10) then true else (ieq s0 11)) then
 some ((⟨#[100, 109, 115]⟩ : ByteArray), ())
 else
 bif (bif (ile 12 s0) then (ile s0 15) else false) then
 some ((⟨#[110, 109]⟩ : ByteArray), ())
 else
 bif (bif (bif (ile 20 s0) then (ile s0 22) else false) then true else (bif (ile 25 s0) then (ile s0 30) else false)) then
 some ((⟨#[100, 110, 109]⟩ : ByteArray), ())
 else
 bif (bif (bif (bif (ieq s0 23) then true else (ieq s0 24)) then true else (ieq s0 40)) then true else (ieq s0 41)) then
 some ((⟨#[100, 109]⟩ : ByteArray), ())
 else
 bif (bif (ieq s0 31) then true else (ieq s0 32)) then
 some ((⟨#[110, 108]⟩ : ByteArray), ())
 else
 bif (bif (ieq s0 33) then true else (ieq s0 34)) then
 some ((⟨#[108]⟩ : ByteArray), ())
 else
 bif (bif (ieq s0 35) then true else (ieq s0 42)) then
 some ((⟨#[99, 109]⟩ : ByteArray), ())
 else
 bif (bif (bif (ieq s0 36) then true else (ieq s0 39)) then true else (ieq s0 44)) then
 some ((⟨#[109]⟩ : ByteArray), ())
 else
 bif (bif (bif (ieq s0 37) then true else (ieq s0 38)) then true else (ieq s0 45)) then
 some ((⟨#[110, 109]⟩ : ByteArray), ())
 else
 some ((⟨#[]⟩ : ByteArray), ())
theorem ref06_fields_tot (s0 : Int) : ∃ r, ref06_fieldso s0 = some (r, ()) := by
 unfold ref06_fieldso
 repeat' (first | exact ⟨_, rfl⟩ | refine ex_bif ?_ ?_)
def ref06_fields (s0 : Int) : ByteArray := ((ref06_fieldso s0).map Prod.fst).getD (dfS (.ty .s))
theorem ref06_fields_eq (s0 : Int) : ref06_fieldso s0 = some (ref06_fields s0, ()) := by
 obtain ⟨r, h⟩ := ref06_fields_tot s0
 unfold ref06_fields; rw [h]; rfl
def ref06_fields_fm : FM := ⟨[(.ty (.i .i64))], [], (.ty .s), true, some (fun a o => ref06_fields a.1), fun a o => some (ref06_fields a.1, o)⟩
def ref06_fields_cx : Cx := ⟨ti, ty, gl, fun g => find [] g [], fun k => find none k [], [], false, false⟩
theorem ref06_fields_ev (a : ShTs (ref06_fields_fm).ash) (o : ObTs (ref06_fields_fm).os) : evalF (ref06_fields_cx) Tryz.f85 (ref06_fields_fm) a o = ref06_fieldso a.1 := by kernel_rfl
theorem ref06_fields_evt (a : ShTs (ref06_fields_fm).ash) (o : ObTs (ref06_fields_fm).os) : evalF (ref06_fields_cx) Tryz.f85 (ref06_fields_fm) a o = (ref06_fields_fm).run a o := (ref06_fields_ev a o).trans (ref06_fields_eq a.1)
def ref06_bare_L3 (n : Nat) (fields_1 : ByteArray) (i_2 : Unit) (s_4 : Unit) (x_5 : Unit) (k_6 : Int) (o0 : (Int × Int × Int × Int × Int × Int × Int × Int × Bool × Unit)) (o1 : (Int × Int × Int × Int × Int × Int × Int × Int × Bool × Unit)) (o2 : (Int × Int × Int × Int × Int × Int × Int × Int × Bool × Unit)) : Option (Option Nat × (ByteArray × Unit × Unit × Unit × Int × Unit) × ((Int × Int × Int × Int × Int × Int × Int × Int × Bool × Unit) × (Int × Int × Int × Int × Int × Int × Int × Int × Bool × Unit) × (Int × Int × Int × Int × Int × Int × Int × Int × Bool × Unit) × Unit)) :=
 bif (ilt k_6 (slen fields_1)) then
 chk (inside k_6 (slen fields_1)) (
 bif (ieq (sget fields_1 k_6) 99) then
 some (none, (fields_1, (), (), (), (wr .i64 (iadd k_6 1)), ()), (o0, o1, (o2.1, o0.2.1, o2.2.2.1, o2.2.2.2.1, o2.2.2.2.2.1, o2.2.2.2.2.2.1, o2.2.2.2.2.2.2.1, o2.2.2.2.2.2.2.2.1, o2.2.2.2.2.2.2.2.2.1, ()), ()))
 else
 bif (ieq (sget fields_1 k_6) 100) then
 some (none, (fields_1, (), (), (), (wr .i64 (iadd k_6 1)), ()), (o0, o1, (o2.1, o2.2.1, o0.2.2.1, o2.2.2.2.1, o2.2.2.2.2.1, o2.2.2.2.2.2.1, o2.2.2.2.2.2.2.1, o2.2.2.2.2.2.2.2.1, o2.2.2.2.2.2.2.2.2.1, ()), ()))
 else
 bif (ieq (sget fields_1 k_6) 110) then
 some (none, (fields_1, (), (), (), (wr .i64 (iadd k_6 1)), ()), (o0, o1, (o2.1, o2.2.1, o2.2.2.1, o0.2.2.2.1, o2.2.2.2.2.1, o2.2.2.2.2.2.1, o2.2.2.2.2.2.2.1, o2.2.2.2.2.2.2.2.1, o2.2.2.2.2.2.2.2.2.1, ()), ()))
 else
 bif (ieq (sget fields_1 k_6) 109) then
 bif (ieq o0.2.2.2.2.2.2.1 2) then
 some (none, (fields_1, (), (), (), (wr .i64 (iadd k_6 1)), ()), (o0, o1, (o2.1, o2.2.1, o2.2.2.1, o2.2.2.2.1, o0.2.2.2.2.1, o2.2.2.2.2.2.1, o0.2.2.2.2.2.2.1, o2.2.2.2.2.2.2.2.1, o2.2.2.2.2.2.2.2.2.1, ()), ()))
 else
 some (none, (fields_1, (), (), (), (wr .i64 (iadd k_6 1)), ()), (o0, o1, (o2.1, o2.2.1, o2.2.2.1, o2.2.2.2.1, o2.2.2.2.2.1, o0.2.2.2.2.2.1, o0.2.2.2.2.2.2.1, o2.2.2.2.2.2.2.2.1, o2.2.2.2.2.2.2.2.2.1, ()), ()))
 else
 bif (ieq (sget fields_1 k_6) 108) then
 some (none, (fields_1, (), (), (), (wr .i64 (iadd k_6 1)), ()), (o0, o1, (o2.1, o2.2.1, o2.2.2.1, o2.2.2.2.1, o2.2.2.2.2.1, o2.2.2.2.2.2.1, o2.2.2.2.2.2.2.1, o0.2.2.2.2.2.2.2.1, o2.2.2.2.2.2.2.2.2.1, ()), ()))
 else
 bif (ieq (sget fields_1 k_6) 115) then
 some (none, (fields_1, (), (), (), (wr .i64 (iadd k_6 1)), ()), (o0, o1, (o2.1, o2.2.1, o2.2.2.1, o2.2.2.2.1, o2.2.2.2.2.1, o2.2.2.2.2.2.1, o2.2.2.2.2.2.2.1, o2.2.2.2.2.2.2.2.1, o0.2.2.2.2.2.2.2.2.1, ()), ()))
 else
 some (none, (fields_1, (), (), (), (wr .i64 (iadd k_6 1)), ()), (o0, o1, o2, ())))
 else
 some ((some 0), (fields_1, (), (), (), k_6, ()), (o0, o1, o2, ()))
def ref06_bare_L3f (n : Nat) (s : (ByteArray × Unit × Unit × Unit × Int × Unit) × ((Int × Int × Int × Int × Int × Int × Int × Int × Bool × Unit) × (Int × Int × Int × Int × Int × Int × Int × Int × Bool × Unit) × (Int × Int × Int × Int × Int × Int × Int × Int × Bool × Unit) × Unit)) := ref06_bare_L3 n s.1.1 s.1.2.1 s.1.2.2.1 s.1.2.2.2.1 s.1.2.2.2.2.1 s.2.1 s.2.2.1 s.2.2.2.1
def ref06_bare_L3m (n : Nat) : LM := ⟨59, [(1, (.ty .s)), (2, (.ptr 0 0)), (4, (.ptr 1 0)), (5, (.ptr 2 0)), (6, (.ty (.i .i64)))], [(.box [(.ty (.i .i64)), (.ty (.i .i64)), (.ty (.i .i64)), (.ty (.i .i64)), (.ty (.i .i64)), (.ty (.i .i64)), (.ty (.i .i64)), (.ty (.i .i64)), (.ty .b)]), (.box [(.ty (.i .i64)), (.ty (.i .i64)), (.ty (.i .i64)), (.ty (.i .i64)), (.ty (.i .i64)), (.ty (.i .i64)), (.ty (.i .i64)), (.ty (.i .i64)), (.ty .b)]), (.box [(.ty (.i .i64)), (.ty (.i .i64)), (.ty (.i .i64)), (.ty (.i .i64)), (.ty (.i .i64)), (.ty (.i .i64)), (.ty (.i .i64)), (.ty (.i .i64)), (.ty .b)])], [.exit 0], fun x o => iter (ref06_bare_L3f n) n (x, o)⟩
def ref06_bareo (n : Nat) (i0 : GIns) (fields1 : ByteArray) : Option (GIns × Unit) :=
 ((iter (ref06_bare_L3f n) n ((fields1, (), (), (), (0 : Int), ()), ((i0.op, i0.cond, i0.rd, i0.rn, i0.rm, i0.imm, i0.mode, i0.list, i0.s, ()), ((0 : Int), (0 : Int), (0 : Int), (0 : Int), (0 : Int), (0 : Int), (0 : Int), (0 : Int), false, ()), (i0.op, (0 : Int), (0 : Int), (0 : Int), (0 : Int), (0 : Int), (0 : Int), (0 : Int), false, ()), ())))).bind fun z1 =>
 some ((⟨z1.2.2.2.2.1.1, z1.2.2.2.2.1.2.1, z1.2.2.2.2.1.2.2.1, z1.2.2.2.2.1.2.2.2.1, z1.2.2.2.2.1.2.2.2.2.1, z1.2.2.2.2.1.2.2.2.2.2.1, z1.2.2.2.2.1.2.2.2.2.2.2.1, z1.2.2.2.2.1.2.2.2.2.2.2.2.1, z1.2.2.2.2.1.2.2.2.2.2.2.2.2.1⟩ : GIns), ())
def ref06_bare_fm (n : Nat) : FM := ⟨[(.ty .ins), (.ty .s)], [], (.ty .ins), true, none, fun a o => ref06_bareo n a.1 a.2.1⟩
def ref06_bare_cx (n : Nat) : Cx := ⟨ti, ty, gl, fun g => find [] g [], fun k => find none k [(3, some (ref06_bare_L3m n))], [], false, false⟩
theorem ref06_bare_L3r (n : Nat) (s : FrT (ref06_bare_L3m n).fs × ObTs (ref06_bare_L3m n).os) : ref06_bare_L3f n s = roundF { ref06_bare_cx n with res := [] } (loopOf Tryz.f84 3) (ref06_bare_L3m n) s.1 s.2 := by kernel_rfl
theorem ref06_bare_ev (n : Nat) (a : ShTs (ref06_bare_fm n).ash) (o : ObTs (ref06_bare_fm n).os) : evalF (ref06_bare_cx n) Tryz.f84 (ref06_bare_fm n) a o = (ref06_bare_fm n).run a o := by kernel_rfl
def ref06_Plaino (r0 : Int) : Option (Bool × Unit) :=
 some ((bif (bif (ile 0 r0) then (ile r0 12) else false) then true else (ieq r0 14)), ())
theorem ref06_Plain_tot (r0 : Int) : ∃ r, ref06_Plaino r0 = some (r, ()) := by
 unfold ref06_Plaino
 repeat' (first | exact ⟨_, rfl⟩ | refine ex_bif ?_ ?_)
def ref06_Plain (r0 : Int) : Bool := ((ref06_Plaino r0).map Prod.fst).getD (dfS (.ty .b))
theorem ref06_Plain_eq (r0 : Int) : ref06_Plaino r0 = some (ref06_Plain r0, ()) := by
 obtain ⟨r, h⟩ := ref06_Plain_tot r0
 unfold ref06_Plain; rw [h]; rfl
def ref06_Plain_fm : FM := ⟨[(.ty (.i .i64))], [], (.ty .b), true, some (fun a o => ref06_Plain a.1), fun a o => some (ref06_Plain a.1, o)⟩
def ref06_Plain_cx : Cx := ⟨ti, ty, gl, fun g => find [] g [], fun k => find none k [], [], false, false⟩
theorem ref06_Plain_ev (a : ShTs (ref06_Plain_fm).ash) (o : ObTs (ref06_Plain_fm).os) : evalF (ref06_Plain_cx) Tryz.f125 (ref06_Plain_fm) a o = ref06_Plaino a.1 := by kernel_rfl
theorem ref06_Plain_evt (a : ShTs (ref06_Plain_fm).ash) (o : ObTs (ref06_Plain_fm).os) : evalF (ref06_Plain_cx) Tryz.f125 (ref06_Plain_fm) a o = (ref06_Plain_fm).run a o := (ref06_Plain_ev a o).trans (ref06_Plain_eq a.1)
def ref06_ino (n0 : Int) (low1 : Int) (high2 : Int) : Option (Bool × Unit) :=
 some ((bif (ile low1 n0) then (ile n0 high2) else false), ())
theorem ref06_in_tot (n0 : Int) (low1 : Int) (high2 : Int) : ∃ r, ref06_ino n0 low1 high2 = some (r, ()) := by
 unfold ref06_ino
 repeat' (first | exact ⟨_, rfl⟩ | refine ex_bif ?_ ?_)
def ref06_in (n0 : Int) (low1 : Int) (high2 : Int) : Bool := ((ref06_ino n0 low1 high2).map Prod.fst).getD (dfS (.ty .b))
theorem ref06_in_eq (n0 : Int) (low1 : Int) (high2 : Int) : ref06_ino n0 low1 high2 = some (ref06_in n0 low1 high2, ()) := by
 obtain ⟨r, h⟩ := ref06_in_tot n0 low1 high2
 unfold ref06_in; rw [h]; rfl
def ref06_in_fm : FM := ⟨[(.ty (.i .i64)), (.ty (.i .i64)), (.ty (.i .i64))], [], (.ty .b), true, some (fun a o => ref06_in a.1 a.2.1 a.2.2.1), fun a o => some (ref06_in a.1 a.2.1 a.2.2.1, o)⟩
def ref06_in_cx : Cx := ⟨ti, ty, gl, fun g => find [] g [], fun k => find none k [], [], false, false⟩
theorem ref06_in_ev (a : ShTs (ref06_in_fm).ash) (o : ObTs (ref06_in_fm).os) : evalF (ref06_in_cx) Tryz.f127 (ref06_in_fm) a o = ref06_ino a.1 a.2.1 a.2.2.1 := by kernel_rfl
theorem ref06_in_evt (a : ShTs (ref06_in_fm).ash) (o : ObTs (ref06_in_fm).os) : evalF (ref06_in_cx) Tryz.f127 (ref06_in_fm) a o = (ref06_in_fm).run a o := (ref06_in_ev a o).trans (ref06_in_eq a.1 a.2.1 a.2.2.1)
def ref06_lasto (i0 : GIns) (low1 : Int) (high2 : Int) : Option (Bool × Unit) :=
 bif (ieq i0.mode 1) then
 some ((ref06_in i0.imm low1 high2), ())
 else
 some ((bif (ieq i0.mode 2) then (ref06_Plain i0.rm) else false), ())
theorem ref06_last_tot (i0 : GIns) (low1 : Int) (high2 : Int) : ∃ r, ref06_lasto i0 low1 high2 = some (r, ()) := by
 unfold ref06_lasto
 repeat' (first | exact ⟨_, rfl⟩ | refine ex_bif ?_ ?_)
def ref06_last (i0 : GIns) (low1 : Int) (high2 : Int) : Bool := ((ref06_lasto i0 low1 high2).map Prod.fst).getD (dfS (.ty .b))
theorem ref06_last_eq (i0 : GIns) (low1 : Int) (high2 : Int) : ref06_lasto i0 low1 high2 = some (ref06_last i0 low1 high2, ()) := by
 obtain ⟨r, h⟩ := ref06_last_tot i0 low1 high2
 unfold ref06_last; rw [h]; rfl
def ref06_last_fm : FM := ⟨[(.ty .ins), (.ty (.i .i64)), (.ty (.i .i64))], [], (.ty .b), true, some (fun a o => ref06_last a.1 a.2.1 a.2.2.1), fun a o => some (ref06_last a.1 a.2.1 a.2.2.1, o)⟩
def ref06_last_cx : Cx := ⟨ti, ty, gl, fun g => find [] g [(127, [ref06_in_fm]), (125, [ref06_Plain_fm])], fun k => find none k [], [], false, false⟩
theorem ref06_last_ev (a : ShTs (ref06_last_fm).ash) (o : ObTs (ref06_last_fm).os) : evalF (ref06_last_cx) Tryz.f126 (ref06_last_fm) a o = ref06_lasto a.1 a.2.1 a.2.2.1 := by kernel_rfl
theorem ref06_last_evt (a : ShTs (ref06_last_fm).ash) (o : ObTs (ref06_last_fm).os) : evalF (ref06_last_cx) Tryz.f126 (ref06_last_fm) a o = (ref06_last_fm).run a o := (ref06_last_ev a o).trans (ref06_last_eq a.1 a.2.1 a.2.2.1)
def ref06_datao (s0 : GIns) : Option (Bool × Unit) :=
 bif (ile s0.op 9) then
 some ((bif (bif (ref06_Plain s0.rd) then (ref06_Plain s0.rn) else false) then (ref06_last s0 (0 : Int) (4294967295 : Int)) else false), ())
 else
 bif (bif (bif (ieq s0.op 10) then (ieq s0.mode 2) else false) then (bNot s0.s) else false) then
 some ((bif (ref06_in s0.rd (0 : Int) (14 : Int)) then (ref06_in s0.rm (0 : Int) (14 : Int)) else false), ())
 else
 bif (ile s0.op 11) then
 some ((bif (ref06_Plain s0.rd) then (ref06_last s0 (0 : Int) (4294967295 : Int)) else false), ())
 else
 bif (ile s0.op 15) then
 some ((bif (ref06_Plain s0.rn) then (ref06_last s0 (0 : Int) (4294967295 : Int)) else false), ())
 else
 bif (ile s0.op 19) then
 bif (bif (ieq s0.op 17) then true else (ieq s0.op 18)) then
 some ((bif (bif (ref06_Plain s0.rd) then (ref06_Plain s0.rn) else false) then (ref06_last s0 (1 : Int) (32 : Int)) else false), ())
 else
 some ((bif (bif (ref06_Plain s0.rd) then (ref06_Plain s0.rn) else false) then (ref06_last s0 (1 : Int) (31 : Int)) else false), ())
 else
 bif (ile s0.op 22) then
 some ((bif (bif (bif (ref06_Plain s0.rd) then (ref06_Plain s0.rn) else false) then (ieq s0.mode 2) else false) then (ref06_Plain s0.rm) else false), ())
 else
 some ((bif (bif (ref06_Plain s0.rd) then (ieq s0.mode 1) else false) then (ref06_in s0.imm (0 : Int) (65535 : Int)) else false), ())
theorem ref06_data_tot (s0 : GIns) : ∃ r, ref06_datao s0 = some (r, ()) := by
 unfold ref06_datao
 repeat' (first | exact ⟨_, rfl⟩ | refine ex_bif ?_ ?_)
def ref06_data (s0 : GIns) : Bool := ((ref06_datao s0).map Prod.fst).getD (dfS (.ty .b))
theorem ref06_data_eq (s0 : GIns) : ref06_datao s0 = some (ref06_data s0, ()) := by
 obtain ⟨r, h⟩ := ref06_data_tot s0
 unfold ref06_data; rw [h]; rfl
def ref06_data_fm : FM := ⟨[(.ty .ins)], [], (.ty .b), true, some (fun a o => ref06_data a.1), fun a o => some (ref06_data a.1, o)⟩
def ref06_data_cx : Cx := ⟨ti, ty, gl, fun g => find [] g [(125, [ref06_Plain_fm]), (126, [ref06_last_fm]), (127, [ref06_in_fm])], fun k => find none k [], [], false, false⟩
theorem ref06_data_ev (a : ShTs (ref06_data_fm).ash) (o : ObTs (ref06_data_fm).os) : evalF (ref06_data_cx) Tryz.f86 (ref06_data_fm) a o = ref06_datao a.1 := by kernel_rfl
theorem ref06_data_evt (a : ShTs (ref06_data_fm).ash) (o : ObTs (ref06_data_fm).os) : evalF (ref06_data_cx) Tryz.f86 (ref06_data_fm) a o = (ref06_data_fm).run a o := (ref06_data_ev a o).trans (ref06_data_eq a.1)
def ref06_list_L2 (n : Nat) (l_0 : Int) (more_1 : Int) (s_4 : Bool) (r_5 : Int) : Option (Option Nat × (Int × Int × Bool × Int × Unit) × Unit) :=
 bif (ilt r_5 16) then
 chk (ile 0 (wr .u64 r_5)) (
 bif (bif (bif (ieq (wand .i64 (wshr .i64 l_0 (wr .u64 r_5)) 1) 1) then (bNot (ref06_Plain r_5)) else false) then (bNot (ieq r_5 more_1)) else false) then
 some ((some 1), (l_0, more_1, false, r_5, ()), ())
 else
 some (none, (l_0, more_1, s_4, (wr .i64 (iadd r_5 1)), ()), ()))
 else
 some ((some 0), (l_0, more_1, s_4, r_5, ()), ())
def ref06_list_L2f (n : Nat) (s : (Int × Int × Bool × Int × Unit) × Unit) := ref06_list_L2 n s.1.1 s.1.2.1 s.1.2.2.1 s.1.2.2.2.1
def ref06_list_L2m (n : Nat) : LM := ⟨32, [(0, (.ty (.i .i64))), (1, (.ty (.i .i64))), (4, (.ty .b)), (5, (.ty (.i .i64)))], [], [.exit 0, .ret], fun x o => iter (ref06_list_L2f n) n (x, o)⟩
def ref06_listo (n : Nat) (l0 : Int) (more1 : Int) : Option (Bool × Unit) :=
 ((iter (ref06_list_L2f n) n ((l0, more1, false, (0 : Int), ()), ()))).bind fun z1 =>
 bif (Nat.beq z1.1 0) then
 some ((bif (ilt 0 z1.2.1.1) then (ilt z1.2.1.1 65536) else false), ())
 else
 some (z1.2.1.2.2.1, ())
def ref06_list_fm (n : Nat) : FM := ⟨[(.ty (.i .i64)), (.ty (.i .i64))], [], (.ty .b), true, none, fun a o => ref06_listo n a.1 a.2.1⟩
def ref06_list_cx (n : Nat) : Cx := ⟨ti, ty, gl, fun g => find [] g [(125, [ref06_Plain_fm])], fun k => find none k [(2, some (ref06_list_L2m n))], [], false, false⟩
theorem ref06_list_L2r (n : Nat) (s : FrT (ref06_list_L2m n).fs × ObTs (ref06_list_L2m n).os) : ref06_list_L2f n s = roundF { ref06_list_cx n with res := [] } (loopOf Tryz.f128 2) (ref06_list_L2m n) s.1 s.2 := by kernel_rfl
theorem ref06_list_ev (n : Nat) (a : ShTs (ref06_list_fm n).ash) (o : ObTs (ref06_list_fm n).os) : evalF (ref06_list_cx n) Tryz.f128 (ref06_list_fm n) a o = (ref06_list_fm n).run a o := by kernel_rfl
def ref06_count_L2 (n : Nat) (l_0 : Int) (s_2 : Int) (n_3 : Int) : Option (Option Nat × (Int × Int × Int × Unit) × Unit) :=
 bif (ilt 0 l_0) then
 some (none, ((wquo .i64 l_0 2), s_2, (wr .i64 (iadd n_3 (wrem l_0 2))), ()), ())
 else
 some ((some 0), (l_0, s_2, n_3, ()), ())
def ref06_count_L2f (n : Nat) (s : (Int × Int × Int × Unit) × Unit) := ref06_count_L2 n s.1.1 s.1.2.1 s.1.2.2.1
def ref06_count_L2m (n : Nat) : LM := ⟨13, [(0, (.ty (.i .i64))), (2, (.ty (.i .i64))), (3, (.ty (.i .i64)))], [], [.exit 0], fun x o => iter (ref06_count_L2f n) n (x, o)⟩
def ref06_counto (n : Nat) (l0 : Int) : Option (Int × Unit) :=
 ((iter (ref06_count_L2f n) n ((l0, (0 : Int), (0 : Int), ()), ()))).bind fun z1 =>
 some (z1.2.1.2.2.1, ())
def ref06_count_fm (n : Nat) : FM := ⟨[(.ty (.i .i64))], [], (.ty (.i .i64)), true, none, fun a o => ref06_counto n a.1⟩
def ref06_count_cx (n : Nat) : Cx := ⟨ti, ty, gl, fun g => find [] g [], fun k => find none k [(2, some (ref06_count_L2m n))], [], false, false⟩
theorem ref06_count_L2r (n : Nat) (s : FrT (ref06_count_L2m n).fs × ObTs (ref06_count_L2m n).os) : ref06_count_L2f n s = roundF { ref06_count_cx n with res := [] } (loopOf Tryz.f129 2) (ref06_count_L2m n) s.1 s.2 := by kernel_rfl
theorem ref06_count_ev (n : Nat) (a : ShTs (ref06_count_fm n).ash) (o : ObTs (ref06_count_fm n).os) : evalF (ref06_count_cx n) Tryz.f129 (ref06_count_fm n) a o = (ref06_count_fm n).run a o := by kernel_rfl
def ref06_brancho (n0 : Int) : Option (Bool × Unit) :=
 some ((bif (ieq (wrem n0 2) 0) then (ref06_in n0 ((-16777216) : Int) (16777214 : Int)) else false), ())
theorem ref06_branch_tot (n0 : Int) : ∃ r, ref06_brancho n0 = some (r, ()) := by
 unfold ref06_brancho
 repeat' (first | exact ⟨_, rfl⟩ | refine ex_bif ?_ ?_)
def ref06_branch (n0 : Int) : Bool := ((ref06_brancho n0).map Prod.fst).getD (dfS (.ty .b))
theorem ref06_branch_eq (n0 : Int) : ref06_brancho n0 = some (ref06_branch n0, ()) := by
 obtain ⟨r, h⟩ := ref06_branch_tot n0
 unfold ref06_branch; rw [h]; rfl
def ref06_branch_fm : FM := ⟨[(.ty (.i .i64))], [], (.ty .b), true, some (fun a o => ref06_branch a.1), fun a o => some (ref06_branch a.1, o)⟩
def ref06_branch_cx : Cx := ⟨ti, ty, gl, fun g => find [] g [(127, [ref06_in_fm])], fun k => find none k [], [], false, false⟩
theorem ref06_branch_ev (a : ShTs (ref06_branch_fm).ash) (o : ObTs (ref06_branch_fm).os) : evalF (ref06_branch_cx) Tryz.f130 (ref06_branch_fm) a o = ref06_brancho a.1 := by kernel_rfl
theorem ref06_branch_evt (a : ShTs (ref06_branch_fm).ash) (o : ObTs (ref06_branch_fm).os) : evalF (ref06_branch_cx) Tryz.f130 (ref06_branch_fm) a o = (ref06_branch_fm).run a o := (ref06_branch_ev a o).trans (ref06_branch_eq a.1)
def ref06_resto (n : Nat) (s0 : GIns) : Option (Bool × Unit) :=
 bif (ieq s0.op 31) then
 bif (ieq s0.op 31) then
 ((bif (ref06_Plain s0.rn) then (ref06_listo n s0.list ((-1) : Int)) else (some (dfS (.ty .b), dfObs [])))).bind fun y1 =>
 ((bif (bif (ref06_Plain s0.rn) then y1.1 else false) then (ref06_counto n s0.list) else (some (dfS (.ty (.i .i64)), dfObs [])))).bind fun y2 =>
 chk (bNot (bAnd (bNot (ile 0 (wr .u64 s0.rn))) (bif (bif (ref06_Plain s0.rn) then y1.1 else false) then (ile 2 y2.1) else false))) (
 some ((bif (bif (bif (ref06_Plain s0.rn) then y1.1 else false) then (ile 2 y2.1) else false) then (ieq (wand .i64 (wshr .i64 s0.list (wr .u64 s0.rn)) 1) 0) else false), ()))
 else
 bif (ieq s0.op 33) then
 ((ref06_listo n s0.list ((-1) : Int))).bind fun y3 =>
 some (y3.1, ())
 else
 bif (ieq s0.op 34) then
 ((ref06_listo n s0.list (15 : Int))).bind fun y4 =>
 some ((bif y4.1 then (bNot (ieq (wshr .i64 s0.list 14) 3)) else false), ())
 else
 bif (ieq s0.op 35) then
 some ((bif (bif (ref06_in s0.cond (0 : Int) (14 : Int)) then (ieq s0.mode 1) else false) then (ref06_branch s0.imm) else false), ())
 else
 bif (ieq s0.op 36) then
 some ((bif (ieq s0.mode 1) then (ref06_branch s0.imm) else false), ())
 else
 bif (ieq s0.op 37) then
 bif (ieq s0.op 37) then
 some ((bif (bif (bif (ref06_Low s0.rn) then (ieq s0.mode 1) else false) then (ieq (wrem s0.imm 2) 0) else false) then (ref06_in s0.imm (0 : Int) (126 : Int)) else false), ())
 else
 bif (ieq s0.op 39) then
 some ((bif (ieq s0.mode 2) then (ref06_in s0.rm (0 : Int) (14 : Int)) else false), ())
 else
 bif (ieq s0.op 40) then
 bif (ieq s0.op 40) then
 some ((bif (bif (ref06_Plain s0.rd) then (ieq s0.mode 1) else false) then (ref06_in s0.imm ((-4095) : Int) (4095 : Int)) else false), ())
 else
 bif (ieq s0.op 42) then
 ((bif (ieq s0.mode 1) then (ref04_Condso n s0.cond s0.imm) else (some (dfS (.own (.i .i64)), dfObs [])))).bind fun y5 =>
 some ((bif (ieq s0.mode 1) then (ilt 0 (iof (@xlen (.i .i64) y5.1))) else false), ())
 else
 bif (ieq s0.op 43) then
 some (true, ())
 else
 bif (ieq s0.op 44) then
 some ((bif (ieq s0.mode 1) then (ref06_in s0.imm (0 : Int) (255 : Int)) else false), ())
 else
 bif (ieq s0.op 45) then
 some ((bif (bif (ref06_Plain s0.rn) then (ieq s0.mode 2) else false) then (ref06_Plain s0.rm) else false), ())
 else
 some ((bif (bif (ref06_Plain s0.rd) then (bif (ref06_Plain s0.rn) then true else (ieq s0.rn 13)) else false) then (ref06_last s0 (0 : Int) (4095 : Int)) else false), ())
 else
 bif (ieq s0.op 41) then
 some ((bif (bif (ref06_Plain s0.rd) then (ieq s0.mode 1) else false) then (ref06_in s0.imm ((-4095) : Int) (4095 : Int)) else false), ())
 else
 bif (ieq s0.op 42) then
 ((bif (ieq s0.mode 1) then (ref04_Condso n s0.cond s0.imm) else (some (dfS (.own (.i .i64)), dfObs [])))).bind fun y6 =>
 some ((bif (ieq s0.mode 1) then (ilt 0 (iof (@xlen (.i .i64) y6.1))) else false), ())
 else
 bif (ieq s0.op 43) then
 some (true, ())
 else
 bif (ieq s0.op 44) then
 some ((bif (ieq s0.mode 1) then (ref06_in s0.imm (0 : Int) (255 : Int)) else false), ())
 else
 bif (ieq s0.op 45) then
 some ((bif (bif (ref06_Plain s0.rn) then (ieq s0.mode 2) else false) then (ref06_Plain s0.rm) else false), ())
 else
 some ((bif (bif (ref06_Plain s0.rd) then (bif (ref06_Plain s0.rn) then true else (ieq s0.rn 13)) else false) then (ref06_last s0 (0 : Int) (4095 : Int)) else false), ())
 else
 bif (ieq s0.op 38) then
 some ((bif (bif (bif (ref06_Low s0.rn) then (ieq s0.mode 1) else false) then (ieq (wrem s0.imm 2) 0) else false) then (ref06_in s0.imm (0 : Int) (126 : Int)) else false), ())
 else
 bif (ieq s0.op 39) then
 some ((bif (ieq s0.mode 2) then (ref06_in s0.rm (0 : Int) (14 : Int)) else false), ())
 else
 bif (ieq s0.op 40) then
 bif (ieq s0.op 40) then
 some ((bif (bif (ref06_Plain s0.rd) then (ieq s0.mode 1) else false) then (ref06_in s0.imm ((-4095) : Int) (4095 : Int)) else false), ())
 else
 bif (ieq s0.op 42) then
 ((bif (ieq s0.mode 1) then (ref04_Condso n s0.cond s0.imm) else (some (dfS (.own (.i .i64)), dfObs [])))).bind fun y7 =>
 some ((bif (ieq s0.mode 1) then (ilt 0 (iof (@xlen (.i .i64) y7.1))) else false), ())
 else
 bif (ieq s0.op 43) then
 some (true, ())
 else
 bif (ieq s0.op 44) then
 some ((bif (ieq s0.mode 1) then (ref06_in s0.imm (0 : Int) (255 : Int)) else false), ())
 else
 bif (ieq s0.op 45) then
 some ((bif (bif (ref06_Plain s0.rn) then (ieq s0.mode 2) else false) then (ref06_Plain s0.rm) else false), ())
 else
 some ((bif (bif (ref06_Plain s0.rd) then (bif (ref06_Plain s0.rn) then true else (ieq s0.rn 13)) else false) then (ref06_last s0 (0 : Int) (4095 : Int)) else false), ())
 else
 bif (ieq s0.op 41) then
 some ((bif (bif (ref06_Plain s0.rd) then (ieq s0.mode 1) else false) then (ref06_in s0.imm ((-4095) : Int) (4095 : Int)) else false), ())
 else
 bif (ieq s0.op 42) then
 ((bif (ieq s0.mode 1) then (ref04_Condso n s0.cond s0.imm) else (some (dfS (.own (.i .i64)), dfObs [])))).bind fun y8 =>
 some ((bif (ieq s0.mode 1) then (ilt 0 (iof (@xlen (.i .i64) y8.1))) else false), ())
 else
 bif (ieq s0.op 43) then
 some (true, ())
 else
 bif (ieq s0.op 44) then
 some ((bif (ieq s0.mode 1) then (ref06_in s0.imm (0 : Int) (255 : Int)) else false), ())
 else
 bif (ieq s0.op 45) then
 some ((bif (bif (ref06_Plain s0.rn) then (ieq s0.mode 2) else false) then (ref06_Plain s0.rm) else false), ())
 else
 some ((bif (bif (ref06_Plain s0.rd) then (bif (ref06_Plain s0.rn) then true else (ieq s0.rn 13)) else false) then (ref06_last s0 (0 : Int) (4095 : Int)) else false), ())
 else
 bif (ieq s0.op 32) then
 ((bif (ref06_Plain s0.rn) then (ref06_listo n s0.list ((-1) : Int)) else (some (dfS (.ty .b), dfObs [])))).bind fun y9 =>
 ((bif (bif (ref06_Plain s0.rn) then y9.1 else false) then (ref06_counto n s0.list) else (some (dfS (.ty (.i .i64)), dfObs [])))).bind fun y10 =>
 chk (bNot (bAnd (bNot (ile 0 (wr .u64 s0.rn))) (bif (bif (ref06_Plain s0.rn) then y9.1 else false) then (ile 2 y10.1) else false))) (
 some ((bif (bif (bif (ref06_Plain s0.rn) then y9.1 else false) then (ile 2 y10.1) else false) then (ieq (wand .i64 (wshr .i64 s0.list (wr .u64 s0.rn)) 1) 0) else false), ()))
 else
 bif (ieq s0.op 33) then
 ((ref06_listo n s0.list ((-1) : Int))).bind fun y11 =>
 some (y11.1, ())
 else
 bif (ieq s0.op 34) then
 ((ref06_listo n s0.list (15 : Int))).bind fun y12 =>
 some ((bif y12.1 then (bNot (ieq (wshr .i64 s0.list 14) 3)) else false), ())
 else
 bif (ieq s0.op 35) then
 some ((bif (bif (ref06_in s0.cond (0 : Int) (14 : Int)) then (ieq s0.mode 1) else false) then (ref06_branch s0.imm) else false), ())
 else
 bif (ieq s0.op 36) then
 some ((bif (ieq s0.mode 1) then (ref06_branch s0.imm) else false), ())
 else
 bif (ieq s0.op 37) then
 bif (ieq s0.op 37) then
 some ((bif (bif (bif (ref06_Low s0.rn) then (ieq s0.mode 1) else false) then (ieq (wrem s0.imm 2) 0) else false) then (ref06_in s0.imm (0 : Int) (126 : Int)) else false), ())
 else
 bif (ieq s0.op 39) then
 some ((bif (ieq s0.mode 2) then (ref06_in s0.rm (0 : Int) (14 : Int)) else false), ())
 else
 bif (ieq s0.op 40) then
 bif (ieq s0.op 40) then
 some ((bif (bif (ref06_Plain s0.rd) then (ieq s0.mode 1) else false) then (ref06_in s0.imm ((-4095) : Int) (4095 : Int)) else false), ())
 else
 bif (ieq s0.op 42) then
 ((bif (ieq s0.mode 1) then (ref04_Condso n s0.cond s0.imm) else (some (dfS (.own (.i .i64)), dfObs [])))).bind fun y13 =>
 some ((bif (ieq s0.mode 1) then (ilt 0 (iof (@xlen (.i .i64) y13.1))) else false), ())
 else
 bif (ieq s0.op 43) then
 some (true, ())
 else
 bif (ieq s0.op 44) then
 some ((bif (ieq s0.mode 1) then (ref06_in s0.imm (0 : Int) (255 : Int)) else false), ())
 else
 bif (ieq s0.op 45) then
 some ((bif (bif (ref06_Plain s0.rn) then (ieq s0.mode 2) else false) then (ref06_Plain s0.rm) else false), ())
 else
 some ((bif (bif (ref06_Plain s0.rd) then (bif (ref06_Plain s0.rn) then true else (ieq s0.rn 13)) else false) then (ref06_last s0 (0 : Int) (4095 : Int)) else false), ())
 else
 bif (ieq s0.op 41) then
 some ((bif (bif (ref06_Plain s0.rd) then (ieq s0.mode 1) else false) then (ref06_in s0.imm ((-4095) : Int) (4095 : Int)) else false), ())
 else
 bif (ieq s0.op 42) then
 ((bif (ieq s0.mode 1) then (ref04_Condso n s0.cond s0.imm) else (some (dfS (.own (.i .i64)), dfObs [])))).bind fun y14 =>
 some ((bif (ieq s0.mode 1) then (ilt 0 (iof (@xlen (.i .i64) y14.1))) else false), ())
 else
 bif (ieq s0.op 43) then
 some (true, ())
 else
 bif (ieq s0.op 44) then
 some ((bif (ieq s0.mode 1) then (ref06_in s0.imm (0 : Int) (255 : Int)) else false), ())
 else
 bif (ieq s0.op 45) then
 some ((bif (bif (ref06_Plain s0.rn) then (ieq s0.mode 2) else false) then (ref06_Plain s0.rm) else false), ())
 else
 some ((bif (bif (ref06_Plain s0.rd) then (bif (ref06_Plain s0.rn) then true else (ieq s0.rn 13)) else false) then (ref06_last s0 (0 : Int) (4095 : Int)) else false), ())
 else
 bif (ieq s0.op 38) then
 some ((bif (bif (bif (ref06_Low s0.rn) then (ieq s0.mode 1) else false) then (ieq (wrem s0.imm 2) 0) else false) then (ref06_in s0.imm (0 : Int) (126 : Int)) else false), ())
 else
 bif (ieq s0.op 39) then
 some ((bif (ieq s0.mode 2) then (ref06_in s0.rm (0 : Int) (14 : Int)) else false), ())
 else
 bif (ieq s0.op 40) then
 bif (ieq s0.op 40) then
 some ((bif (bif (ref06_Plain s0.rd) then (ieq s0.mode 1) else false) then (ref06_in s0.imm ((-4095) : Int) (4095 : Int)) else false), ())
 else
 bif (ieq s0.op 42) then
 ((bif (ieq s0.mode 1) then (ref04_Condso n s0.cond s0.imm) else (some (dfS (.own (.i .i64)), dfObs [])))).bind fun y15 =>
 some ((bif (ieq s0.mode 1) then (ilt 0 (iof (@xlen (.i .i64) y15.1))) else false), ())
 else
 bif (ieq s0.op 43) then
 some (true, ())
 else
 bif (ieq s0.op 44) then
 some ((bif (ieq s0.mode 1) then (ref06_in s0.imm (0 : Int) (255 : Int)) else false), ())
 else
 bif (ieq s0.op 45) then
 some ((bif (bif (ref06_Plain s0.rn) then (ieq s0.mode 2) else false) then (ref06_Plain s0.rm) else false), ())
 else
 some ((bif (bif (ref06_Plain s0.rd) then (bif (ref06_Plain s0.rn) then true else (ieq s0.rn 13)) else false) then (ref06_last s0 (0 : Int) (4095 : Int)) else false), ())
 else
 bif (ieq s0.op 41) then
 some ((bif (bif (ref06_Plain s0.rd) then (ieq s0.mode 1) else false) then (ref06_in s0.imm ((-4095) : Int) (4095 : Int)) else false), ())
 else
 bif (ieq s0.op 42) then
 ((bif (ieq s0.mode 1) then (ref04_Condso n s0.cond s0.imm) else (some (dfS (.own (.i .i64)), dfObs [])))).bind fun y16 =>
 some ((bif (ieq s0.mode 1) then (ilt 0 (iof (@xlen (.i .i64) y16.1))) else false), ())
 else
 bif (ieq s0.op 43) then
 some (true, ())
 else
 bif (ieq s0.op 44) then
 some ((bif (ieq s0.mode 1) then (ref06_in s0.imm (0 : Int) (255 : Int)) else false), ())
 else
 bif (ieq s0.op 45) then
 some ((bif (bif (ref06_Plain s0.rn) then (ieq s0.mode 2) else false) then (ref06_Plain s0.rm) else false), ())
 else
 some ((bif (bif (ref06_Plain s0.rd) then (bif (ref06_Plain s0.rn) then true else (ieq s0.rn 13)) else false) then (ref06_last s0 (0 : Int) (4095 : Int)) else false), ())
def ref06_rest_fm (n : Nat) : FM := ⟨[(.ty .ins)], [], (.ty .b), true, none, fun a o => ref06_resto n a.1⟩
def ref06_rest_cx (n : Nat) : Cx := ⟨ti, ty, gl, fun g => find [] g [(125, [ref06_Plain_fm]), (128, [ref06_list_fm n]), (129, [ref06_count_fm n]), (127, [ref06_in_fm]), (130, [ref06_branch_fm]), (28, [ref06_Low_fm]), (68, [ref04_Conds_fm n]), (126, [ref06_last_fm])], fun k => find none k [], [], false, false⟩
theorem ref06_rest_ev (n : Nat) (a : ShTs (ref06_rest_fm n).ash) (o : ObTs (ref06_rest_fm n).os) : evalF (ref06_rest_cx n) Tryz.f87 (ref06_rest_fm n) a o = (ref06_rest_fm n).run a o := by kernel_rfl
def ref06_Checko (n : Nat) (i0 : GIns) : Option (Int × Unit) :=
 ((bif (bNot (bif (ilt i0.op 1) then true else (ilt 45 i0.op))) then (ref06_bareo n i0 (ref06_fields i0.op)) else (some (dfS (.ty .ins), dfObs [])))).bind fun y1 =>
 bif (bif (bif (ilt i0.op 1) then true else (ilt 45 i0.op)) then true else (bNot (bAnd (ieq i0.op y1.1.op) (bAnd (ieq i0.cond y1.1.cond) (bAnd (ieq i0.rd y1.1.rd) (bAnd (ieq i0.rn y1.1.rn) (bAnd (ieq i0.rm y1.1.rm) (bAnd (ieq i0.imm y1.1.imm) (bAnd (ieq i0.mode y1.1.mode) (bAnd (ieq i0.list y1.1.list) (bAnd (bEq i0.s y1.1.s) true))))))))))) then
 some ((6 : Int), ())
 else
 bif (ile i0.op 24) then
 bif (bNot (ref06_data i0)) then
 some ((6 : Int), ())
 else
 some ((0 : Int), ())
 else
 ((ref06_resto n i0)).bind fun y2 =>
 bif (bNot y2.1) then
 some ((6 : Int), ())
 else
 some ((0 : Int), ())
def ref06_Check_fm (n : Nat) : FM := ⟨[(.ty .ins)], [], (.ty (.i .i64)), true, none, fun a o => ref06_Checko n a.1⟩
def ref06_Check_cx (n : Nat) : Cx := ⟨ti, ty, gl, fun g => find [] g [(85, [ref06_fields_fm]), (84, [ref06_bare_fm n]), (86, [ref06_data_fm]), (87, [ref06_rest_fm n])], fun k => find none k [], [], false, false⟩
theorem ref06_Check_ev (n : Nat) (a : ShTs (ref06_Check_fm n).ash) (o : ObTs (ref06_Check_fm n).os) : evalF (ref06_Check_cx n) Tryz.f54 (ref06_Check_fm n) a o = (ref06_Check_fm n).run a o := by kernel_rfl
def ref07_low_L2 (n : Nat) (l_0 : (List Int)) (s_2 : Bool) (i_3 : Int) : Option (Option Nat × ((List Int) × Bool × Int × Unit) × Unit) :=
 bif (ilt i_3 (iof (@xlen (.i .i64) l_0))) then
 chk (inside i_3 (iof (@xlen (.i .i64) l_0))) (
 bif (bNot (ref06_Low (@xget (.i .i64) l_0 (Int.toNat i_3)))) then
 some ((some 1), (l_0, false, i_3, ()), ())
 else
 some (none, (l_0, s_2, (wr .i64 (iadd i_3 1)), ()), ()))
 else
 some ((some 0), (l_0, s_2, i_3, ()), ())
def ref07_low_L2f (n : Nat) (s : ((List Int) × Bool × Int × Unit) × Unit) := ref07_low_L2 n s.1.1 s.1.2.1 s.1.2.2.1
def ref07_low_L2m (n : Nat) : LM := ⟨16, [(0, (.ty (.sl (.i .i64)))), (2, (.ty .b)), (3, (.ty (.i .i64)))], [], [.exit 0, .ret], fun x o => iter (ref07_low_L2f n) n (x, o)⟩
def ref07_lowo (n : Nat) (l0 : (List Int)) : Option (Bool × Unit) :=
 ((iter (ref07_low_L2f n) n ((l0, false, (0 : Int), ()), ()))).bind fun z1 =>
 bif (Nat.beq z1.1 0) then
 some (true, ())
 else
 some (z1.2.1.2.1, ())
def ref07_low_fm (n : Nat) : FM := ⟨[(.ty (.sl (.i .i64)))], [], (.ty .b), true, none, fun a o => ref07_lowo n a.1⟩
def ref07_low_cx (n : Nat) : Cx := ⟨ti, ty, gl, fun g => find [] g [(28, [ref06_Low_fm])], fun k => find none k [(2, some (ref07_low_L2m n))], [], false, false⟩
theorem ref07_low_L2r (n : Nat) (s : FrT (ref07_low_L2m n).fs × ObTs (ref07_low_L2m n).os) : ref07_low_L2f n s = roundF { ref07_low_cx n with res := [] } (loopOf Tryz.f88 2) (ref07_low_L2m n) s.1 s.2 := by kernel_rfl
theorem ref07_low_ev (n : Nat) (a : ShTs (ref07_low_fm n).ash) (o : ObTs (ref07_low_fm n).os) : evalF (ref07_low_cx n) Tryz.f88 (ref07_low_fm n) a o = (ref07_low_fm n).run a o := by kernel_rfl
def ref07_uppero (r0 : Int) : Option (Int × Unit) :=
 some ((wor .i64 (wshl .i64 (wshr .i64 r0 3) 7) (wand .i64 r0 7)), ())
theorem ref07_upper_tot (r0 : Int) : ∃ r, ref07_uppero r0 = some (r, ()) := by
 unfold ref07_uppero
 repeat' (first | exact ⟨_, rfl⟩ | refine ex_bif ?_ ?_)
def ref07_upper (r0 : Int) : Int := ((ref07_uppero r0).map Prod.fst).getD (dfS (.ty (.i .i64)))
theorem ref07_upper_eq (r0 : Int) : ref07_uppero r0 = some (ref07_upper r0, ()) := by
 obtain ⟨r, h⟩ := ref07_upper_tot r0
 unfold ref07_upper; rw [h]; rfl
def ref07_upper_fm : FM := ⟨[(.ty (.i .i64))], [], (.ty (.i .i64)), true, some (fun a o => ref07_upper a.1), fun a o => some (ref07_upper a.1, o)⟩
def ref07_upper_cx : Cx := ⟨ti, ty, gl, fun g => find [] g [], fun k => find none k [], [], false, false⟩
theorem ref07_upper_ev (a : ShTs (ref07_upper_fm).ash) (o : ObTs (ref07_upper_fm).os) : evalF (ref07_upper_cx) Tryz.f89 (ref07_upper_fm) a o = ref07_uppero a.1 := by kernel_rfl
theorem ref07_upper_evt (a : ShTs (ref07_upper_fm).ash) (o : ObTs (ref07_upper_fm).os) : evalF (ref07_upper_cx) Tryz.f89 (ref07_upper_fm) a o = (ref07_upper_fm).run a o := (ref07_upper_ev a o).trans (ref07_upper_eq a.1)
def ref07_sumo (n : Nat) (s0 : GIns) (s1 : Bool) : Option ((Int × Bool × Unit) × Unit) :=
 bif (ieq s0.op 7) then
 bif (ieq s0.mode 2) then
 ((bif s1 then (ref07_lowo n ([s0.rd, s0.rn, s0.rm] : List Int)) else (some (dfS (.ty .b), dfObs [])))).bind fun y1 =>
 bif (bif s1 then y1.1 else false) then
 some (((wor .i64 (wor .i64 (wor .i64 6656 (wshl .i64 s0.rm 6)) (wshl .i64 s0.rn 3)) s0.rd), true, ()), ())
 else
 some (((wor .i64 (wor .i64 17408 (wshl .i64 s0.rm 3)) (ref07_upper s0.rd)), false, ()), ())
 else
 ((bif s1 then (ref07_lowo n ([s0.rd, s0.rn] : List Int)) else (some (dfS (.ty .b), dfObs [])))).bind fun y2 =>
 bif (bif (bif s1 then y2.1 else false) then (ile s0.imm 7) else false) then
 some (((wor .i64 (wor .i64 (wor .i64 7680 (wshl .i64 s0.imm 6)) (wshl .i64 s0.rn 3)) s0.rd), true, ()), ())
 else
 ((bif (bif s1 then (ieq s0.rd s0.rn) else false) then (ref07_lowo n ([s0.rd] : List Int)) else (some (dfS (.ty .b), dfObs [])))).bind fun y3 =>
 some (((wor .i64 (wor .i64 14336 (wshl .i64 s0.rd 8)) s0.imm), (bif (bif (bif s1 then (ieq s0.rd s0.rn) else false) then y3.1 else false) then (ile s0.imm 255) else false), ()), ())
 else
 bif (ieq s0.mode 2) then
 ((bif s1 then (ref07_lowo n ([s0.rd, s0.rn, s0.rm] : List Int)) else (some (dfS (.ty .b), dfObs [])))).bind fun y4 =>
 bif (bif s1 then y4.1 else false) then
 some (((wor .i64 (wor .i64 (wor .i64 6144 (wshl .i64 s0.rm 6)) (wshl .i64 s0.rn 3)) s0.rd), true, ()), ())
 else
 some (((wor .i64 (wor .i64 17408 (wshl .i64 s0.rm 3)) (ref07_upper s0.rd)), (bif (ieq s0.rd s0.rn) then (bNot s0.s) else false), ()), ())
 else
 ((bif s1 then (ref07_lowo n ([s0.rd, s0.rn] : List Int)) else (some (dfS (.ty .b), dfObs [])))).bind fun y5 =>
 bif (bif (bif s1 then y5.1 else false) then (ile s0.imm 7) else false) then
 some (((wor .i64 (wor .i64 (wor .i64 7168 (wshl .i64 s0.imm 6)) (wshl .i64 s0.rn 3)) s0.rd), true, ()), ())
 else
 ((bif (bif s1 then (ieq s0.rd s0.rn) else false) then (ref07_lowo n ([s0.rd] : List Int)) else (some (dfS (.ty .b), dfObs [])))).bind fun y6 =>
 some (((wor .i64 (wor .i64 12288 (wshl .i64 s0.rd 8)) s0.imm), (bif (bif (bif s1 then (ieq s0.rd s0.rn) else false) then y6.1 else false) then (ile s0.imm 255) else false), ()), ())
def ref07_sum_fm (n : Nat) : FM := ⟨[(.ty .ins), (.ty .b)], [], (.tup [(.ty (.i .i64)), (.ty .b)]), true, none, fun a o => ref07_sumo n a.1 a.2.1⟩
def ref07_sum_cx (n : Nat) : Cx := ⟨ti, ty, gl, fun g => find [] g [(88, [ref07_low_fm n]), (89, [ref07_upper_fm])], fun k => find none k [], [], false, false⟩
theorem ref07_sum_ev (n : Nat) (a : ShTs (ref07_sum_fm n).ash) (o : ObTs (ref07_sum_fm n).os) : evalF (ref07_sum_cx n) Tryz.f55 (ref07_sum_fm n) a o = (ref07_sum_fm n).run a o := by kernel_rfl
def ref07_moveo (n : Nat) (s0 : GIns) (s1 : Bool) (s2 : Bool) : Option ((Int × Bool × Unit) × Unit) :=
 bif (ieq s0.op 12) then
 bif (ieq s0.mode 1) then
 ((ref07_lowo n ([s0.rn] : List Int))).bind fun y1 =>
 some (((wor .i64 (wor .i64 10240 (wshl .i64 s0.rn 8)) s0.imm), (bif y1.1 then (ile s0.imm 255) else false), ()), ())
 else
 ((ref07_lowo n ([s0.rn, s0.rm] : List Int))).bind fun y2 =>
 bif y2.1 then
 some (((wor .i64 (wor .i64 17024 (wshl .i64 s0.rm 3)) s0.rn), true, ()), ())
 else
 some (((wor .i64 (wor .i64 17664 (wshl .i64 s0.rm 3)) (ref07_upper s0.rn)), true, ()), ())
 else
 bif (ieq s0.mode 1) then
 ((ref07_lowo n ([s0.rd] : List Int))).bind fun y3 =>
 some (((wor .i64 (wor .i64 8192 (wshl .i64 s0.rd 8)) s0.imm), (bif (bif y3.1 then (ile s0.imm 255) else false) then s1 else false), ()), ())
 else
 bif s0.s then
 ((bif (bNot s2) then (ref07_lowo n ([s0.rd, s0.rm] : List Int)) else (some (dfS (.ty .b), dfObs [])))).bind fun y4 =>
 some (((wor .i64 (wshl .i64 s0.rm 3) s0.rd), (bif (bNot s2) then y4.1 else false), ()), ())
 else
 some (((wor .i64 (wor .i64 17920 (wshl .i64 s0.rm 3)) (ref07_upper s0.rd)), true, ()), ())
def ref07_move_fm (n : Nat) : FM := ⟨[(.ty .ins), (.ty .b), (.ty .b)], [], (.tup [(.ty (.i .i64)), (.ty .b)]), true, none, fun a o => ref07_moveo n a.1 a.2.1 a.2.2.1⟩
def ref07_move_cx (n : Nat) : Cx := ⟨ti, ty, gl, fun g => find [] g [(88, [ref07_low_fm n]), (89, [ref07_upper_fm])], fun k => find none k [], [], false, false⟩
theorem ref07_move_ev (n : Nat) (a : ShTs (ref07_move_fm n).ash) (o : ObTs (ref07_move_fm n).os) : evalF (ref07_move_cx n) Tryz.f56 (ref07_move_fm n) a o = (ref07_move_fm n).run a o := by kernel_rfl
def ref07_twoo (n : Nat) (s0 : GIns) (s1 : Bool) (s2 : Bool) : Option ((Int × Bool × Unit) × Unit) :=
 bif (ieq s0.op 20) then
 ((bif (bif s2 then (ieq s0.rd s0.rm) else false) then (ref07_lowo n ([s0.rd, s0.rn] : List Int)) else (some (dfS (.ty .b), dfObs [])))).bind fun y1 =>
 some (((wor .i64 (wor .i64 17216 (wshl .i64 s0.rn 3)) s0.rd), (bif (bif s2 then (ieq s0.rd s0.rm) else false) then y1.1 else false), ()), ())
 else
 bif (ieq s0.op 9) then
 ((bif (bif (bif (ieq s0.mode 1) then (ieq s0.imm 0) else false) then s1 else false) then (ref07_lowo n ([s0.rd, s0.rn] : List Int)) else (some (dfS (.ty .b), dfObs [])))).bind fun y2 =>
 some (((wor .i64 (wor .i64 16960 (wshl .i64 s0.rn 3)) s0.rd), (bif (bif (bif (ieq s0.mode 1) then (ieq s0.imm 0) else false) then s1 else false) then y2.1 else false), ()), ())
 else
 bif (bNot (ieq s0.mode 2)) then
 some (((0 : Int), false, ()), ())
 else
 ((bif (bif (ieq s0.rd s0.rn) then s1 else false) then (ref07_lowo n ([s0.rd, s0.rm] : List Int)) else (some (dfS (.ty .b), dfObs [])))).bind fun y3 =>
 bif (ieq s0.op 1) then
 some (((wor .i64 16384 (wor .i64 (wshl .i64 s0.rm 3) s0.rd)), (bif (bif (ieq s0.rd s0.rn) then s1 else false) then y3.1 else false), ()), ())
 else
 bif (ieq s0.op 2) then
 some (((wor .i64 16448 (wor .i64 (wshl .i64 s0.rm 3) s0.rd)), (bif (bif (ieq s0.rd s0.rn) then s1 else false) then y3.1 else false), ()), ())
 else
 bif (ieq s0.op 6) then
 some (((wor .i64 16704 (wor .i64 (wshl .i64 s0.rm 3) s0.rd)), (bif (bif (ieq s0.rd s0.rn) then s1 else false) then y3.1 else false), ()), ())
 else
 bif (ieq s0.op 8) then
 some (((wor .i64 16768 (wor .i64 (wshl .i64 s0.rm 3) s0.rd)), (bif (bif (ieq s0.rd s0.rn) then s1 else false) then y3.1 else false), ()), ())
 else
 bif (ieq s0.op 3) then
 some (((wor .i64 17152 (wor .i64 (wshl .i64 s0.rm 3) s0.rd)), (bif (bif (ieq s0.rd s0.rn) then s1 else false) then y3.1 else false), ()), ())
 else
 bif (ieq s0.op 4) then
 some (((wor .i64 17280 (wor .i64 (wshl .i64 s0.rm 3) s0.rd)), (bif (bif (ieq s0.rd s0.rn) then s1 else false) then y3.1 else false), ()), ())
 else
 bif (ieq s0.op 11) then
 ((bif s1 then (ref07_lowo n ([s0.rd, s0.rm] : List Int)) else (some (dfS (.ty .b), dfObs [])))).bind fun y4 =>
 some (((wor .i64 17344 (wor .i64 (wshl .i64 s0.rm 3) s0.rd)), (bif s1 then y4.1 else false), ()), ())
 else
 bif (ieq s0.op 14) then
 ((ref07_lowo n ([s0.rn, s0.rm] : List Int))).bind fun y5 =>
 some (((wor .i64 (wor .i64 16896 (wshl .i64 s0.rm 3)) s0.rn), y5.1, ()), ())
 else
 bif (ieq s0.op 13) then
 ((ref07_lowo n ([s0.rn, s0.rm] : List Int))).bind fun y6 =>
 some (((wor .i64 (wor .i64 17088 (wshl .i64 s0.rm 3)) s0.rn), y6.1, ()), ())
 else
 some (((0 : Int), false, ()), ())
def ref07_two_fm (n : Nat) : FM := ⟨[(.ty .ins), (.ty .b), (.ty .b)], [], (.tup [(.ty (.i .i64)), (.ty .b)]), true, none, fun a o => ref07_twoo n a.1 a.2.1 a.2.2.1⟩
def ref07_two_cx (n : Nat) : Cx := ⟨ti, ty, gl, fun g => find [] g [(88, [ref07_low_fm n])], fun k => find none k [], [], false, false⟩
theorem ref07_two_ev (n : Nat) (a : ShTs (ref07_two_fm n).ash) (o : ObTs (ref07_two_fm n).os) : evalF (ref07_two_cx n) Tryz.f57 (ref07_two_fm n) a o = (ref07_two_fm n).run a o := by kernel_rfl
def ref07_shifto (n : Nat) (s0 : GIns) (s1 : Bool) : Option ((Int × Bool × Unit) × Unit) :=
 bif (ieq s0.mode 1) then
 ((bif (bif (bNot (ieq s0.op 19)) then s1 else false) then (ref07_lowo n ([s0.rd, s0.rn] : List Int)) else (some (dfS (.ty .b), dfObs [])))).bind fun y1 =>
 some (((wor .i64 (wor .i64 (wor .i64 (wshl .i64 (wr .i64 (isub s0.op 16)) 11) (wshl .i64 (wand .i64 s0.imm 31) 6)) (wshl .i64 s0.rn 3)) s0.rd), (bif (bif (bNot (ieq s0.op 19)) then s1 else false) then y1.1 else false), ()), ())
 else
 chk (inside (wr .i64 (isub s0.op 16)) (iof (@xlen (.i .i64) ([16512, 16576, 16640, 16832] : List Int)))) (
 ((bif (bif s1 then (ieq s0.rd s0.rn) else false) then (ref07_lowo n ([s0.rd, s0.rm] : List Int)) else (some (dfS (.ty .b), dfObs [])))).bind fun y2 =>
 some (((wor .i64 (wor .i64 (@xget (.i .i64) ([16512, 16576, 16640, 16832] : List Int) (Int.toNat (wr .i64 (isub s0.op 16)))) (wshl .i64 s0.rm 3)) s0.rd), (bif (bif s1 then (ieq s0.rd s0.rn) else false) then y2.1 else false), ()), ()))
def ref07_shift_fm (n : Nat) : FM := ⟨[(.ty .ins), (.ty .b)], [], (.tup [(.ty (.i .i64)), (.ty .b)]), true, none, fun a o => ref07_shifto n a.1 a.2.1⟩
def ref07_shift_cx (n : Nat) : Cx := ⟨ti, ty, gl, fun g => find [] g [(88, [ref07_low_fm n])], fun k => find none k [], [], false, false⟩
theorem ref07_shift_ev (n : Nat) (a : ShTs (ref07_shift_fm n).ash) (o : ObTs (ref07_shift_fm n).os) : evalF (ref07_shift_cx n) Tryz.f58 (ref07_shift_fm n) a o = (ref07_shift_fm n).run a o := by kernel_rfl
def ref07_loado (n : Nat) (s0 : GIns) : Option ((Int × Bool × Unit) × Unit) :=
 bif (ieq s0.mode 2) then
 chk (inside (wr .i64 (isub s0.op 25)) (iof (@xlen (.i .i64) ([22528, 23552, 23040, 20480, 21504, 20992] : List Int)))) (
 ((ref07_lowo n ([s0.rd, s0.rn, s0.rm] : List Int))).bind fun y1 =>
 some (((wor .i64 (wor .i64 (wor .i64 (@xget (.i .i64) ([22528, 23552, 23040, 20480, 21504, 20992] : List Int) (Int.toNat (wr .i64 (isub s0.op 25)))) (wshl .i64 s0.rm 6)) (wshl .i64 s0.rn 3)) s0.rd), y1.1, ()), ()))
 else
 bif (ieq s0.rn 13) then
 bif (ieq s0.op 28) then
 ((bif (bif (ieq s0.op 25) then true else (ieq s0.op 28)) then (ref07_lowo n ([s0.rd] : List Int)) else (some (dfS (.ty .b), dfObs [])))).bind fun y2 =>
 some (((wor .i64 (wor .i64 36864 (wshl .i64 s0.rd 8)) (wquo .i64 s0.imm 4)), (bif (bif (bif (bif (ieq s0.op 25) then true else (ieq s0.op 28)) then y2.1 else false) then (ieq (wrem s0.imm 4) 0) else false) then (ile s0.imm 1020) else false), ()), ())
 else
 ((bif (bif (ieq s0.op 25) then true else (ieq s0.op 28)) then (ref07_lowo n ([s0.rd] : List Int)) else (some (dfS (.ty .b), dfObs [])))).bind fun y3 =>
 some (((wor .i64 (wor .i64 38912 (wshl .i64 s0.rd 8)) (wquo .i64 s0.imm 4)), (bif (bif (bif (bif (ieq s0.op 25) then true else (ieq s0.op 28)) then y3.1 else false) then (ieq (wrem s0.imm 4) 0) else false) then (ile s0.imm 1020) else false), ()), ())
 else
 chk (inside (wr .i64 (isub s0.op 25)) (iof (@xlen (.i .i64) ([26624, 30720, 34816, 24576, 28672, 32768] : List Int)))) (
 chk (inside (wr .i64 (isub s0.op 25)) (iof (@xlen (.i .i64) ([4, 1, 2, 4, 1, 2] : List Int)))) (
 chk (bNot (ieq (@xget (.i .i64) ([4, 1, 2, 4, 1, 2] : List Int) (Int.toNat (wr .i64 (isub s0.op 25)))) 0)) (
 ((ref07_lowo n ([s0.rd, s0.rn] : List Int))).bind fun y4 =>
 chk (bNot (bAnd (bNot (bNot (ieq (@xget (.i .i64) ([4, 1, 2, 4, 1, 2] : List Int) (Int.toNat (wr .i64 (isub s0.op 25)))) 0))) y4.1)) (
 chk (bNot (bAnd (bNot (bNot (ieq (@xget (.i .i64) ([4, 1, 2, 4, 1, 2] : List Int) (Int.toNat (wr .i64 (isub s0.op 25)))) 0))) (bif y4.1 then (ieq (wrem s0.imm (@xget (.i .i64) ([4, 1, 2, 4, 1, 2] : List Int) (Int.toNat (wr .i64 (isub s0.op 25))))) 0) else false))) (
 some (((wor .i64 (wor .i64 (wor .i64 (@xget (.i .i64) ([26624, 30720, 34816, 24576, 28672, 32768] : List Int) (Int.toNat (wr .i64 (isub s0.op 25)))) (wshl .i64 (wquo .i64 s0.imm (@xget (.i .i64) ([4, 1, 2, 4, 1, 2] : List Int) (Int.toNat (wr .i64 (isub s0.op 25))))) 6)) (wshl .i64 s0.rn 3)) s0.rd), (bif (bif y4.1 then (ieq (wrem s0.imm (@xget (.i .i64) ([4, 1, 2, 4, 1, 2] : List Int) (Int.toNat (wr .i64 (isub s0.op 25))))) 0) else false) then (ile (wquo .i64 s0.imm (@xget (.i .i64) ([4, 1, 2, 4, 1, 2] : List Int) (Int.toNat (wr .i64 (isub s0.op 25))))) 31) else false), ()), ()))))))
def ref07_load_fm (n : Nat) : FM := ⟨[(.ty .ins)], [], (.tup [(.ty (.i .i64)), (.ty .b)]), true, none, fun a o => ref07_loado n a.1⟩
def ref07_load_cx (n : Nat) : Cx := ⟨ti, ty, gl, fun g => find [] g [(88, [ref07_low_fm n])], fun k => find none k [], [], false, false⟩
theorem ref07_load_ev (n : Nat) (a : ShTs (ref07_load_fm n).ash) (o : ObTs (ref07_load_fm n).os) : evalF (ref07_load_cx n) Tryz.f59 (ref07_load_fm n) a o = (ref07_load_fm n).run a o := by kernel_rfl
def ref03_lowo (kind0 : Int) : Option (Int × Unit) :=
 bif (ieq kind0 1) then
 some (((-256) : Int), ())
 else
 bif (ieq kind0 2) then
 some (((-2048) : Int), ())
 else
 bif (ieq kind0 3) then
 some (((-1048576) : Int), ())
 else
 bif (ieq kind0 4) then
 some (((-16777216) : Int), ())
 else
 some ((0 : Int), ())
theorem ref03_low_tot (kind0 : Int) : ∃ r, ref03_lowo kind0 = some (r, ()) := by
 unfold ref03_lowo
 repeat' (first | exact ⟨_, rfl⟩ | refine ex_bif ?_ ?_)
def ref03_low (kind0 : Int) : Int := ((ref03_lowo kind0).map Prod.fst).getD (dfS (.ty (.i .i64)))
theorem ref03_low_eq (kind0 : Int) : ref03_lowo kind0 = some (ref03_low kind0, ()) := by
 obtain ⟨r, h⟩ := ref03_low_tot kind0
 unfold ref03_low; rw [h]; rfl
def ref03_low_fm : FM := ⟨[(.ty (.i .i64))], [], (.ty (.i .i64)), true, some (fun a o => ref03_low a.1), fun a o => some (ref03_low a.1, o)⟩
def ref03_low_cx : Cx := ⟨ti, ty, gl, fun g => find [] g [], fun k => find none k [], [], false, false⟩
theorem ref03_low_ev (a : ShTs (ref03_low_fm).ash) (o : ObTs (ref03_low_fm).os) : evalF (ref03_low_cx) Tryz.f69 (ref03_low_fm) a o = ref03_lowo a.1 := by kernel_rfl
theorem ref03_low_evt (a : ShTs (ref03_low_fm).ash) (o : ObTs (ref03_low_fm).os) : evalF (ref03_low_cx) Tryz.f69 (ref03_low_fm) a o = (ref03_low_fm).run a o := (ref03_low_ev a o).trans (ref03_low_eq a.1)
end Go.Ev.Tryz
