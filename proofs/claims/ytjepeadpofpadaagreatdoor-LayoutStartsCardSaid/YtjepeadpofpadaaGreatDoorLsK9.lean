/- Instructions: both checks ask the same. (printed by gen07.py)  -/
import Derived.Test.YtjepeadpofpadaaGreatDoorLsK8
set_option linter.unusedSimpArgs false
set_option linter.unusedVariables false
set_option linter.unusedSectionVars false
namespace Go.Ev.Tryz
open Go Go.Ev
set_option maxHeartbeats 4000000
theorem bNot_tt : bNot true = false := rfl
theorem bNot_ff : bNot false = true := rfl
theorem plainI_t {r : Int} : isa_Plain r = true ↔ (0 ≤ r ∧ r ≤ 12) ∨ r = 14 := by show (bif (bif ile 0 r then ile r 12 else false) then true else ieq r 14) = true ↔ _; simp only [evs]
theorem plainI_f {r : Int} : isa_Plain r = false ↔ ¬ ((0 ≤ r ∧ r ≤ 12) ∨ r = 14) := by rw [← plainI_t]; cases isa_Plain r <;> simp
theorem plainR_t {r : Int} : ref06_Plain r = true ↔ (0 ≤ r ∧ r ≤ 12) ∨ r = 14 := by show (bif (bif ile 0 r then ile r 12 else false) then true else ieq r 14) = true ↔ _; simp only [evs]
theorem plainR_f {r : Int} : ref06_Plain r = false ↔ ¬ ((0 ≤ r ∧ r ≤ 12) ∨ r = 14) := by rw [← plainR_t]; cases ref06_Plain r <;> simp
theorem within_t {n a b : Int} : isa_within n a b = true ↔ a ≤ n ∧ n ≤ b := by show (bif ile a n then ile n b else false) = true ↔ _; simp only [evs]
theorem within_f {n a b : Int} : isa_within n a b = false ↔ ¬ (a ≤ n ∧ n ≤ b) := by rw [← within_t]; cases isa_within n a b <;> simp
theorem in06_t {n a b : Int} : ref06_in n a b = true ↔ a ≤ n ∧ n ≤ b := by show (bif ile a n then ile n b else false) = true ↔ _; simp only [evs]
theorem in06_f {n a b : Int} : ref06_in n a b = false ↔ ¬ (a ≤ n ∧ n ≤ b) := by rw [← in06_t]; cases ref06_in n a b <;> simp
theorem last06_eq (i : GIns) (a b : Int) : ref06_last i a b = bif ieq i.mode 1 then ref06_in i.imm a b else bif ieq i.mode 2 then ref06_Plain i.rm else false := by
  unfold ref06_last ref06_lasto
  cases ieq i.mode 1 <;> rfl
theorem data06_eq (i : GIns) : ref06_data i = (ref06_datao i).elim false Prod.fst := by
  unfold ref06_data
  cases ref06_datao i <;> rfl
theorem bEq_t {a b : Bool} : bEq a b = true ↔ a = b := by cases a <;> cases b <;> simp [bEq]
theorem bEq_f {a b : Bool} : bEq a b = false ↔ a ≠ b := by cases a <;> cases b <;> simp [bEq]
def Pl (r : Int) : Prop := (0 ≤ r ∧ r ≤ 12) ∨ r = 14
def La (rm imm mode lo hi : Int) : Prop := (mode = 2 ∧ Pl rm ∧ imm = 0) ∨ (mode = 1 ∧ lo ≤ imm ∧ imm ≤ hi ∧ rm = 0)
theorem fill_dnms (i : GIns) : insI (fill (itI i) ⟨#[100, 110, 109, 115]⟩ 4) = ⟨i.op, 0, i.rd, i.rn, bif ieq i.mode 2 then i.rm else 0, bif ieq i.mode 2 then 0 else i.imm, i.mode, 0, i.s⟩ := by
  cases h : ieq i.mode 2 <;> simp only [ieq] at h <;> simp [fill, stepB, itI, insI, h, sget, ieq]
theorem fill_dms (i : GIns) : insI (fill (itI i) ⟨#[100, 109, 115]⟩ 3) = ⟨i.op, 0, i.rd, 0, bif ieq i.mode 2 then i.rm else 0, bif ieq i.mode 2 then 0 else i.imm, i.mode, 0, i.s⟩ := by
  cases h : ieq i.mode 2 <;> simp only [ieq] at h <;> simp [fill, stepB, itI, insI, h, sget, ieq]
theorem fill_nm (i : GIns) : insI (fill (itI i) ⟨#[110, 109]⟩ 2) = ⟨i.op, 0, 0, i.rn, bif ieq i.mode 2 then i.rm else 0, bif ieq i.mode 2 then 0 else i.imm, i.mode, 0, false⟩ := by
  cases h : ieq i.mode 2 <;> simp only [ieq] at h <;> simp [fill, stepB, itI, insI, h, sget, ieq]
theorem fill_dnm (i : GIns) : insI (fill (itI i) ⟨#[100, 110, 109]⟩ 3) = ⟨i.op, 0, i.rd, i.rn, bif ieq i.mode 2 then i.rm else 0, bif ieq i.mode 2 then 0 else i.imm, i.mode, 0, false⟩ := by
  cases h : ieq i.mode 2 <;> simp only [ieq] at h <;> simp [fill, stepB, itI, insI, h, sget, ieq]
theorem fill_dm (i : GIns) : insI (fill (itI i) ⟨#[100, 109]⟩ 2) = ⟨i.op, 0, i.rd, 0, bif ieq i.mode 2 then i.rm else 0, bif ieq i.mode 2 then 0 else i.imm, i.mode, 0, false⟩ := by
  cases h : ieq i.mode 2 <;> simp only [ieq] at h <;> simp [fill, stepB, itI, insI, h, sget, ieq]
theorem fill_nl (i : GIns) : insI (fill (itI i) ⟨#[110, 108]⟩ 2) = ⟨i.op, 0, 0, i.rn, 0, 0, 0, i.list, false⟩ := by
  cases h : ieq i.mode 2 <;> simp only [ieq] at h <;> simp [fill, stepB, itI, insI, h, sget, ieq]
theorem fill_l (i : GIns) : insI (fill (itI i) ⟨#[108]⟩ 1) = ⟨i.op, 0, 0, 0, 0, 0, 0, i.list, false⟩ := by
  cases h : ieq i.mode 2 <;> simp only [ieq] at h <;> simp [fill, stepB, itI, insI, h, sget, ieq]
theorem fill_cm (i : GIns) : insI (fill (itI i) ⟨#[99, 109]⟩ 2) = ⟨i.op, i.cond, 0, 0, bif ieq i.mode 2 then i.rm else 0, bif ieq i.mode 2 then 0 else i.imm, i.mode, 0, false⟩ := by
  cases h : ieq i.mode 2 <;> simp only [ieq] at h <;> simp [fill, stepB, itI, insI, h, sget, ieq]
theorem fill_m (i : GIns) : insI (fill (itI i) ⟨#[109]⟩ 1) = ⟨i.op, 0, 0, 0, bif ieq i.mode 2 then i.rm else 0, bif ieq i.mode 2 then 0 else i.imm, i.mode, 0, false⟩ := by
  cases h : ieq i.mode 2 <;> simp only [ieq] at h <;> simp [fill, stepB, itI, insI, h, sget, ieq]
theorem fill_e (i : GIns) : insI (fill (itI i) ⟨#[]⟩ 0) = ⟨i.op, 0, 0, 0, 0, 0, 0, 0, false⟩ := by
  cases h : ieq i.mode 2 <;> simp only [ieq] at h <;> simp [fill, stepB, itI, insI, h, sget, ieq]
def Cp1 (cond rd rn rm imm mode list : Int) (s : Bool) : Prop := Pl rd ∧ Pl rn ∧ La rm imm mode 0 4294967295 ∧ cond = 0 ∧ list = 0
theorem CI1 (op cond rd rn rm imm mode list : Int) (s : Bool) (hop : op = 1 ∨ op = 2 ∨ op = 3 ∨ op = 4 ∨ op = 5 ∨ op = 6 ∨ op = 7 ∨ op = 8 ∨ op = 9) : Ends (fun n => isa_Checko n ⟨op, cond, rd, rn, rm, imm, mode, list, s⟩) (fun r => r.1 = 0 ↔ Cp1 cond rd rn rm imm mode list s) := by
  rcases hop with rfl | rfl | rfl | rfl | rfl | rfl | rfl | rfl | rfl <;> cases s <;> cases hm : ieq mode 2 <;> cases hn : ieq rn 13 <;> simp only [isa_Checko, isa_look_datao, isa_look_otherso, isa_look_do, isa_look_no, isa_look_lasto, isa_look_rego, isa_look_immo, isa_look_iso, Option.bind_some, hm, hn, cond_true, cond_false, bNot_tt, bNot_ff, ieqF, ieqT, ileT, ileF, iltT, iltF, Int.reduceLE, Int.reduceLT, Int.reduceEq, ne_eq, not_false_eq_true]
  all_goals (repeat' (first | (with_reducible refine Ends.ret ?_) | (with_reducible refine Ends.bif (fun h => ?_) (fun h => ?_))))
  all_goals (simp only [Cp1, evs, lgs, plainI_t, plainI_f, within_t, within_f, Pl, La, bEq_t, bEq_f] at *)
  all_goals omega
theorem CR1 (op cond rd rn rm imm mode list : Int) (s : Bool) (hop : op = 1 ∨ op = 2 ∨ op = 3 ∨ op = 4 ∨ op = 5 ∨ op = 6 ∨ op = 7 ∨ op = 8 ∨ op = 9) : Ends (fun n => ref06_Checko n ⟨op, cond, rd, rn, rm, imm, mode, list, s⟩) (fun r => r.1 = 0 ↔ Cp1 cond rd rn rm imm mode list s) := by
  rcases hop with rfl | rfl | rfl | rfl | rfl | rfl | rfl | rfl | rfl <;> cases s <;> cases hm : ieq mode 2 <;> cases h1 : ieq mode 1 <;> simp only [ref06_Checko, data06_eq, Option.elim_some, ref06_datao, ref06_resto, last06_eq, Option.map_some, Option.getD_some, Option.bind_some, hm, h1, bNot_tt, bNot_ff, cond_true, cond_false, ieqF, ieqT, ileT, ileF, iltT, iltF, Int.reduceLE, Int.reduceLT, Int.reduceEq, ne_eq, not_false_eq_true, show ref06_fields 1 = ⟨#[100, 110, 109, 115]⟩ from rfl, show ref06_fields 2 = ⟨#[100, 110, 109, 115]⟩ from rfl, show ref06_fields 3 = ⟨#[100, 110, 109, 115]⟩ from rfl, show ref06_fields 4 = ⟨#[100, 110, 109, 115]⟩ from rfl, show ref06_fields 5 = ⟨#[100, 110, 109, 115]⟩ from rfl, show ref06_fields 6 = ⟨#[100, 110, 109, 115]⟩ from rfl, show ref06_fields 7 = ⟨#[100, 110, 109, 115]⟩ from rfl, show ref06_fields 8 = ⟨#[100, 110, 109, 115]⟩ from rfl, show ref06_fields 9 = ⟨#[100, 110, 109, 115]⟩ from rfl]
  all_goals (refine Ends.bind (bare_ends _ _ (by decide)) ?_; rintro ⟨y1, _⟩ hy; replace hy : y1 = _ := hy.trans (fill_dnms _); subst hy; simp only [hm, h1, cond_true, cond_false])
  all_goals (repeat' (first | (with_reducible refine Ends.ret ?_) | (with_reducible refine Ends.bif (fun h => ?_) (fun h => ?_))))
  all_goals (simp only [Cp1, evs, lgs, plainR_t, plainR_f, in06_t, in06_f, Pl, La, bEq_t, bEq_f] at *)
  all_goals omega
def Cp10 (cond rd rn rm imm mode list : Int) (s : Bool) : Prop := (mode = 2 ∧ s = false ∧ 0 ≤ rd ∧ rd ≤ 14 ∧ 0 ≤ rm ∧ rm ≤ 14 ∧ rn = 0 ∧ imm = 0 ∧ cond = 0 ∧ list = 0) ∨ ((mode ≠ 2 ∨ s = true) ∧ Pl rd ∧ La rm imm mode 0 4294967295 ∧ rn = 0 ∧ cond = 0 ∧ list = 0)
theorem CI10 (op cond rd rn rm imm mode list : Int) (s : Bool) (hop : op = 10) : Ends (fun n => isa_Checko n ⟨op, cond, rd, rn, rm, imm, mode, list, s⟩) (fun r => r.1 = 0 ↔ Cp10 cond rd rn rm imm mode list s) := by
  subst hop <;> cases s <;> cases hm : ieq mode 2 <;> cases hn : ieq rn 13 <;> simp only [isa_Checko, isa_look_datao, isa_look_otherso, isa_look_do, isa_look_no, isa_look_lasto, isa_look_rego, isa_look_immo, isa_look_iso, Option.bind_some, hm, hn, cond_true, cond_false, bNot_tt, bNot_ff, ieqF, ieqT, ileT, ileF, iltT, iltF, Int.reduceLE, Int.reduceLT, Int.reduceEq, ne_eq, not_false_eq_true]
  all_goals (repeat' (first | (with_reducible refine Ends.ret ?_) | (with_reducible refine Ends.bif (fun h => ?_) (fun h => ?_))))
  all_goals (simp only [Cp10, evs, lgs, plainI_t, plainI_f, within_t, within_f, Pl, La, bEq_t, bEq_f] at *)
  all_goals omega
theorem CR10 (op cond rd rn rm imm mode list : Int) (s : Bool) (hop : op = 10) : Ends (fun n => ref06_Checko n ⟨op, cond, rd, rn, rm, imm, mode, list, s⟩) (fun r => r.1 = 0 ↔ Cp10 cond rd rn rm imm mode list s) := by
  subst hop <;> cases s <;> cases hm : ieq mode 2 <;> cases h1 : ieq mode 1 <;> simp only [ref06_Checko, data06_eq, Option.elim_some, ref06_datao, ref06_resto, last06_eq, Option.map_some, Option.getD_some, Option.bind_some, hm, h1, bNot_tt, bNot_ff, cond_true, cond_false, ieqF, ieqT, ileT, ileF, iltT, iltF, Int.reduceLE, Int.reduceLT, Int.reduceEq, ne_eq, not_false_eq_true, show ref06_fields 10 = ⟨#[100, 109, 115]⟩ from rfl]
  all_goals (refine Ends.bind (bare_ends _ _ (by decide)) ?_; rintro ⟨y1, _⟩ hy; replace hy : y1 = _ := hy.trans (fill_dms _); subst hy; simp only [hm, h1, cond_true, cond_false])
  all_goals (repeat' (first | (with_reducible refine Ends.ret ?_) | (with_reducible refine Ends.bif (fun h => ?_) (fun h => ?_))))
  all_goals (simp only [Cp10, evs, lgs, plainR_t, plainR_f, in06_t, in06_f, Pl, La, bEq_t, bEq_f] at *)
  all_goals omega
def Cp11 (cond rd rn rm imm mode list : Int) (s : Bool) : Prop := Pl rd ∧ La rm imm mode 0 4294967295 ∧ rn = 0 ∧ cond = 0 ∧ list = 0
theorem CI11 (op cond rd rn rm imm mode list : Int) (s : Bool) (hop : op = 11) : Ends (fun n => isa_Checko n ⟨op, cond, rd, rn, rm, imm, mode, list, s⟩) (fun r => r.1 = 0 ↔ Cp11 cond rd rn rm imm mode list s) := by
  subst hop <;> cases s <;> cases hm : ieq mode 2 <;> cases hn : ieq rn 13 <;> simp only [isa_Checko, isa_look_datao, isa_look_otherso, isa_look_do, isa_look_no, isa_look_lasto, isa_look_rego, isa_look_immo, isa_look_iso, Option.bind_some, hm, hn, cond_true, cond_false, bNot_tt, bNot_ff, ieqF, ieqT, ileT, ileF, iltT, iltF, Int.reduceLE, Int.reduceLT, Int.reduceEq, ne_eq, not_false_eq_true]
  all_goals (repeat' (first | (with_reducible refine Ends.ret ?_) | (with_reducible refine Ends.bif (fun h => ?_) (fun h => ?_))))
  all_goals (simp only [Cp11, evs, lgs, plainI_t, plainI_f, within_t, within_f, Pl, La, bEq_t, bEq_f] at *)
  all_goals omega
theorem CR11 (op cond rd rn rm imm mode list : Int) (s : Bool) (hop : op = 11) : Ends (fun n => ref06_Checko n ⟨op, cond, rd, rn, rm, imm, mode, list, s⟩) (fun r => r.1 = 0 ↔ Cp11 cond rd rn rm imm mode list s) := by
  subst hop <;> cases s <;> cases hm : ieq mode 2 <;> cases h1 : ieq mode 1 <;> simp only [ref06_Checko, data06_eq, Option.elim_some, ref06_datao, ref06_resto, last06_eq, Option.map_some, Option.getD_some, Option.bind_some, hm, h1, bNot_tt, bNot_ff, cond_true, cond_false, ieqF, ieqT, ileT, ileF, iltT, iltF, Int.reduceLE, Int.reduceLT, Int.reduceEq, ne_eq, not_false_eq_true, show ref06_fields 11 = ⟨#[100, 109, 115]⟩ from rfl]
  all_goals (refine Ends.bind (bare_ends _ _ (by decide)) ?_; rintro ⟨y1, _⟩ hy; replace hy : y1 = _ := hy.trans (fill_dms _); subst hy; simp only [hm, h1, cond_true, cond_false])
  all_goals (repeat' (first | (with_reducible refine Ends.ret ?_) | (with_reducible refine Ends.bif (fun h => ?_) (fun h => ?_))))
  all_goals (simp only [Cp11, evs, lgs, plainR_t, plainR_f, in06_t, in06_f, Pl, La, bEq_t, bEq_f] at *)
  all_goals omega
def Cp12 (cond rd rn rm imm mode list : Int) (s : Bool) : Prop := Pl rn ∧ La rm imm mode 0 4294967295 ∧ rd = 0 ∧ s = false ∧ cond = 0 ∧ list = 0
theorem CI12 (op cond rd rn rm imm mode list : Int) (s : Bool) (hop : op = 12 ∨ op = 13 ∨ op = 14 ∨ op = 15) : Ends (fun n => isa_Checko n ⟨op, cond, rd, rn, rm, imm, mode, list, s⟩) (fun r => r.1 = 0 ↔ Cp12 cond rd rn rm imm mode list s) := by
  rcases hop with rfl | rfl | rfl | rfl <;> cases s <;> cases hm : ieq mode 2 <;> cases hn : ieq rn 13 <;> simp only [isa_Checko, isa_look_datao, isa_look_otherso, isa_look_do, isa_look_no, isa_look_lasto, isa_look_rego, isa_look_immo, isa_look_iso, Option.bind_some, hm, hn, cond_true, cond_false, bNot_tt, bNot_ff, ieqF, ieqT, ileT, ileF, iltT, iltF, Int.reduceLE, Int.reduceLT, Int.reduceEq, ne_eq, not_false_eq_true]
  all_goals (repeat' (first | (with_reducible refine Ends.ret ?_) | (with_reducible refine Ends.bif (fun h => ?_) (fun h => ?_))))
  all_goals (simp only [Cp12, evs, lgs, plainI_t, plainI_f, within_t, within_f, Pl, La, bEq_t, bEq_f] at *)
  all_goals omega
theorem CR12 (op cond rd rn rm imm mode list : Int) (s : Bool) (hop : op = 12 ∨ op = 13 ∨ op = 14 ∨ op = 15) : Ends (fun n => ref06_Checko n ⟨op, cond, rd, rn, rm, imm, mode, list, s⟩) (fun r => r.1 = 0 ↔ Cp12 cond rd rn rm imm mode list s) := by
  rcases hop with rfl | rfl | rfl | rfl <;> cases s <;> cases hm : ieq mode 2 <;> cases h1 : ieq mode 1 <;> simp only [ref06_Checko, data06_eq, Option.elim_some, ref06_datao, ref06_resto, last06_eq, Option.map_some, Option.getD_some, Option.bind_some, hm, h1, bNot_tt, bNot_ff, cond_true, cond_false, ieqF, ieqT, ileT, ileF, iltT, iltF, Int.reduceLE, Int.reduceLT, Int.reduceEq, ne_eq, not_false_eq_true, show ref06_fields 12 = ⟨#[110, 109]⟩ from rfl, show ref06_fields 13 = ⟨#[110, 109]⟩ from rfl, show ref06_fields 14 = ⟨#[110, 109]⟩ from rfl, show ref06_fields 15 = ⟨#[110, 109]⟩ from rfl]
  all_goals (refine Ends.bind (bare_ends _ _ (by decide)) ?_; rintro ⟨y1, _⟩ hy; replace hy : y1 = _ := hy.trans (fill_nm _); subst hy; simp only [hm, h1, cond_true, cond_false])
  all_goals (repeat' (first | (with_reducible refine Ends.ret ?_) | (with_reducible refine Ends.bif (fun h => ?_) (fun h => ?_))))
  all_goals (simp only [Cp12, evs, lgs, plainR_t, plainR_f, in06_t, in06_f, Pl, La, bEq_t, bEq_f] at *)
  all_goals omega
def Cp16 (cond rd rn rm imm mode list : Int) (s : Bool) : Prop := Pl rd ∧ Pl rn ∧ La rm imm mode 1 31 ∧ cond = 0 ∧ list = 0
theorem CI16 (op cond rd rn rm imm mode list : Int) (s : Bool) (hop : op = 16 ∨ op = 19) : Ends (fun n => isa_Checko n ⟨op, cond, rd, rn, rm, imm, mode, list, s⟩) (fun r => r.1 = 0 ↔ Cp16 cond rd rn rm imm mode list s) := by
  rcases hop with rfl | rfl <;> cases s <;> cases hm : ieq mode 2 <;> cases hn : ieq rn 13 <;> simp only [isa_Checko, isa_look_datao, isa_look_otherso, isa_look_do, isa_look_no, isa_look_lasto, isa_look_rego, isa_look_immo, isa_look_iso, Option.bind_some, hm, hn, cond_true, cond_false, bNot_tt, bNot_ff, ieqF, ieqT, ileT, ileF, iltT, iltF, Int.reduceLE, Int.reduceLT, Int.reduceEq, ne_eq, not_false_eq_true]
  all_goals (repeat' (first | (with_reducible refine Ends.ret ?_) | (with_reducible refine Ends.bif (fun h => ?_) (fun h => ?_))))
  all_goals (simp only [Cp16, evs, lgs, plainI_t, plainI_f, within_t, within_f, Pl, La, bEq_t, bEq_f] at *)
  all_goals omega
theorem CR16 (op cond rd rn rm imm mode list : Int) (s : Bool) (hop : op = 16 ∨ op = 19) : Ends (fun n => ref06_Checko n ⟨op, cond, rd, rn, rm, imm, mode, list, s⟩) (fun r => r.1 = 0 ↔ Cp16 cond rd rn rm imm mode list s) := by
  rcases hop with rfl | rfl <;> cases s <;> cases hm : ieq mode 2 <;> cases h1 : ieq mode 1 <;> simp only [ref06_Checko, data06_eq, Option.elim_some, ref06_datao, ref06_resto, last06_eq, Option.map_some, Option.getD_some, Option.bind_some, hm, h1, bNot_tt, bNot_ff, cond_true, cond_false, ieqF, ieqT, ileT, ileF, iltT, iltF, Int.reduceLE, Int.reduceLT, Int.reduceEq, ne_eq, not_false_eq_true, show ref06_fields 16 = ⟨#[100, 110, 109, 115]⟩ from rfl, show ref06_fields 19 = ⟨#[100, 110, 109, 115]⟩ from rfl]
  all_goals (refine Ends.bind (bare_ends _ _ (by decide)) ?_; rintro ⟨y1, _⟩ hy; replace hy : y1 = _ := hy.trans (fill_dnms _); subst hy; simp only [hm, h1, cond_true, cond_false])
  all_goals (repeat' (first | (with_reducible refine Ends.ret ?_) | (with_reducible refine Ends.bif (fun h => ?_) (fun h => ?_))))
  all_goals (simp only [Cp16, evs, lgs, plainR_t, plainR_f, in06_t, in06_f, Pl, La, bEq_t, bEq_f] at *)
  all_goals omega
def Cp17 (cond rd rn rm imm mode list : Int) (s : Bool) : Prop := Pl rd ∧ Pl rn ∧ La rm imm mode 1 32 ∧ cond = 0 ∧ list = 0
theorem CI17 (op cond rd rn rm imm mode list : Int) (s : Bool) (hop : op = 17 ∨ op = 18) : Ends (fun n => isa_Checko n ⟨op, cond, rd, rn, rm, imm, mode, list, s⟩) (fun r => r.1 = 0 ↔ Cp17 cond rd rn rm imm mode list s) := by
  rcases hop with rfl | rfl <;> cases s <;> cases hm : ieq mode 2 <;> cases hn : ieq rn 13 <;> simp only [isa_Checko, isa_look_datao, isa_look_otherso, isa_look_do, isa_look_no, isa_look_lasto, isa_look_rego, isa_look_immo, isa_look_iso, Option.bind_some, hm, hn, cond_true, cond_false, bNot_tt, bNot_ff, ieqF, ieqT, ileT, ileF, iltT, iltF, Int.reduceLE, Int.reduceLT, Int.reduceEq, ne_eq, not_false_eq_true]
  all_goals (repeat' (first | (with_reducible refine Ends.ret ?_) | (with_reducible refine Ends.bif (fun h => ?_) (fun h => ?_))))
  all_goals (simp only [Cp17, evs, lgs, plainI_t, plainI_f, within_t, within_f, Pl, La, bEq_t, bEq_f] at *)
  all_goals omega
theorem CR17 (op cond rd rn rm imm mode list : Int) (s : Bool) (hop : op = 17 ∨ op = 18) : Ends (fun n => ref06_Checko n ⟨op, cond, rd, rn, rm, imm, mode, list, s⟩) (fun r => r.1 = 0 ↔ Cp17 cond rd rn rm imm mode list s) := by
  rcases hop with rfl | rfl <;> cases s <;> cases hm : ieq mode 2 <;> cases h1 : ieq mode 1 <;> simp only [ref06_Checko, data06_eq, Option.elim_some, ref06_datao, ref06_resto, last06_eq, Option.map_some, Option.getD_some, Option.bind_some, hm, h1, bNot_tt, bNot_ff, cond_true, cond_false, ieqF, ieqT, ileT, ileF, iltT, iltF, Int.reduceLE, Int.reduceLT, Int.reduceEq, ne_eq, not_false_eq_true, show ref06_fields 17 = ⟨#[100, 110, 109, 115]⟩ from rfl, show ref06_fields 18 = ⟨#[100, 110, 109, 115]⟩ from rfl]
  all_goals (refine Ends.bind (bare_ends _ _ (by decide)) ?_; rintro ⟨y1, _⟩ hy; replace hy : y1 = _ := hy.trans (fill_dnms _); subst hy; simp only [hm, h1, cond_true, cond_false])
  all_goals (repeat' (first | (with_reducible refine Ends.ret ?_) | (with_reducible refine Ends.bif (fun h => ?_) (fun h => ?_))))
  all_goals (simp only [Cp17, evs, lgs, plainR_t, plainR_f, in06_t, in06_f, Pl, La, bEq_t, bEq_f] at *)
  all_goals omega
def Cp20 (cond rd rn rm imm mode list : Int) (s : Bool) : Prop := Pl rd ∧ Pl rn ∧ mode = 2 ∧ Pl rm ∧ imm = 0 ∧ s = false ∧ cond = 0 ∧ list = 0
theorem CI20 (op cond rd rn rm imm mode list : Int) (s : Bool) (hop : op = 20 ∨ op = 21 ∨ op = 22) : Ends (fun n => isa_Checko n ⟨op, cond, rd, rn, rm, imm, mode, list, s⟩) (fun r => r.1 = 0 ↔ Cp20 cond rd rn rm imm mode list s) := by
  rcases hop with rfl | rfl | rfl <;> cases s <;> cases hm : ieq mode 2 <;> cases hn : ieq rn 13 <;> simp only [isa_Checko, isa_look_datao, isa_look_otherso, isa_look_do, isa_look_no, isa_look_lasto, isa_look_rego, isa_look_immo, isa_look_iso, Option.bind_some, hm, hn, cond_true, cond_false, bNot_tt, bNot_ff, ieqF, ieqT, ileT, ileF, iltT, iltF, Int.reduceLE, Int.reduceLT, Int.reduceEq, ne_eq, not_false_eq_true]
  all_goals (repeat' (first | (with_reducible refine Ends.ret ?_) | (with_reducible refine Ends.bif (fun h => ?_) (fun h => ?_))))
  all_goals (simp only [Cp20, evs, lgs, plainI_t, plainI_f, within_t, within_f, Pl, La, bEq_t, bEq_f] at *)
  all_goals omega
theorem CR20 (op cond rd rn rm imm mode list : Int) (s : Bool) (hop : op = 20 ∨ op = 21 ∨ op = 22) : Ends (fun n => ref06_Checko n ⟨op, cond, rd, rn, rm, imm, mode, list, s⟩) (fun r => r.1 = 0 ↔ Cp20 cond rd rn rm imm mode list s) := by
  rcases hop with rfl | rfl | rfl <;> cases s <;> cases hm : ieq mode 2 <;> cases h1 : ieq mode 1 <;> simp only [ref06_Checko, data06_eq, Option.elim_some, ref06_datao, ref06_resto, last06_eq, Option.map_some, Option.getD_some, Option.bind_some, hm, h1, bNot_tt, bNot_ff, cond_true, cond_false, ieqF, ieqT, ileT, ileF, iltT, iltF, Int.reduceLE, Int.reduceLT, Int.reduceEq, ne_eq, not_false_eq_true, show ref06_fields 20 = ⟨#[100, 110, 109]⟩ from rfl, show ref06_fields 21 = ⟨#[100, 110, 109]⟩ from rfl, show ref06_fields 22 = ⟨#[100, 110, 109]⟩ from rfl]
  all_goals (refine Ends.bind (bare_ends _ _ (by decide)) ?_; rintro ⟨y1, _⟩ hy; replace hy : y1 = _ := hy.trans (fill_dnm _); subst hy; simp only [hm, h1, cond_true, cond_false])
  all_goals (repeat' (first | (with_reducible refine Ends.ret ?_) | (with_reducible refine Ends.bif (fun h => ?_) (fun h => ?_))))
  all_goals (simp only [Cp20, evs, lgs, plainR_t, plainR_f, in06_t, in06_f, Pl, La, bEq_t, bEq_f] at *)
  all_goals omega
def Cp23 (cond rd rn rm imm mode list : Int) (s : Bool) : Prop := Pl rd ∧ mode = 1 ∧ 0 ≤ imm ∧ imm ≤ 65535 ∧ rn = 0 ∧ rm = 0 ∧ s = false ∧ cond = 0 ∧ list = 0
theorem CI23 (op cond rd rn rm imm mode list : Int) (s : Bool) (hop : op = 23 ∨ op = 24) : Ends (fun n => isa_Checko n ⟨op, cond, rd, rn, rm, imm, mode, list, s⟩) (fun r => r.1 = 0 ↔ Cp23 cond rd rn rm imm mode list s) := by
  rcases hop with rfl | rfl <;> cases s <;> cases hm : ieq mode 2 <;> cases hn : ieq rn 13 <;> simp only [isa_Checko, isa_look_datao, isa_look_otherso, isa_look_do, isa_look_no, isa_look_lasto, isa_look_rego, isa_look_immo, isa_look_iso, Option.bind_some, hm, hn, cond_true, cond_false, bNot_tt, bNot_ff, ieqF, ieqT, ileT, ileF, iltT, iltF, Int.reduceLE, Int.reduceLT, Int.reduceEq, ne_eq, not_false_eq_true]
  all_goals (repeat' (first | (with_reducible refine Ends.ret ?_) | (with_reducible refine Ends.bif (fun h => ?_) (fun h => ?_))))
  all_goals (simp only [Cp23, evs, lgs, plainI_t, plainI_f, within_t, within_f, Pl, La, bEq_t, bEq_f] at *)
  all_goals omega
theorem CR23 (op cond rd rn rm imm mode list : Int) (s : Bool) (hop : op = 23 ∨ op = 24) : Ends (fun n => ref06_Checko n ⟨op, cond, rd, rn, rm, imm, mode, list, s⟩) (fun r => r.1 = 0 ↔ Cp23 cond rd rn rm imm mode list s) := by
  rcases hop with rfl | rfl <;> cases s <;> cases hm : ieq mode 2 <;> cases h1 : ieq mode 1 <;> simp only [ref06_Checko, data06_eq, Option.elim_some, ref06_datao, ref06_resto, last06_eq, Option.map_some, Option.getD_some, Option.bind_some, hm, h1, bNot_tt, bNot_ff, cond_true, cond_false, ieqF, ieqT, ileT, ileF, iltT, iltF, Int.reduceLE, Int.reduceLT, Int.reduceEq, ne_eq, not_false_eq_true, show ref06_fields 23 = ⟨#[100, 109]⟩ from rfl, show ref06_fields 24 = ⟨#[100, 109]⟩ from rfl]
  all_goals (refine Ends.bind (bare_ends _ _ (by decide)) ?_; rintro ⟨y1, _⟩ hy; replace hy : y1 = _ := hy.trans (fill_dm _); subst hy; simp only [hm, h1, cond_true, cond_false])
  all_goals (repeat' (first | (with_reducible refine Ends.ret ?_) | (with_reducible refine Ends.bif (fun h => ?_) (fun h => ?_))))
  all_goals (simp only [Cp23, evs, lgs, plainR_t, plainR_f, in06_t, in06_f, Pl, La, bEq_t, bEq_f] at *)
  all_goals omega
def Cp25 (cond rd rn rm imm mode list : Int) (s : Bool) : Prop := Pl rd ∧ (Pl rn ∨ rn = 13) ∧ La rm imm mode 0 4095 ∧ s = false ∧ cond = 0 ∧ list = 0
theorem CI25 (op cond rd rn rm imm mode list : Int) (s : Bool) (hop : op = 25 ∨ op = 26 ∨ op = 27 ∨ op = 28 ∨ op = 29 ∨ op = 30) : Ends (fun n => isa_Checko n ⟨op, cond, rd, rn, rm, imm, mode, list, s⟩) (fun r => r.1 = 0 ↔ Cp25 cond rd rn rm imm mode list s) := by
  rcases hop with rfl | rfl | rfl | rfl | rfl | rfl <;> cases s <;> cases hm : ieq mode 2 <;> cases hn : ieq rn 13 <;> simp only [isa_Checko, isa_look_datao, isa_look_otherso, isa_look_do, isa_look_no, isa_look_lasto, isa_look_rego, isa_look_immo, isa_look_iso, Option.bind_some, hm, hn, cond_true, cond_false, bNot_tt, bNot_ff, ieqF, ieqT, ileT, ileF, iltT, iltF, Int.reduceLE, Int.reduceLT, Int.reduceEq, ne_eq, not_false_eq_true]
  all_goals (repeat' (first | (with_reducible refine Ends.ret ?_) | (with_reducible refine Ends.bif (fun h => ?_) (fun h => ?_))))
  all_goals (simp only [Cp25, evs, lgs, plainI_t, plainI_f, within_t, within_f, Pl, La, bEq_t, bEq_f] at *)
  all_goals omega
theorem CR25 (op cond rd rn rm imm mode list : Int) (s : Bool) (hop : op = 25 ∨ op = 26 ∨ op = 27 ∨ op = 28 ∨ op = 29 ∨ op = 30) : Ends (fun n => ref06_Checko n ⟨op, cond, rd, rn, rm, imm, mode, list, s⟩) (fun r => r.1 = 0 ↔ Cp25 cond rd rn rm imm mode list s) := by
  rcases hop with rfl | rfl | rfl | rfl | rfl | rfl <;> cases s <;> cases hm : ieq mode 2 <;> cases h1 : ieq mode 1 <;> simp only [ref06_Checko, data06_eq, Option.elim_some, ref06_datao, ref06_resto, last06_eq, Option.map_some, Option.getD_some, Option.bind_some, hm, h1, bNot_tt, bNot_ff, cond_true, cond_false, ieqF, ieqT, ileT, ileF, iltT, iltF, Int.reduceLE, Int.reduceLT, Int.reduceEq, ne_eq, not_false_eq_true, show ref06_fields 25 = ⟨#[100, 110, 109]⟩ from rfl, show ref06_fields 26 = ⟨#[100, 110, 109]⟩ from rfl, show ref06_fields 27 = ⟨#[100, 110, 109]⟩ from rfl, show ref06_fields 28 = ⟨#[100, 110, 109]⟩ from rfl, show ref06_fields 29 = ⟨#[100, 110, 109]⟩ from rfl, show ref06_fields 30 = ⟨#[100, 110, 109]⟩ from rfl]
  all_goals (refine Ends.bind (bare_ends _ _ (by decide)) ?_; rintro ⟨y1, _⟩ hy; replace hy : y1 = _ := hy.trans (fill_dnm _); subst hy; simp only [hm, h1, cond_true, cond_false])
  all_goals (repeat' (first | (with_reducible refine Ends.ret ?_) | (with_reducible refine Ends.bif (fun h => ?_) (fun h => ?_))))
  all_goals (simp only [Cp25, evs, lgs, plainR_t, plainR_f, in06_t, in06_f, Pl, La, bEq_t, bEq_f] at *)
  all_goals omega
def Cp39 (cond rd rn rm imm mode list : Int) (s : Bool) : Prop := mode = 2 ∧ 0 ≤ rm ∧ rm ≤ 14 ∧ rd = 0 ∧ rn = 0 ∧ imm = 0 ∧ s = false ∧ cond = 0 ∧ list = 0
theorem CI39 (op cond rd rn rm imm mode list : Int) (s : Bool) (hop : op = 39) : Ends (fun n => isa_Checko n ⟨op, cond, rd, rn, rm, imm, mode, list, s⟩) (fun r => r.1 = 0 ↔ Cp39 cond rd rn rm imm mode list s) := by
  subst hop <;> cases s <;> cases hm : ieq mode 2 <;> cases hn : ieq rn 13 <;> simp only [isa_Checko, isa_look_datao, isa_look_otherso, isa_look_do, isa_look_no, isa_look_lasto, isa_look_rego, isa_look_immo, isa_look_iso, Option.bind_some, hm, hn, cond_true, cond_false, bNot_tt, bNot_ff, ieqF, ieqT, ileT, ileF, iltT, iltF, Int.reduceLE, Int.reduceLT, Int.reduceEq, ne_eq, not_false_eq_true]
  all_goals (repeat' (first | (with_reducible refine Ends.ret ?_) | (with_reducible refine Ends.bif (fun h => ?_) (fun h => ?_))))
  all_goals (simp only [Cp39, evs, lgs, plainI_t, plainI_f, within_t, within_f, Pl, La, bEq_t, bEq_f] at *)
  all_goals omega
theorem CR39 (op cond rd rn rm imm mode list : Int) (s : Bool) (hop : op = 39) : Ends (fun n => ref06_Checko n ⟨op, cond, rd, rn, rm, imm, mode, list, s⟩) (fun r => r.1 = 0 ↔ Cp39 cond rd rn rm imm mode list s) := by
  subst hop <;> cases s <;> cases hm : ieq mode 2 <;> cases h1 : ieq mode 1 <;> simp only [ref06_Checko, data06_eq, Option.elim_some, ref06_datao, ref06_resto, last06_eq, Option.map_some, Option.getD_some, Option.bind_some, hm, h1, bNot_tt, bNot_ff, cond_true, cond_false, ieqF, ieqT, ileT, ileF, iltT, iltF, Int.reduceLE, Int.reduceLT, Int.reduceEq, ne_eq, not_false_eq_true, show ref06_fields 39 = ⟨#[109]⟩ from rfl]
  all_goals (refine Ends.bind (bare_ends _ _ (by decide)) ?_; rintro ⟨y1, _⟩ hy; replace hy : y1 = _ := hy.trans (fill_m _); subst hy; simp only [hm, h1, cond_true, cond_false])
  all_goals (repeat' (first | (with_reducible refine Ends.ret ?_) | (with_reducible refine Ends.bif (fun h => ?_) (fun h => ?_))))
  all_goals (simp only [Cp39, evs, lgs, plainR_t, plainR_f, in06_t, in06_f, Pl, La, bEq_t, bEq_f] at *)
  all_goals omega
def Cp43 (cond rd rn rm imm mode list : Int) (s : Bool) : Prop := mode = 0 ∧ rm = 0 ∧ rd = 0 ∧ rn = 0 ∧ imm = 0 ∧ s = false ∧ cond = 0 ∧ list = 0
theorem CI43 (op cond rd rn rm imm mode list : Int) (s : Bool) (hop : op = 43) : Ends (fun n => isa_Checko n ⟨op, cond, rd, rn, rm, imm, mode, list, s⟩) (fun r => r.1 = 0 ↔ Cp43 cond rd rn rm imm mode list s) := by
  subst hop <;> cases s <;> cases hm : ieq mode 2 <;> cases hn : ieq rn 13 <;> simp only [isa_Checko, isa_look_datao, isa_look_otherso, isa_look_do, isa_look_no, isa_look_lasto, isa_look_rego, isa_look_immo, isa_look_iso, Option.bind_some, hm, hn, cond_true, cond_false, bNot_tt, bNot_ff, ieqF, ieqT, ileT, ileF, iltT, iltF, Int.reduceLE, Int.reduceLT, Int.reduceEq, ne_eq, not_false_eq_true]
  all_goals (repeat' (first | (with_reducible refine Ends.ret ?_) | (with_reducible refine Ends.bif (fun h => ?_) (fun h => ?_))))
  all_goals (simp only [Cp43, evs, lgs, plainI_t, plainI_f, within_t, within_f, Pl, La, bEq_t, bEq_f] at *)
  all_goals omega
theorem CR43 (op cond rd rn rm imm mode list : Int) (s : Bool) (hop : op = 43) : Ends (fun n => ref06_Checko n ⟨op, cond, rd, rn, rm, imm, mode, list, s⟩) (fun r => r.1 = 0 ↔ Cp43 cond rd rn rm imm mode list s) := by
  subst hop <;> cases s <;> cases hm : ieq mode 2 <;> cases h1 : ieq mode 1 <;> simp only [ref06_Checko, data06_eq, Option.elim_some, ref06_datao, ref06_resto, last06_eq, Option.map_some, Option.getD_some, Option.bind_some, hm, h1, bNot_tt, bNot_ff, cond_true, cond_false, ieqF, ieqT, ileT, ileF, iltT, iltF, Int.reduceLE, Int.reduceLT, Int.reduceEq, ne_eq, not_false_eq_true, show ref06_fields 43 = ⟨#[]⟩ from rfl]
  all_goals (refine Ends.bind (bare_ends _ _ (by decide)) ?_; rintro ⟨y1, _⟩ hy; replace hy : y1 = _ := hy.trans (fill_e _); subst hy; simp only [hm, h1, cond_true, cond_false])
  all_goals (repeat' (first | (with_reducible refine Ends.ret ?_) | (with_reducible refine Ends.bif (fun h => ?_) (fun h => ?_))))
  all_goals (simp only [Cp43, evs, lgs, plainR_t, plainR_f, in06_t, in06_f, Pl, La, bEq_t, bEq_f] at *)
  all_goals omega
def Cp44 (cond rd rn rm imm mode list : Int) (s : Bool) : Prop := mode = 1 ∧ 0 ≤ imm ∧ imm ≤ 255 ∧ rm = 0 ∧ rd = 0 ∧ rn = 0 ∧ s = false ∧ cond = 0 ∧ list = 0
theorem CI44 (op cond rd rn rm imm mode list : Int) (s : Bool) (hop : op = 44) : Ends (fun n => isa_Checko n ⟨op, cond, rd, rn, rm, imm, mode, list, s⟩) (fun r => r.1 = 0 ↔ Cp44 cond rd rn rm imm mode list s) := by
  subst hop <;> cases s <;> cases hm : ieq mode 2 <;> cases hn : ieq rn 13 <;> simp only [isa_Checko, isa_look_datao, isa_look_otherso, isa_look_do, isa_look_no, isa_look_lasto, isa_look_rego, isa_look_immo, isa_look_iso, Option.bind_some, hm, hn, cond_true, cond_false, bNot_tt, bNot_ff, ieqF, ieqT, ileT, ileF, iltT, iltF, Int.reduceLE, Int.reduceLT, Int.reduceEq, ne_eq, not_false_eq_true]
  all_goals (repeat' (first | (with_reducible refine Ends.ret ?_) | (with_reducible refine Ends.bif (fun h => ?_) (fun h => ?_))))
  all_goals (simp only [Cp44, evs, lgs, plainI_t, plainI_f, within_t, within_f, Pl, La, bEq_t, bEq_f] at *)
  all_goals omega
theorem CR44 (op cond rd rn rm imm mode list : Int) (s : Bool) (hop : op = 44) : Ends (fun n => ref06_Checko n ⟨op, cond, rd, rn, rm, imm, mode, list, s⟩) (fun r => r.1 = 0 ↔ Cp44 cond rd rn rm imm mode list s) := by
  subst hop <;> cases s <;> cases hm : ieq mode 2 <;> cases h1 : ieq mode 1 <;> simp only [ref06_Checko, data06_eq, Option.elim_some, ref06_datao, ref06_resto, last06_eq, Option.map_some, Option.getD_some, Option.bind_some, hm, h1, bNot_tt, bNot_ff, cond_true, cond_false, ieqF, ieqT, ileT, ileF, iltT, iltF, Int.reduceLE, Int.reduceLT, Int.reduceEq, ne_eq, not_false_eq_true, show ref06_fields 44 = ⟨#[109]⟩ from rfl]
  all_goals (refine Ends.bind (bare_ends _ _ (by decide)) ?_; rintro ⟨y1, _⟩ hy; replace hy : y1 = _ := hy.trans (fill_m _); subst hy; simp only [hm, h1, cond_true, cond_false])
  all_goals (repeat' (first | (with_reducible refine Ends.ret ?_) | (with_reducible refine Ends.bif (fun h => ?_) (fun h => ?_))))
  all_goals (simp only [Cp44, evs, lgs, plainR_t, plainR_f, in06_t, in06_f, Pl, La, bEq_t, bEq_f] at *)
  all_goals omega
def Cp45 (cond rd rn rm imm mode list : Int) (s : Bool) : Prop := Pl rn ∧ mode = 2 ∧ Pl rm ∧ imm = 0 ∧ rd = 0 ∧ s = false ∧ cond = 0 ∧ list = 0
theorem CI45 (op cond rd rn rm imm mode list : Int) (s : Bool) (hop : op = 45) : Ends (fun n => isa_Checko n ⟨op, cond, rd, rn, rm, imm, mode, list, s⟩) (fun r => r.1 = 0 ↔ Cp45 cond rd rn rm imm mode list s) := by
  subst hop <;> cases s <;> cases hm : ieq mode 2 <;> cases hn : ieq rn 13 <;> simp only [isa_Checko, isa_look_datao, isa_look_otherso, isa_look_do, isa_look_no, isa_look_lasto, isa_look_rego, isa_look_immo, isa_look_iso, Option.bind_some, hm, hn, cond_true, cond_false, bNot_tt, bNot_ff, ieqF, ieqT, ileT, ileF, iltT, iltF, Int.reduceLE, Int.reduceLT, Int.reduceEq, ne_eq, not_false_eq_true]
  all_goals (repeat' (first | (with_reducible refine Ends.ret ?_) | (with_reducible refine Ends.bif (fun h => ?_) (fun h => ?_))))
  all_goals (simp only [Cp45, evs, lgs, plainI_t, plainI_f, within_t, within_f, Pl, La, bEq_t, bEq_f] at *)
  all_goals omega
theorem CR45 (op cond rd rn rm imm mode list : Int) (s : Bool) (hop : op = 45) : Ends (fun n => ref06_Checko n ⟨op, cond, rd, rn, rm, imm, mode, list, s⟩) (fun r => r.1 = 0 ↔ Cp45 cond rd rn rm imm mode list s) := by
  subst hop <;> cases s <;> cases hm : ieq mode 2 <;> cases h1 : ieq mode 1 <;> simp only [ref06_Checko, data06_eq, Option.elim_some, ref06_datao, ref06_resto, last06_eq, Option.map_some, Option.getD_some, Option.bind_some, hm, h1, bNot_tt, bNot_ff, cond_true, cond_false, ieqF, ieqT, ileT, ileF, iltT, iltF, Int.reduceLE, Int.reduceLT, Int.reduceEq, ne_eq, not_false_eq_true, show ref06_fields 45 = ⟨#[110, 109]⟩ from rfl]
  all_goals (refine Ends.bind (bare_ends _ _ (by decide)) ?_; rintro ⟨y1, _⟩ hy; replace hy : y1 = _ := hy.trans (fill_nm _); subst hy; simp only [hm, h1, cond_true, cond_false])
  all_goals (repeat' (first | (with_reducible refine Ends.ret ?_) | (with_reducible refine Ends.bif (fun h => ?_) (fun h => ?_))))
  all_goals (simp only [Cp45, evs, lgs, plainR_t, plainR_f, in06_t, in06_f, Pl, La, bEq_t, bEq_f] at *)
  all_goals omega
end Go.Ev.Tryz
