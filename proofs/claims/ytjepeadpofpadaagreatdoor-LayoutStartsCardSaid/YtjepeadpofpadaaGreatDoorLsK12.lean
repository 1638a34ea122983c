/- Instructions with lists, blocks, and all together. (printed by gen07c.py)  -/
import Derived.Test.YtjepeadpofpadaaGreatDoorLsK11
set_option linter.unusedSimpArgs false
set_option linter.unusedVariables false
set_option linter.unusedSectionVars false
namespace Go.Ev.Tryz
open Go Go.Ev
set_option maxHeartbeats 4000000
theorem raw24 (l : Int) (hl : l ≤ 9223372036854775807) : (0 < l ∧ wandn .i64 l 24575 = 0) ↔ LS l 24575 := ls_iff l 24575 hl (by decide)
theorem raw57 (l : Int) (hl : l ≤ 9223372036854775807) : (0 < l ∧ wandn .i64 l 57343 = 0) ↔ LS l 57343 := ls_iff l 57343 hl (by decide)
theorem f33 (l : Int) (h : LS l 24575) : wandn .i64 l 16639 = 0 ↔ wand .i64 l 16128 = 0 := by
  obtain ⟨h0, h1, h2⟩ := h
  have e : l = (l.toNat : Int) := (Int.toNat_of_nonneg (by omega)).symm
  have := (leaf_facts l.toNat (by omega)).2.2.2.1 h2
  rw [e, show (16639 : Int) = ((16639 : Nat) : Int) from rfl, wandn_0 _ _ (by omega) (by decide), show (16128 : Int) = ((16128 : Nat) : Int) from rfl, wand_s _ _ (by omega) (by decide), this]
  omega
theorem f34 (l : Int) (h : LS l 57343) : wandn .i64 l 33023 = 0 ↔ wand .i64 l 32512 = 0 := by
  obtain ⟨h0, h1, h2⟩ := h
  have e : l = (l.toNat : Int) := (Int.toNat_of_nonneg (by omega)).symm
  have := (leaf_facts l.toNat (by omega)).2.2.2.2 h2
  rw [e, show (33023 : Int) = ((33023 : Nat) : Int) from rfl, wandn_0 _ _ (by omega) (by decide), show (32512 : Int) = ((32512 : Nat) : Int) from rfl, wand_s _ _ (by omega) (by decide), this]
  omega
theorem and3 (l : Int) (h0 : 0 ≤ l) (h1 : l < 65536) : wand .i64 (wshr .i64 l 14) 3 = wshr .i64 l 14 := by
  have e : l = (l.toNat : Int) := (Int.toNat_of_nonneg (by omega)).symm
  rw [e, show wshr .i64 (l.toNat : Int) 14 = ((l.toNat / 16384 : Nat) : Int) from fdiv_n l.toNat 16384 (by decide), show (3 : Int) = ((3 : Nat) : Int) from rfl, wand_s _ _ (by omega) (by decide)]
  have : Nat.land (l.toNat / 16384) 3 = (l.toNat / 16384) % 2 ^ 2 := Nat.and_two_pow_sub_one_eq_mod (l.toNat / 16384) 2
  rw [this]
  omega
theorem ones_pos (l : Int) (h : LS l 24575 ∨ LS l 57343) : 1 ≤ math_bits_OnesCount (wr .u64 l) := by
  have hb : 0 < l ∧ l < 65536 := by rcases h with h | h <;> exact ⟨h.1, h.2.1⟩
  rw [ones_at l (by omega) hb.2]
  have := bits_pos 16 l.toNat (by omega) (by omega)
  omega
theorem cd_pos {c m : Int} (h : 0 < ((Cd c m).length : Int)) : 1 ≤ m ∧ m ≤ 15 := by
  by_cases hm : 1 ≤ m ∧ m ≤ 15
  · exact hm
  · have hb : (bif (bif (bif (ilt c 0) then true else (ilt 14 c)) then true else (ilt m 1)) then true else (ilt 15 m)) = true := by
      simp only [evs]; omega
    have e1 : ref04_Condso 6 c m = some ([], ()) := by unfold ref04_Condso; rw [hb]; rfl
    have e3 : Cd c m = [] := by unfold Cd; rw [e1]; rfl
    rw [e3] at h
    exact absurd h (by simp)
theorem wor57 : wor .i64 24575 (wshl .i64 1 15) = 57343 := by decide
theorem chkT {α : Type} (x : Option α) : chk true x = x := rfl
theorem m1f : ile 0 (-1) = false := rfl
theorem m15 : ile 0 15 = true := rfl
theorem if_some {α β : Type} {Q : β → Prop} {f : Nat → Option α} {d : α} {R : α → Prop} {g : Nat → α → Option β} (c : Bool) (h : c = true → Ends f R) (k : ∀ y, (c = true → R y) → (c = false → y = d) → Ends (fun n => g n y) Q) : Ends (fun n => (bif c then f n else some d).bind (g n)) Q := by
  cases c with
  | true => exact Ends.bind (h rfl) fun y hy => k y (fun _ => hy) (fun e => by cases e)
  | false => exact k d (fun e => by cases e) (fun _ => rfl)
def Cp31 (cond rd rn rm imm mode list : Int) (s : Bool) : Prop := Pl rn ∧ 0 < list ∧ wandn .i64 list 24575 = 0 ∧ 2 ≤ math_bits_OnesCount (wr .u64 list) ∧ wand .i64 (wshr .i64 list rn) 1 = 0 ∧ cond = 0 ∧ rd = 0 ∧ rm = 0 ∧ imm = 0 ∧ mode = 0 ∧ s = false
theorem CI31 (op cond rd rn rm imm mode list : Int) (s : Bool) (hop : op = 31 ∨ op = 32) (hl : list ≤ 9223372036854775807) : Ends (fun n => isa_Checko n ⟨op, cond, rd, rn, rm, imm, mode, list, s⟩) (fun r => r.1 = 0 ↔ Cp31 cond rd rn rm imm mode list s) := by
  have hc : bNot (bAnd (bNot (ile 0 rn)) (bNot (bNot (isa_within rn 0 15)))) = true := by simp only [evs, lgs, within_t, within_f]; omega
  rcases hop with rfl | rfl <;> cases s <;> simp only [isa_Checko, isa_look_manyo, isa_look_listo, isa_look_otherso, isa_look_do, isa_look_no, isa_look_rego, isa_look_immo, isa_look_iso, Option.bind_some, wor57, m1f, m15, hc, chkT, cond_true, cond_false, bNot_tt, bNot_ff, ieqF, ieqT, ileT, ileF, iltT, iltF, Int.reduceLE, Int.reduceLT, Int.reduceEq, ne_eq, not_false_eq_true]
  all_goals (clear hc)
  all_goals (repeat' (first | (with_reducible refine Ends.ret ?_) | ((with_reducible refine Ends.chk ?_ ?_); (first | rfl | (simp only [evs, lgs, within_t, within_f]; omega))) | (with_reducible refine Ends.bif (fun h => ?_) (fun h => ?_))))
  all_goals (simp only [Cp31, evs, lgs, plainI_t, plainI_f, plainR_t, plainR_f, within_t, within_f, in06_t, in06_f, Pl, La, bEq_t, bEq_f, xlenI] at *)
  all_goals omega
theorem CR31 (op cond rd rn rm imm mode list : Int) (s : Bool) (hop : op = 31 ∨ op = 32) (hl : list ≤ 9223372036854775807) : Ends (fun n => ref06_Checko n ⟨op, cond, rd, rn, rm, imm, mode, list, s⟩) (fun r => r.1 = 0 ↔ Cp31 cond rd rn rm imm mode list s) := by
  have hr := raw24 list hl
  rcases hop with rfl | rfl <;> simp only [ref06_Checko, ref06_resto, Option.bind_some, bNot_ff, bNot_tt, cond_true, cond_false, ieqF, ieqT, ileT, ileF, iltT, iltF, Int.reduceLE, Int.reduceLT, Int.reduceEq, ne_eq, not_false_eq_true, show ref06_fields 31 = ⟨#[110, 108]⟩ from rfl, show ref06_fields 32 = ⟨#[110, 108]⟩ from rfl]
  all_goals (
    refine Ends.bind (bare_ends _ _ (by decide)) ?_
    rintro ⟨y1, _⟩ hy
    replace hy : y1 = _ := hy.trans (fill_nl _)
    subst hy
    dsimp only
    refine Ends.bif (fun h => Ends.ret ?_) (fun h0 => ?_)
    · cases s <;> simp only [Cp31, evs, lgs, plainI_t, plainI_f, plainR_t, plainR_f, within_t, within_f, in06_t, in06_f, Pl, La, bEq_t, bEq_f, xlenI] at * <;> omega
    · refine Ends.bind (R := fun y => y.1 = true ↔ (Pl rn ∧ (0 < list ∧ wandn .i64 list 24575 = 0) ∧ 2 ≤ math_bits_OnesCount (wr .u64 list) ∧ wand .i64 (wshr .i64 list rn) 1 = 0)) ?_ fun y hy => Ends.bif (fun h => Ends.ret ?_) (fun h => Ends.ret ?_)
      · refine if_some _ (fun _ => list06_m1 list) fun y1 a1 b1 => if_some (R := fun y => y.1 = math_bits_OnesCount (wr .u64 list)) _ (fun hc => ?_) fun y2 a2 b2 => Ends.chk ?_ (Ends.ret ?_)
        · rw [band_t] at hc
          have hL := (a1 hc.1).1 hc.2
          refine (count06_ends list (Int.le_of_lt hL.1) hL.2.1).mono fun r hr => ?_
          rw [hr, ones_at list (Int.le_of_lt hL.1) hL.2.1]
        · have := wr_u64_nonneg rn
          simp only [evs]; omega
        · cases hp : ref06_Plain rn with
          | false =>
            rw [plainR_f] at hp
            simp only [cond_false, Bool.false_eq_true, false_iff]
            exact fun e => hp e.1
          | true =>
            have h3 := a1 hp
            have hp' := plainR_t.1 hp
            rw [← hr] at h3
            cases hy1 : y1.1 with
            | false =>
              rw [hy1] at h3
              simp only [cond_true, cond_false, Bool.false_eq_true, false_iff]
              exact fun e => by have := h3.2 e.2.1; cases this
            | true =>
              have h4 := a2 (by rw [hp, hy1]; rfl)
              have h5 := h3.1 hy1
              have hrn : wr .u64 rn = rn := wr_u_small rn (by omega) (by omega)
              simp only [cond_true, hrn, h4, band_t, ile_t, ieq_t]
              exact ⟨fun e => ⟨hp', h5, e.1, e.2⟩, fun e => ⟨e.2.2.1, e.2.2.2⟩⟩
      · rw [bNot_t] at h
        rw [h] at hy
        have hy' : ¬ (Pl rn ∧ (0 < list ∧ wandn .i64 list 24575 = 0) ∧ 2 ≤ math_bits_OnesCount (wr .u64 list) ∧ wand .i64 (wshr .i64 list rn) 1 = 0) := fun e => by have := hy.2 e; cases this
        unfold Cp31
        unfold Pl at *
        omega
      · rw [bNot_f] at h
        have hy' := hy.1 h
        clear hr hy
        cases s <;> simp only [Cp31, evs, lgs, plainI_t, plainI_f, plainR_t, plainR_f, within_t, within_f, in06_t, in06_f, Pl, La, bEq_t, bEq_f, xlenI] at * <;> omega)
def Cp33 (cond rd rn rm imm mode list : Int) (s : Bool) : Prop := 0 < list ∧ wandn .i64 list 24575 = 0 ∧ rn = 0 ∧ cond = 0 ∧ rd = 0 ∧ rm = 0 ∧ imm = 0 ∧ mode = 0 ∧ s = false
theorem CI33 (op cond rd rn rm imm mode list : Int) (s : Bool) (hop : op = 33) (hl : list ≤ 9223372036854775807) : Ends (fun n => isa_Checko n ⟨op, cond, rd, rn, rm, imm, mode, list, s⟩) (fun r => r.1 = 0 ↔ Cp33 cond rd rn rm imm mode list s) := by
  have hp : (0 < list ∧ wandn .i64 list 24575 = 0) → 1 ≤ math_bits_OnesCount (wr .u64 list) := fun h => ones_pos list (.inl ((raw24 list hl).1 h))
  have hc : bNot (bAnd (bNot (ile 0 rn)) (bNot (bNot (isa_within rn 0 15)))) = true := by simp only [evs, lgs, within_t, within_f]; omega
  subst hop <;> cases s <;> simp only [isa_Checko, isa_look_manyo, isa_look_listo, isa_look_otherso, isa_look_do, isa_look_no, isa_look_rego, isa_look_immo, isa_look_iso, Option.bind_some, wor57, m1f, m15, hc, chkT, cond_true, cond_false, bNot_tt, bNot_ff, ieqF, ieqT, ileT, ileF, iltT, iltF, Int.reduceLE, Int.reduceLT, Int.reduceEq, ne_eq, not_false_eq_true]
  all_goals (clear hc)
  all_goals (repeat' (first | (with_reducible refine Ends.ret ?_) | ((with_reducible refine Ends.chk ?_ ?_); (first | rfl | (simp only [evs, lgs, within_t, within_f]; omega))) | (with_reducible refine Ends.bif (fun h => ?_) (fun h => ?_))))
  all_goals (simp only [Cp33, evs, lgs, plainI_t, plainI_f, plainR_t, plainR_f, within_t, within_f, in06_t, in06_f, Pl, La, bEq_t, bEq_f, xlenI] at *)
  all_goals omega
theorem CR33 (op cond rd rn rm imm mode list : Int) (s : Bool) (hop : op = 33) (hl : list ≤ 9223372036854775807) : Ends (fun n => ref06_Checko n ⟨op, cond, rd, rn, rm, imm, mode, list, s⟩) (fun r => r.1 = 0 ↔ Cp33 cond rd rn rm imm mode list s) := by
  have hr := raw24 list hl
  subst hop <;> simp only [ref06_Checko, ref06_resto, Option.bind_some, bNot_ff, bNot_tt, cond_true, cond_false, ieqF, ieqT, ileT, ileF, iltT, iltF, Int.reduceLE, Int.reduceLT, Int.reduceEq, ne_eq, not_false_eq_true, show ref06_fields 33 = ⟨#[108]⟩ from rfl]
  all_goals (
    refine Ends.bind (bare_ends _ _ (by decide)) ?_
    rintro ⟨y1, _⟩ hy
    replace hy : y1 = _ := hy.trans (fill_l _)
    subst hy
    dsimp only
    refine Ends.bif (fun h => Ends.ret ?_) (fun h0 => ?_)
    · cases s <;> simp only [Cp33, evs, lgs, plainI_t, plainI_f, plainR_t, plainR_f, within_t, within_f, in06_t, in06_f, Pl, La, bEq_t, bEq_f, xlenI] at * <;> omega
    · refine Ends.bind (R := fun y => y.1 = true ↔ (0 < list ∧ wandn .i64 list 24575 = 0)) (Ends.bind (list06_m1 list) fun y hy => Ends.ret (hy.trans hr.symm)) fun y hy => Ends.bif (fun h => Ends.ret ?_) (fun h => Ends.ret ?_)
      · rw [bNot_t] at h
        rw [h] at hy
        have hy' : ¬ (0 < list ∧ wandn .i64 list 24575 = 0) := fun e => by have := hy.2 e; cases this
        unfold Cp33
        omega
      · rw [bNot_f] at h
        have hy' := hy.1 h
        clear hr hy
        cases s <;> simp only [Cp33, evs, lgs, plainI_t, plainI_f, plainR_t, plainR_f, within_t, within_f, in06_t, in06_f, Pl, La, bEq_t, bEq_f, xlenI] at * <;> omega)
def Cp34 (cond rd rn rm imm mode list : Int) (s : Bool) : Prop := 0 < list ∧ wandn .i64 list 57343 = 0 ∧ wshr .i64 list 14 ≠ 3 ∧ rn = 0 ∧ cond = 0 ∧ rd = 0 ∧ rm = 0 ∧ imm = 0 ∧ mode = 0 ∧ s = false
theorem CI34 (op cond rd rn rm imm mode list : Int) (s : Bool) (hop : op = 34) (hl : list ≤ 9223372036854775807) : Ends (fun n => isa_Checko n ⟨op, cond, rd, rn, rm, imm, mode, list, s⟩) (fun r => r.1 = 0 ↔ Cp34 cond rd rn rm imm mode list s) := by
  have hp : (0 < list ∧ wandn .i64 list 57343 = 0) → 1 ≤ math_bits_OnesCount (wr .u64 list) := fun h => ones_pos list (.inr ((raw57 list hl).1 h))
  have hq : (0 < list ∧ wandn .i64 list 57343 = 0) → wand .i64 (wshr .i64 list 14) 3 = wshr .i64 list 14 := fun h => and3 list (Int.le_of_lt h.1) ((raw57 list hl).1 h).2.1
  have hc : bNot (bAnd (bNot (ile 0 rn)) (bNot (bNot (isa_within rn 0 15)))) = true := by simp only [evs, lgs, within_t, within_f]; omega
  subst hop <;> cases s <;> simp only [isa_Checko, isa_look_manyo, isa_look_listo, isa_look_otherso, isa_look_do, isa_look_no, isa_look_rego, isa_look_immo, isa_look_iso, Option.bind_some, wor57, m1f, m15, hc, chkT, cond_true, cond_false, bNot_tt, bNot_ff, ieqF, ieqT, ileT, ileF, iltT, iltF, Int.reduceLE, Int.reduceLT, Int.reduceEq, ne_eq, not_false_eq_true]
  all_goals (clear hc)
  all_goals (repeat' (first | (with_reducible refine Ends.ret ?_) | ((with_reducible refine Ends.chk ?_ ?_); (first | rfl | (simp only [evs, lgs, within_t, within_f]; omega))) | (with_reducible refine Ends.bif (fun h => ?_) (fun h => ?_))))
  all_goals (simp only [Cp34, evs, lgs, plainI_t, plainI_f, plainR_t, plainR_f, within_t, within_f, in06_t, in06_f, Pl, La, bEq_t, bEq_f, xlenI] at *)
  all_goals omega
theorem CR34 (op cond rd rn rm imm mode list : Int) (s : Bool) (hop : op = 34) (hl : list ≤ 9223372036854775807) : Ends (fun n => ref06_Checko n ⟨op, cond, rd, rn, rm, imm, mode, list, s⟩) (fun r => r.1 = 0 ↔ Cp34 cond rd rn rm imm mode list s) := by
  have hr := raw57 list hl
  subst hop <;> simp only [ref06_Checko, ref06_resto, Option.bind_some, bNot_ff, bNot_tt, cond_true, cond_false, ieqF, ieqT, ileT, ileF, iltT, iltF, Int.reduceLE, Int.reduceLT, Int.reduceEq, ne_eq, not_false_eq_true, show ref06_fields 34 = ⟨#[108]⟩ from rfl]
  all_goals (
    refine Ends.bind (bare_ends _ _ (by decide)) ?_
    rintro ⟨y1, _⟩ hy
    replace hy : y1 = _ := hy.trans (fill_l _)
    subst hy
    dsimp only
    refine Ends.bif (fun h => Ends.ret ?_) (fun h0 => ?_)
    · cases s <;> simp only [Cp34, evs, lgs, plainI_t, plainI_f, plainR_t, plainR_f, within_t, within_f, in06_t, in06_f, Pl, La, bEq_t, bEq_f, xlenI] at * <;> omega
    · refine Ends.bind (R := fun y => y.1 = true ↔ ((0 < list ∧ wandn .i64 list 57343 = 0) ∧ wshr .i64 list 14 ≠ 3)) (Ends.bind (list06_15 list) fun y hy => Ends.ret ?_) fun y hy => Ends.bif (fun h => Ends.ret ?_) (fun h => Ends.ret ?_)
      · rw [← hr] at hy
        rw [band_t, hy, bNot_t, ieq_f]
      · rw [bNot_t] at h
        rw [h] at hy
        have hy' : ¬ ((0 < list ∧ wandn .i64 list 57343 = 0) ∧ wshr .i64 list 14 ≠ 3) := fun e => by have := hy.2 e; cases this
        unfold Cp34
        omega
      · rw [bNot_f] at h
        have hy' := hy.1 h
        clear hr hy
        cases s <;> simp only [Cp34, evs, lgs, plainI_t, plainI_f, plainR_t, plainR_f, within_t, within_f, in06_t, in06_f, Pl, La, bEq_t, bEq_f, xlenI] at * <;> omega)
def Cp42 (cond rd rn rm imm mode list : Int) (s : Bool) : Prop := 0 < ((Cd cond imm).length : Int) ∧ mode = 1 ∧ 1 ≤ imm ∧ imm ≤ 15 ∧ rd = 0 ∧ rn = 0 ∧ rm = 0 ∧ list = 0 ∧ s = false
theorem CI42 (op cond rd rn rm imm mode list : Int) (s : Bool) (hop : op = 42) (hl : list ≤ 9223372036854775807) : Ends (fun n => isa_Checko n ⟨op, cond, rd, rn, rm, imm, mode, list, s⟩) (fun r => r.1 = 0 ↔ Cp42 cond rd rn rm imm mode list s) := by
  have hc : bNot (bAnd (bNot (ile 0 rn)) (bNot (bNot (isa_within rn 0 15)))) = true := by simp only [evs, lgs, within_t, within_f]; omega
  have hp : 0 < ((Cd cond imm).length : Int) → 1 ≤ imm ∧ imm ≤ 15 := cd_pos
  subst hop <;> cases s <;> simp only [isa_Checko, isa_look_manyo, isa_look_listo, isa_look_otherso, isa_look_do, isa_look_no, isa_look_rego, isa_look_immo, isa_look_iso, Option.bind_some, wor57, m1f, m15, hc, chkT, cond_true, cond_false, bNot_tt, bNot_ff, ieqF, ieqT, ileT, ileF, iltT, iltF, Int.reduceLE, Int.reduceLT, Int.reduceEq, ne_eq, not_false_eq_true]
  all_goals (refine Ends.bind (R := fun y => y.2.1.2.2.2.2.2.2.2.2.2.1 = (bif ilt 0 ((Cd cond imm).length : Int) then (bif ieq mode 1 then isa_within imm 1 15 else false) else false) ∧ y.2.1.1 = 42 ∧ y.2.1.2.1 = 0 ∧ y.2.1.2.2.1 = rd ∧ y.2.1.2.2.2.1 = rn ∧ y.2.1.2.2.2.2.1 = rm ∧ y.2.1.2.2.2.2.2.1 = 0 ∧ y.2.1.2.2.2.2.2.2.1 = 0 ∧ y.2.1.2.2.2.2.2.2.2.1 = list ∧ y.2.1.2.2.2.2.2.2.2.2.1 = _) (Ends.bind (cd_isa _ _) fun y hy => by subst hy; exact Ends.ret ⟨rfl, rfl, rfl, rfl, rfl, rfl, rfl, rfl, rfl, rfl⟩) ?_)
  all_goals (rintro y ⟨e1, e2, e3, e4, e5, e6, e7, e8, e9, e10⟩; simp only [e1, e2, e3, e4, e5, e6, e7, e8, e9, e10])
  all_goals (clear hc)
  all_goals (repeat' (first | (with_reducible refine Ends.ret ?_) | ((with_reducible refine Ends.chk ?_ ?_); (first | rfl | (simp only [evs, lgs, within_t, within_f]; omega))) | (with_reducible refine Ends.bif (fun h => ?_) (fun h => ?_))))
  all_goals (simp only [Cp42, evs, lgs, plainI_t, plainI_f, plainR_t, plainR_f, within_t, within_f, in06_t, in06_f, Pl, La, bEq_t, bEq_f, xlenI] at *)
  all_goals omega
theorem CR42 (op cond rd rn rm imm mode list : Int) (s : Bool) (hop : op = 42) (hl : list ≤ 9223372036854775807) : Ends (fun n => ref06_Checko n ⟨op, cond, rd, rn, rm, imm, mode, list, s⟩) (fun r => r.1 = 0 ↔ Cp42 cond rd rn rm imm mode list s) := by
  have hp : 0 < ((Cd cond imm).length : Int) → 1 ≤ imm ∧ imm ≤ 15 := cd_pos
  subst hop <;> simp only [ref06_Checko, ref06_resto, Option.bind_some, bNot_ff, bNot_tt, cond_true, cond_false, ieqF, ieqT, ileT, ileF, iltT, iltF, Int.reduceLE, Int.reduceLT, Int.reduceEq, ne_eq, not_false_eq_true, show ref06_fields 42 = ⟨#[99, 109]⟩ from rfl]
  all_goals (
    refine Ends.bind (bare_ends _ _ (by decide)) ?_
    rintro ⟨y1, _⟩ hy
    replace hy : y1 = _ := hy.trans (fill_cm _)
    subst hy
    dsimp only
    refine Ends.bif (fun h => Ends.ret ?_) (fun h0 => ?_)
    · cases hm : ieq mode 2 <;> simp only [hm, cond_true, cond_false] at h <;> cases s <;> simp only [Cp42, evs, lgs, plainI_t, plainI_f, plainR_t, plainR_f, within_t, within_f, in06_t, in06_f, Pl, La, bEq_t, bEq_f, xlenI] at * <;> omega
    · refine Ends.bind (R := fun y => y.1 = true ↔ (mode = 1 ∧ 0 < ((Cd cond imm).length : Int))) (if_some _ (fun _ => cd_ref cond imm) fun y h1 h2 => Ends.ret ?_) fun y hy => Ends.bif (fun h => Ends.ret ?_) (fun h => Ends.ret ?_)
      · simp only [band_t, ieq_t, ilt_t, xlenI]
        refine ⟨fun e => ⟨e.1, ?_⟩, fun e => ⟨e.1, ?_⟩⟩
        · have := h1 (ieq_t.2 e.1); subst this; exact e.2
        · have := h1 (ieq_t.2 e.1); subst this; exact e.2
      · rw [bNot_t] at h
        rw [h] at hy
        have hy' : ¬ (mode = 1 ∧ 0 < ((Cd cond imm).length : Int)) := fun e => by have := hy.2 e; cases this
        unfold Cp42
        omega
      · rw [bNot_f] at h
        have hy' := hy.1 h
        cases hm : ieq mode 2 <;> simp only [hm, cond_true, cond_false] at h0 <;> cases s <;> simp only [Cp42, evs, lgs, plainI_t, plainI_f, plainR_t, plainR_f, within_t, within_f, in06_t, in06_f, Pl, La, bEq_t, bEq_f, xlenI] at * <;> omega)
def Np31 (rd rn rm imm mode list : Int) (s it : Bool) : Prop := (0 ≤ rn ∧ rn ≤ 7) ∧ list = wand .i64 list 255
theorem H31 (op cond rd rn rm imm mode list : Int) (s it : Bool) (hop : op = 31 ∨ op = 32) (hl : list ≤ 9223372036854775807) (hC : Cp31 cond rd rn rm imm mode list s) : Ends (fun n => narrow_resto n ⟨op, cond, rd, rn, rm, imm, mode, list, s⟩ it) (fun r => r.1.is = true ↔ Np31 rd rn rm imm mode list s it) ∧ Ends (fun n => ref07_resto n ⟨op, cond, rd, rn, rm, imm, mode, list, s⟩ it) (fun r => r.1.2.1 = true ↔ Np31 rd rn rm imm mode list s it) := by
  refine ⟨?_, ?_⟩ <;> cases hm : ieq mode 2 <;> cases h1 : ieq mode 1 <;> cases hn : ieq rn 13
  all_goals (rcases hop with rfl | rfl <;> cases s <;> cases it <;> (first | simp only [hm, h1, hn, narrow_resto, ref07_resto, ieqF, ieqT, ileT, ileF, iltT, iltF, Int.reduceLE, Int.reduceLT, Int.reduceEq, ne_eq, not_false_eq_true, bNot_tt, bNot_ff, be_tt, be_tf, be_ft, be_ff, cond_true, cond_false, Option.bind_some, Bool.cond_self, npF, ldF] | simp only [hm, narrow_resto, ref07_resto, ieqF, ieqT, ileT, ileF, iltT, iltF, Int.reduceLE, Int.reduceLT, Int.reduceEq, ne_eq, not_false_eq_true, bNot_tt, bNot_ff, be_tt, be_tf, be_ft, be_ff, cond_true, cond_false, Option.bind_some, Bool.cond_self, npF, ldF]))
  all_goals (repeat' (first
    | (with_reducible refine Ends.ret ?_)
    | ((with_reducible refine Ends.chk ?_ ?_); (first | rfl | (simp only [evs, lgs]; omega)))
    | ((with_reducible refine lowN_if _ _ (Nat.le_of_ble_eq_true rfl) ?_))
    | ((with_reducible refine low7_if _ _ (Nat.le_of_ble_eq_true rfl) ?_))
    | ((with_reducible refine lowN_k _ (Nat.le_of_ble_eq_true rfl) ?_))
    | ((with_reducible refine low7_k _ (Nat.le_of_ble_eq_true rfl) ?_))
    | (with_reducible refine Ends.bif (fun h => ?_) (fun h => ?_))))
  all_goals (simp only [Cp31, Np31, evs, lgs, Pl, La, bEq_t, bEq_f, Lw1_t, Lw1_f, Lw2_t, Lw2_f, Lw3_t, Lw3_f] at *)
  all_goals (try omega)
theorem K31 (op cond rd rn rm imm mode list : Int) (s it : Bool) (hop : op = 31 ∨ op = 32) (hl : list ≤ 9223372036854775807) : ∃ P : Prop, Ends (fun n => narrow_Cano n ⟨op, cond, rd, rn, rm, imm, mode, list, s⟩ it) (fun r => r.1 = true ↔ P) ∧ Ends (fun n => ref07_Encodeo n ⟨op, cond, rd, rn, rm, imm, mode, list, s⟩ it) (fun r => r.1.2.1 = true ↔ P) := by
  refine ⟨Cp31 cond rd rn rm imm mode list s ∧ Np31 rd rn rm imm mode list s it, can_of (CI31 op cond rd rn rm imm mode list s (by omega) hl) (fun hC => ?_), enc_of (CR31 op cond rd rn rm imm mode list s (by omega) hl) (fun hC => ?_)⟩
  · unfold narrow_formso
    have h := H31 op cond rd rn rm imm mode list s it hop hl hC
    rcases hop with rfl | rfl <;> simp only [ieqF, ieqT, ileT, ileF, iltT, iltF, Int.reduceLE, Int.reduceLT, Int.reduceEq, ne_eq, not_false_eq_true, cond_true, cond_false] <;> exact Ends.bind h.1 fun y hy => Ends.ret ⟨len_1 _, (any_1 _).trans hy⟩
  · have h := H31 op cond rd rn rm imm mode list s it hop hl hC
    rcases hop with rfl | rfl <;> simp only [ieqF, ieqT, ileT, ileF, iltT, iltF, Int.reduceLE, Int.reduceLT, Int.reduceEq, ne_eq, not_false_eq_true, cond_true, cond_false] <;> exact Ends.bind h.2 fun y hy => enc_fin hC y hy
def Np33 (rd rn rm imm mode list : Int) (s it : Bool) : Prop := wand .i64 list 16128 = 0
theorem H33 (op cond rd rn rm imm mode list : Int) (s it : Bool) (hop : op = 33) (hl : list ≤ 9223372036854775807) (hC : Cp33 cond rd rn rm imm mode list s) : Ends (fun n => narrow_resto n ⟨op, cond, rd, rn, rm, imm, mode, list, s⟩ it) (fun r => r.1.is = true ↔ Np33 rd rn rm imm mode list s it) ∧ Ends (fun n => ref07_resto n ⟨op, cond, rd, rn, rm, imm, mode, list, s⟩ it) (fun r => r.1.2.1 = true ↔ Np33 rd rn rm imm mode list s it) := by
  have hq := f33 list ((raw24 list hl).1 ⟨hC.1, hC.2.1⟩)
  refine ⟨?_, ?_⟩ <;> cases hm : ieq mode 2 <;> cases h1 : ieq mode 1 <;> cases hn : ieq rn 13
  all_goals (subst hop <;> cases s <;> cases it <;> (first | simp only [hm, h1, hn, narrow_resto, ref07_resto, ieqF, ieqT, ileT, ileF, iltT, iltF, Int.reduceLE, Int.reduceLT, Int.reduceEq, ne_eq, not_false_eq_true, bNot_tt, bNot_ff, be_tt, be_tf, be_ft, be_ff, cond_true, cond_false, Option.bind_some, Bool.cond_self, npF, ldF] | simp only [hm, narrow_resto, ref07_resto, ieqF, ieqT, ileT, ileF, iltT, iltF, Int.reduceLE, Int.reduceLT, Int.reduceEq, ne_eq, not_false_eq_true, bNot_tt, bNot_ff, be_tt, be_tf, be_ft, be_ff, cond_true, cond_false, Option.bind_some, Bool.cond_self, npF, ldF]))
  all_goals (repeat' (first
    | (with_reducible refine Ends.ret ?_)
    | ((with_reducible refine Ends.chk ?_ ?_); (first | rfl | (simp only [evs, lgs]; omega)))
    | ((with_reducible refine lowN_if _ _ (Nat.le_of_ble_eq_true rfl) ?_))
    | ((with_reducible refine low7_if _ _ (Nat.le_of_ble_eq_true rfl) ?_))
    | ((with_reducible refine lowN_k _ (Nat.le_of_ble_eq_true rfl) ?_))
    | ((with_reducible refine low7_k _ (Nat.le_of_ble_eq_true rfl) ?_))
    | (with_reducible refine Ends.bif (fun h => ?_) (fun h => ?_))))
  all_goals (simp only [Cp33, Np33, evs, lgs, Pl, La, bEq_t, bEq_f, Lw1_t, Lw1_f, Lw2_t, Lw2_f, Lw3_t, Lw3_f] at *)
  all_goals (try omega)
theorem K33 (op cond rd rn rm imm mode list : Int) (s it : Bool) (hop : op = 33) (hl : list ≤ 9223372036854775807) : ∃ P : Prop, Ends (fun n => narrow_Cano n ⟨op, cond, rd, rn, rm, imm, mode, list, s⟩ it) (fun r => r.1 = true ↔ P) ∧ Ends (fun n => ref07_Encodeo n ⟨op, cond, rd, rn, rm, imm, mode, list, s⟩ it) (fun r => r.1.2.1 = true ↔ P) := by
  refine ⟨Cp33 cond rd rn rm imm mode list s ∧ Np33 rd rn rm imm mode list s it, can_of (CI33 op cond rd rn rm imm mode list s (by omega) hl) (fun hC => ?_), enc_of (CR33 op cond rd rn rm imm mode list s (by omega) hl) (fun hC => ?_)⟩
  · unfold narrow_formso
    have h := H33 op cond rd rn rm imm mode list s it hop hl hC
    subst hop <;> simp only [ieqF, ieqT, ileT, ileF, iltT, iltF, Int.reduceLE, Int.reduceLT, Int.reduceEq, ne_eq, not_false_eq_true, cond_true, cond_false] <;> exact Ends.bind h.1 fun y hy => Ends.ret ⟨len_1 _, (any_1 _).trans hy⟩
  · have h := H33 op cond rd rn rm imm mode list s it hop hl hC
    subst hop <;> simp only [ieqF, ieqT, ileT, ileF, iltT, iltF, Int.reduceLE, Int.reduceLT, Int.reduceEq, ne_eq, not_false_eq_true, cond_true, cond_false] <;> exact Ends.bind h.2 fun y hy => enc_fin hC y hy
def Np34 (rd rn rm imm mode list : Int) (s it : Bool) : Prop := wand .i64 list 32512 = 0
theorem H34 (op cond rd rn rm imm mode list : Int) (s it : Bool) (hop : op = 34) (hl : list ≤ 9223372036854775807) (hC : Cp34 cond rd rn rm imm mode list s) : Ends (fun n => narrow_resto n ⟨op, cond, rd, rn, rm, imm, mode, list, s⟩ it) (fun r => r.1.is = true ↔ Np34 rd rn rm imm mode list s it) ∧ Ends (fun n => ref07_resto n ⟨op, cond, rd, rn, rm, imm, mode, list, s⟩ it) (fun r => r.1.2.1 = true ↔ Np34 rd rn rm imm mode list s it) := by
  have hq := f34 list ((raw57 list hl).1 ⟨hC.1, hC.2.1⟩)
  refine ⟨?_, ?_⟩ <;> cases hm : ieq mode 2 <;> cases h1 : ieq mode 1 <;> cases hn : ieq rn 13
  all_goals (subst hop <;> cases s <;> cases it <;> (first | simp only [hm, h1, hn, narrow_resto, ref07_resto, ieqF, ieqT, ileT, ileF, iltT, iltF, Int.reduceLE, Int.reduceLT, Int.reduceEq, ne_eq, not_false_eq_true, bNot_tt, bNot_ff, be_tt, be_tf, be_ft, be_ff, cond_true, cond_false, Option.bind_some, Bool.cond_self, npF, ldF] | simp only [hm, narrow_resto, ref07_resto, ieqF, ieqT, ileT, ileF, iltT, iltF, Int.reduceLE, Int.reduceLT, Int.reduceEq, ne_eq, not_false_eq_true, bNot_tt, bNot_ff, be_tt, be_tf, be_ft, be_ff, cond_true, cond_false, Option.bind_some, Bool.cond_self, npF, ldF]))
  all_goals (repeat' (first
    | (with_reducible refine Ends.ret ?_)
    | ((with_reducible refine Ends.chk ?_ ?_); (first | rfl | (simp only [evs, lgs]; omega)))
    | ((with_reducible refine lowN_if _ _ (Nat.le_of_ble_eq_true rfl) ?_))
    | ((with_reducible refine low7_if _ _ (Nat.le_of_ble_eq_true rfl) ?_))
    | ((with_reducible refine lowN_k _ (Nat.le_of_ble_eq_true rfl) ?_))
    | ((with_reducible refine low7_k _ (Nat.le_of_ble_eq_true rfl) ?_))
    | (with_reducible refine Ends.bif (fun h => ?_) (fun h => ?_))))
  all_goals (simp only [Cp34, Np34, evs, lgs, Pl, La, bEq_t, bEq_f, Lw1_t, Lw1_f, Lw2_t, Lw2_f, Lw3_t, Lw3_f] at *)
  all_goals (try omega)
theorem K34 (op cond rd rn rm imm mode list : Int) (s it : Bool) (hop : op = 34) (hl : list ≤ 9223372036854775807) : ∃ P : Prop, Ends (fun n => narrow_Cano n ⟨op, cond, rd, rn, rm, imm, mode, list, s⟩ it) (fun r => r.1 = true ↔ P) ∧ Ends (fun n => ref07_Encodeo n ⟨op, cond, rd, rn, rm, imm, mode, list, s⟩ it) (fun r => r.1.2.1 = true ↔ P) := by
  refine ⟨Cp34 cond rd rn rm imm mode list s ∧ Np34 rd rn rm imm mode list s it, can_of (CI34 op cond rd rn rm imm mode list s (by omega) hl) (fun hC => ?_), enc_of (CR34 op cond rd rn rm imm mode list s (by omega) hl) (fun hC => ?_)⟩
  · unfold narrow_formso
    have h := H34 op cond rd rn rm imm mode list s it hop hl hC
    subst hop <;> simp only [ieqF, ieqT, ileT, ileF, iltT, iltF, Int.reduceLE, Int.reduceLT, Int.reduceEq, ne_eq, not_false_eq_true, cond_true, cond_false] <;> exact Ends.bind h.1 fun y hy => Ends.ret ⟨len_1 _, (any_1 _).trans hy⟩
  · have h := H34 op cond rd rn rm imm mode list s it hop hl hC
    subst hop <;> simp only [ieqF, ieqT, ileT, ileF, iltT, iltF, Int.reduceLE, Int.reduceLT, Int.reduceEq, ne_eq, not_false_eq_true, cond_true, cond_false] <;> exact Ends.bind h.2 fun y hy => enc_fin hC y hy
def Np42 (rd rn rm imm mode list : Int) (s it : Bool) : Prop := it = false
theorem H42 (op cond rd rn rm imm mode list : Int) (s it : Bool) (hop : op = 42) (hl : list ≤ 9223372036854775807) (hC : Cp42 cond rd rn rm imm mode list s) : Ends (fun n => narrow_resto n ⟨op, cond, rd, rn, rm, imm, mode, list, s⟩ it) (fun r => r.1.is = true ↔ Np42 rd rn rm imm mode list s it) ∧ Ends (fun n => ref07_resto n ⟨op, cond, rd, rn, rm, imm, mode, list, s⟩ it) (fun r => r.1.2.1 = true ↔ Np42 rd rn rm imm mode list s it) := by
  refine ⟨?_, ?_⟩ <;> cases hm : ieq mode 2 <;> cases h1 : ieq mode 1 <;> cases hn : ieq rn 13
  all_goals (subst hop <;> cases s <;> cases it <;> (first | simp only [hm, h1, hn, narrow_resto, ref07_resto, ieqF, ieqT, ileT, ileF, iltT, iltF, Int.reduceLE, Int.reduceLT, Int.reduceEq, ne_eq, not_false_eq_true, bNot_tt, bNot_ff, be_tt, be_tf, be_ft, be_ff, cond_true, cond_false, Option.bind_some, Bool.cond_self, npF, ldF] | simp only [hm, narrow_resto, ref07_resto, ieqF, ieqT, ileT, ileF, iltT, iltF, Int.reduceLE, Int.reduceLT, Int.reduceEq, ne_eq, not_false_eq_true, bNot_tt, bNot_ff, be_tt, be_tf, be_ft, be_ff, cond_true, cond_false, Option.bind_some, Bool.cond_self, npF, ldF]))
  all_goals (repeat' (first
    | (with_reducible refine Ends.ret ?_)
    | ((with_reducible refine Ends.chk ?_ ?_); (first | rfl | (simp only [evs, lgs]; omega)))
    | ((with_reducible refine lowN_if _ _ (Nat.le_of_ble_eq_true rfl) ?_))
    | ((with_reducible refine low7_if _ _ (Nat.le_of_ble_eq_true rfl) ?_))
    | ((with_reducible refine lowN_k _ (Nat.le_of_ble_eq_true rfl) ?_))
    | ((with_reducible refine low7_k _ (Nat.le_of_ble_eq_true rfl) ?_))
    | (with_reducible refine Ends.bif (fun h => ?_) (fun h => ?_))))
  all_goals (simp only [Cp42, Np42, evs, lgs, Pl, La, bEq_t, bEq_f, Lw1_t, Lw1_f, Lw2_t, Lw2_f, Lw3_t, Lw3_f] at *)
  all_goals (try omega)
theorem K42 (op cond rd rn rm imm mode list : Int) (s it : Bool) (hop : op = 42) (hl : list ≤ 9223372036854775807) : ∃ P : Prop, Ends (fun n => narrow_Cano n ⟨op, cond, rd, rn, rm, imm, mode, list, s⟩ it) (fun r => r.1 = true ↔ P) ∧ Ends (fun n => ref07_Encodeo n ⟨op, cond, rd, rn, rm, imm, mode, list, s⟩ it) (fun r => r.1.2.1 = true ↔ P) := by
  refine ⟨Cp42 cond rd rn rm imm mode list s ∧ Np42 rd rn rm imm mode list s it, can_of (CI42 op cond rd rn rm imm mode list s (by omega) hl) (fun hC => ?_), enc_of (CR42 op cond rd rn rm imm mode list s (by omega) hl) (fun hC => ?_)⟩
  · unfold narrow_formso
    have h := H42 op cond rd rn rm imm mode list s it hop hl hC
    subst hop <;> simp only [ieqF, ieqT, ileT, ileF, iltT, iltF, Int.reduceLE, Int.reduceLT, Int.reduceEq, ne_eq, not_false_eq_true, cond_true, cond_false] <;> exact Ends.bind h.1 fun y hy => Ends.ret ⟨len_1 _, (any_1 _).trans hy⟩
  · have h := H42 op cond rd rn rm imm mode list s it hop hl hC
    subst hop <;> simp only [ieqF, ieqT, ileT, ileF, iltT, iltF, Int.reduceLE, Int.reduceLT, Int.reduceEq, ne_eq, not_false_eq_true, cond_true, cond_false] <;> exact Ends.bind h.2 fun y hy => enc_fin hC y hy
end Go.Ev.Tryz
namespace Go.Ev.Tryz
open Go Go.Ev
set_option maxHeartbeats 4000000
theorem can_ex (i : GIns) (it : Bool) (hw : WfIns i) (h : ¬ (i.op = 35 ∨ i.op = 36 ∨ i.op = 37 ∨ i.op = 38 ∨ i.op = 40 ∨ i.op = 41)) : ∃ P : Prop, Ends (fun n => narrow_Cano n i it) (fun r => r.1 = true ↔ P) ∧ Ends (fun n => ref07_Encodeo n i it) (fun r => r.1.2.1 = true ↔ P) := by
  have hl : i.list ≤ 9223372036854775807 := hw.list.2
  clear hw
  cases i with | mk op cond rd rn rm imm mode list s =>
  dsimp only at h hl
  by_cases hr : op < 1 ∨ 45 < op
  · have hb : (bif (ilt op 1) then true else (ilt 45 op)) = true := by simp only [evs]; exact hr
    refine ⟨False, ?_, ?_⟩
    · unfold narrow_Cano narrow_Encodeo isa_Checko
      simp only [hb, cond_true, Option.bind_some]
      exact Ends.ret ⟨fun e => (by cases e), fun e => e.elim⟩
    · unfold ref07_Encodeo ref06_Checko
      simp only [hb, cond_true, bNot_tt, cond_false, Option.bind_some]
      exact Ends.ret ⟨fun e => (by cases e), fun e => e.elim⟩
  · have : (op = 1 ∨ op = 2 ∨ op = 3 ∨ op = 4 ∨ op = 6 ∨ op = 8) ∨ (op = 5) ∨ (op = 7) ∨ (op = 9) ∨ (op = 10) ∨ (op = 11) ∨ (op = 12) ∨ (op = 13 ∨ op = 14) ∨ (op = 15) ∨ (op = 16) ∨ (op = 17 ∨ op = 18) ∨ (op = 19) ∨ (op = 20) ∨ (op = 21 ∨ op = 22) ∨ (op = 23 ∨ op = 24) ∨ (op = 25 ∨ op = 28) ∨ (op = 26 ∨ op = 29) ∨ (op = 27 ∨ op = 30) ∨ (op = 39) ∨ (op = 43) ∨ (op = 44) ∨ (op = 45) ∨ (op = 31 ∨ op = 32) ∨ (op = 33) ∨ (op = 34) ∨ (op = 42) := by omega
    clear h hr
    rcases this with h | h | h | h | h | h | h | h | h | h | h | h | h | h | h | h | h | h | h | h | h | h | h | h | h | h
    · exact K1 op cond rd rn rm imm mode list s it (by omega)
    · exact K5 op cond rd rn rm imm mode list s it (by omega)
    · exact K7 op cond rd rn rm imm mode list s it (by omega)
    · exact K9 op cond rd rn rm imm mode list s it (by omega)
    · exact K10 op cond rd rn rm imm mode list s it (by omega)
    · exact K11 op cond rd rn rm imm mode list s it (by omega)
    · exact K12 op cond rd rn rm imm mode list s it (by omega)
    · exact K13 op cond rd rn rm imm mode list s it (by omega)
    · exact K15 op cond rd rn rm imm mode list s it (by omega)
    · exact K16 op cond rd rn rm imm mode list s it (by omega)
    · exact K17 op cond rd rn rm imm mode list s it (by omega)
    · exact K19 op cond rd rn rm imm mode list s it (by omega)
    · exact K20 op cond rd rn rm imm mode list s it (by omega)
    · exact K21 op cond rd rn rm imm mode list s it (by omega)
    · exact K23 op cond rd rn rm imm mode list s it (by omega)
    · exact K25 op cond rd rn rm imm mode list s it (by omega)
    · exact K26 op cond rd rn rm imm mode list s it (by omega)
    · exact K27 op cond rd rn rm imm mode list s it (by omega)
    · exact K39 op cond rd rn rm imm mode list s it (by omega)
    · exact K43 op cond rd rn rm imm mode list s it (by omega)
    · exact K44 op cond rd rn rm imm mode list s it (by omega)
    · exact K45 op cond rd rn rm imm mode list s it (by omega)
    · exact K31 op cond rd rn rm imm mode list s it (by omega) hl
    · exact K33 op cond rd rn rm imm mode list s it (by omega) hl
    · exact K34 op cond rd rn rm imm mode list s it (by omega) hl
    · exact K42 op cond rd rn rm imm mode list s it (by omega) hl
theorem Ends.uniq {α : Type} {f : Nat → Option α} {P Q : α → Prop} (h : Ends f P) (k : Ends f Q) : ∃ r, P r ∧ Q r := by
  obtain ⟨r, h1, n0, h2⟩ := h
  obtain ⟨r', h3, n1, h4⟩ := k
  have e := (h2 (max n0 n1) (by omega)).symm.trans (h4 (max n0 n1) (by omega))
  injection e with e
  exact ⟨r, h1, e ▸ h3⟩
open Classical in
noncomputable def canV (i : GIns) (it : Bool) : Bool := if ∃ r : Bool × Unit, r.1 = true ∧ Ends (fun n => narrow_Cano n i it) (fun x => x = r) then true else false
theorem canV_ends (i : GIns) (it : Bool) (hw : WfIns i) (h : ¬ (i.op = 35 ∨ i.op = 36 ∨ i.op = 37 ∨ i.op = 38 ∨ i.op = 40 ∨ i.op = 41)) : Ends (fun n => narrow_Cano n i it) (fun r => r.1 = canV i it) ∧ Ends (fun n => ref07_Encodeo n i it) (fun r => r.1.2.1 = canV i it) := by
  obtain ⟨P, h1, h2⟩ := can_ex i it hw h
  have hv : canV i it = true ↔ P := by
    obtain ⟨r, hr, n0, hn⟩ := h1
    unfold canV
    by_cases hP : P
    · have : ∃ r : Bool × Unit, r.1 = true ∧ Ends (fun n => narrow_Cano n i it) (fun x => x = r) := ⟨r, hr.2 hP, r, rfl, n0, hn⟩
      rw [if_pos this]; exact ⟨fun _ => hP, fun _ => rfl⟩
    · have : ¬ ∃ r : Bool × Unit, r.1 = true ∧ Ends (fun n => narrow_Cano n i it) (fun x => x = r) := by
        rintro ⟨r', h3, h4⟩
        obtain ⟨q, h5, h6⟩ := Ends.uniq h4 (Q := fun x => x.1 = true ↔ P) ⟨r, hr, n0, hn⟩
        rw [h5] at h6
        exact hP (h6.1 h3)
      rw [if_neg this]; exact ⟨fun e => (by cases e), fun e => absurd e hP⟩
  refine ⟨h1.mono fun r hr => ?_, h2.mono fun r hr => ?_⟩
  · rw [Bool.eq_iff_iff, hr, hv]
  · rw [Bool.eq_iff_iff, hr, hv]
def reaP (x : GLine) : Prop := x.kind = 2 ∨ (x.kind = 1 ∧ (x.ins.op = 40 ∨ x.ins.op = 41 ∨ x.ins.op = 35 ∨ x.ins.op = 36 ∨ x.ins.op = 37 ∨ x.ins.op = 38))
theorem layR_eq (x : GLine) : layout_Reaches x = (layout_Reacheso x).elim false Prod.fst := by
  unfold layout_Reaches
  cases layout_Reacheso x <;> rfl
theorem lay_rea (x : GLine) : layout_Reaches x = true ↔ reaP x := by
  rw [layR_eq]
  unfold layout_Reacheso reaP
  cases hk : ieq x.kind 1 <;> cases h40 : ieq x.ins.op 40 <;> cases h41 : ieq x.ins.op 41 <;> cases h35 : ieq x.ins.op 35 <;> cases h36 : ieq x.ins.op 36 <;> cases h37 : ieq x.ins.op 37 <;> cases h38 : ieq x.ins.op 38 <;> simp only [bNot_tt, bNot_ff, cond_true, cond_false, Option.elim_some] <;> simp only [evs, lgs] at * <;> omega
theorem ref_rea (x : GLine) : ref23_Reaches x = true ↔ reaP x := by
  show (bif (ieq x.kind 2) then true else (bif (ieq x.kind 1) then (bif (bif (bif (bif (bif (ieq x.ins.op 40) then true else (ieq x.ins.op 41)) then true else (ieq x.ins.op 35)) then true else (ieq x.ins.op 36)) then true else (ieq x.ins.op 37)) then true else (ieq x.ins.op 38)) else false)) = true ↔ _
  unfold reaP
  simp only [evs]
  omega
theorem rea_eq (x : GLine) : ref23_Reaches x = layout_Reaches x := by rw [Bool.eq_iff_iff, ref_rea, lay_rea]
def wideB (x : GLine) : Bool := bif (bif x.wide then true else (bif (ieq x.kind 1) then (ieq x.ins.op 36) else false)) then true else (bif (bif (ieq x.kind 2) then true else (bif (ieq x.kind 1) then (bif (ieq x.ins.op 40) then true else (ieq x.ins.op 41)) else false)) then (bNot (lo x.ins.rd)) else false)
noncomputable def vS (x : GLine) (b : Bool) : Int := bif isIns x then (bif wideB x then 1 else bif layout_Reaches x then 0 else bif canV x.ins b then 0 else 1) else 0
noncomputable def outL (l : List GLine) (B : List Bool) : Nat → List Int
  | 0 => []
  | i + 1 => outL l B i ++ [vS (@xget .line l i) (@xget .b B i)]
theorem outL_len (l : List GLine) (B : List Bool) (i : Nat) : (outL l B i).length = i := by
  induction i with
  | zero => rfl
  | succ i ih => simp [outL, ih]
theorem not_reach {x : GLine} (h1 : isIns x = true) (h2 : layout_Reaches x = false) : x.kind = 1 ∧ ¬ (x.ins.op = 35 ∨ x.ins.op = 36 ∨ x.ins.op = 37 ∨ x.ins.op = 38 ∨ x.ins.op = 40 ∨ x.ins.op = 41) := by
  have h3 : ¬ reaP x := by rw [← lay_rea, h2]; simp
  unfold isIns at h1
  unfold reaP at h3
  simp only [evs] at h1
  omega
theorem RefStart_ends (l : List GLine) (hl : l.length ≤ 100) (hw : ∀ x ∈ l, WfLine x) : Ends (fun n => ref23_Starto n l) (fun r => r.1 = outL l (In21 l) l.length) := by
  unfold ref23_Starto
  refine Ends.bind (Inside21_ends l hl) fun y hy => ?_
  rw [hy]
  have hBl := in21_len l
  generalize In21 l = B at hBl
  refine Ends.bind (R := fun z => z.2.1.2.2.2.1 = outL l B l.length) (Ends.loop (I := fun x => x.1.1 = l ∧ x.1.2.2.1 = B ∧ x.1.2.2.2.1 = outL l B x.1.2.2.2.2.1.toNat ∧ 0 ≤ x.1.2.2.2.2.1 ∧ x.1.2.2.2.2.1 ≤ (l.length : Int)) (μ := fun x => ((l.length : Int) - x.1.2.2.2.2.1).toNat) ⟨rfl, rfl, rfl, by simp, by simp⟩ fun x hx => ?_) fun z hz => Ends.ret hz
  obtain ⟨⟨l', s, B', out, i, _⟩, _⟩ := x
  obtain ⟨g0, g1, g2, g3, g4⟩ := hx
  dsimp only at g0 g1 g2 g3 g4
  subst g0 g1
  simp only [ref23_Start_L4f, ref23_Start_L4, xlenL, xlenB, rea_eq, refLow_eq]
  refine Ends.bif (fun h => ?_) (fun h => Ends.ret ?_)
  · rw [ilt_t] at h
    have hin : inside i (l'.length : Int) = true := inside_t.2 ⟨g3, h⟩
    have hinb : inside i (B'.length : Int) = true := inside_t.2 ⟨g3, by omega⟩
    rw [inc_i64 (by omega) (by omega)]
    have hol := outL_len l' B' i.toNat
    rw [← g2] at hol
    have room1 : ∀ c : Int, room (@xlen (.i .i64) out + @xlen (.i .i64) ([c] : List Int)) 8 = true := fun c => room_t.2 (by
      show (out.length + 1) * 8 ≤ _
      omega)
    have hwx := hw _ (@xget_mem .line l' i hin)
    refine Ends.chk hin ?_
    have fin : ∀ c : Int, c = vS (@xget .line l' i.toNat) (@xget .b B' i.toNat) → (@xapp (.i .i64) out [c] : List Int) = outL l' B' (i + 1).toNat := fun c e => by
      rw [toNat_succ g3]
      unfold outL
      rw [← g2, ← e]
      rfl
    generalize @xget .line l' i.toNat = x at hwx fin
    generalize @xget .b B' i.toNat = b at fin
    have hins : isIns x = bif (ieq x.kind 1) then true else (ieq x.kind 2) := rfl
    have done : ∀ c : Int, c = vS x b → Ends (fun _ : Nat => chk (room ((@xlen (.i .i64) out) + (@xlen (.i .i64) ([c] : List Int))) 8) (
          some ((none : Option Nat), ((l', s, B', (@xapp (.i .i64) out ([c] : List Int)), i + 1, ()), ())))) (fun y => match y.1 with
      | none => (y.2.1.1 = l' ∧ y.2.1.2.2.1 = B' ∧ y.2.1.2.2.2.1 = outL l' B' y.2.1.2.2.2.2.1.toNat ∧ 0 ≤ y.2.1.2.2.2.2.1 ∧ y.2.1.2.2.2.2.1 ≤ (l'.length : Int)) ∧ ((l'.length : Int) - y.2.1.2.2.2.2.1).toNat < ((l'.length : Int) - i).toNat
      | some j => y.2.1.2.2.2.1 = outL l' B' l'.length) := fun c e => Ends.chk (room1 c) (Ends.ret ⟨⟨rfl, rfl, fin c e, by (first | omega | (dsimp only at *; omega)), by (first | omega | (dsimp only at *; omega))⟩, by (first | omega | (dsimp only at *; omega))⟩)
    refine Ends.bif (fun h1 => done 0 ?_) (fun h1 => Ends.bif (fun h2 => done 1 ?_) (fun h2 => Ends.bif (fun h3 => done 0 ?_) (fun h3 => Ends.chk hinb ?_)))
    · have : isIns x = false := by rw [hins]; simp only [evs] at *; exact h1
      unfold vS; rw [this]; rfl
    · have hi : isIns x = true := by rw [hins]; simp only [evs] at *; omega
      have hw' : wideB x = true := h2
      unfold vS; rw [hi, hw']; rfl
    · have hi : isIns x = true := by rw [hins]; simp only [evs] at *; omega
      have hw' : wideB x = false := h2
      have h3 : layout_Reaches x = true := (rea_eq x).symm.trans h3
      unfold vS; rw [hi, hw', h3]; rfl
    · have hi : isIns x = true := by rw [hins]; simp only [evs] at *; omega
      have hw' : wideB x = false := h2
      have h3 : layout_Reaches x = false := (rea_eq x).symm.trans h3
      have hnr := not_reach hi h3
      refine Ends.bind (canV_ends x.ins b hwx.ins hnr.2).2 fun y hy => Ends.bif (fun h4 => done 1 ?_) (fun h4 => done 0 ?_)
      · rw [bNot_t, hy] at h4
        unfold vS; rw [hi, hw', h3, h4]; rfl
      · rw [bNot_f, hy] at h4
        unfold vS; rw [hi, hw', h3, h4]; rfl
  · rw [ilt_f] at h
    have e : i.toNat = l'.length := by omega
    rw [e] at g2
    exact g2
theorem set_rep (A : List Int) (k : Nat) (v : Int) : (A ++ List.replicate (k + 1) (0 : Int)).set A.length v = A ++ [v] ++ List.replicate k (0 : Int) := by
  rw [List.replicate_succ, List.set_append_right _ _ (Nat.le_refl _), Nat.sub_self, List.set_cons_zero, List.append_assoc]
  rfl
theorem LayStart_ends (l : List GLine) (hl : l.length ≤ 100) (hw : ∀ x ∈ l, WfLine x) : Ends (fun n => layout_Starto n l) (fun r => r.1 = outL l (In21 l) l.length) := by
  unfold layout_Starto
  simp only [xlenL]
  refine Ends.chk (by simp only [evs, true_and]; omega) (Ends.bind (InsideB_ends l hl) fun y hy => ?_)
  rw [hy]
  have hBl := in21_len l
  generalize In21 l = B at hBl
  have hz0 : (xrep (.i .i64) (@xlen (.i .i64) (xrep (.i .i64) (Int.toNat (l.length : Int)))) : List Int) = List.replicate l.length (0 : Int) := by
    have e : (@xlen (.i .i64) (xrep (.i .i64) (Int.toNat (l.length : Int)))) = l.length := len_rep (.i .i64) _
    rw [e]; rfl
  refine Ends.bind (R := fun z => z.2.2.1 = outL l B l.length) (Ends.loop (I := fun x => x.1.1 = l ∧ x.1.2.2.2.1 = B ∧ x.1.2.2.2.2.1 = (l.length : Int) ∧ x.2.1 = outL l B x.1.2.2.2.2.2.1.toNat ++ List.replicate (l.length - x.1.2.2.2.2.2.1.toNat) (0 : Int) ∧ 0 ≤ x.1.2.2.2.2.2.1 ∧ x.1.2.2.2.2.2.1 ≤ (l.length : Int)) (μ := fun x => ((l.length : Int) - x.1.2.2.2.2.2.1).toNat) ⟨rfl, rfl, by rw [xlenB, hBl], hz0, by simp, by simp⟩ fun x hx => ?_) fun z hz => Ends.ret hz
  obtain ⟨⟨l', s, _, B', ln, i, _⟩, ⟨o, _⟩⟩ := x
  obtain ⟨g0, g1, g5, g2, g3, g4⟩ := hx
  dsimp only at g0 g1 g2 g3 g4 g5
  subst g0 g1 g5
  simp only [layout_Start_L4f, layout_Start_L4, xlenL, xlenB, xlenI, isaLow_eq]
  refine Ends.bif (fun h => ?_) (fun h => Ends.ret ?_)
  · rw [ilt_t] at h
    have hin : inside i (l'.length : Int) = true := inside_t.2 ⟨g3, h⟩
    have hinb : inside i (B'.length : Int) = true := inside_t.2 ⟨g3, by omega⟩
    have hol := outL_len l' B' i.toNat
    have hino : inside i (o.length : Int) = true := by
      refine inside_t.2 ⟨g3, ?_⟩
      rw [g2, List.length_append, hol, List.length_replicate]; omega
    rw [inc_i64 (by omega) (by omega)]
    have hwx := hw _ (@xget_mem .line l' i hin)
    have hk : l'.length - i.toNat = (l'.length - (i + 1).toNat) + 1 := by omega
    have fin1 : 1 = vS (@xget .line l' i.toNat) (@xget .b B' i.toNat) → (@xset (.i .i64) o i.toNat (1 : Int) : List Int) = outL l' B' (i + 1).toNat ++ List.replicate (l'.length - (i + 1).toNat) (0 : Int) := fun e => by
      have := set_rep (outL l' B' i.toNat) (l'.length - (i + 1).toNat) 1
      rw [hol, ← hk, ← g2] at this
      refine this.trans ?_
      rw [toNat_succ g3]
      show _ = (outL l' B' i.toNat ++ [_]) ++ _
      rw [← e]
    have fin0 : 0 = vS (@xget .line l' i.toNat) (@xget .b B' i.toNat) → o = outL l' B' (i + 1).toNat ++ List.replicate (l'.length - (i + 1).toNat) (0 : Int) := fun e => by
      rw [g2, hk, List.replicate_succ, toNat_succ g3]
      show _ = (outL l' B' i.toNat ++ [_]) ++ _
      rw [← e, List.append_assoc]
      rfl
    refine Ends.chk hinb (Ends.chk hin ?_)
    generalize @xget .line l' i.toNat = x at hwx fin1 fin0
    generalize @xget .b B' i.toNat = b at fin1 fin0
    revert hwx fin1 fin0
    revert x b
    intro (x : GLine) (b : Bool) hwx fin1 fin0
    have hins : layout_ins x = isIns x := rfl
    have hwd : (bif (bif x.wide then true else (bif (ieq x.kind 1) then (ieq x.ins.op 36) else false)) then true else (bif (layout_places x) then (bNot (lo x.ins.rd)) else false)) = wideB x := rfl
    try dsimp only
    rw [hins, hwd]
    have d1 : 1 = vS x b → Ends (fun _ : Nat => chk (inside i (o.length : Int)) (
              some ((none : Option Nat), (l', s, (), B', (l'.length : Int), i + 1, ()), ((@xset (.i .i64) o (Int.toNat i) (1 : Int)), ())))) (fun y => match y.1 with
      | none => (y.2.1.1 = l' ∧ y.2.1.2.2.2.1 = B' ∧ y.2.1.2.2.2.2.1 = (l'.length : Int) ∧ y.2.2.1 = outL l' B' y.2.1.2.2.2.2.2.1.toNat ++ List.replicate (l'.length - y.2.1.2.2.2.2.2.1.toNat) (0 : Int) ∧ 0 ≤ y.2.1.2.2.2.2.2.1 ∧ y.2.1.2.2.2.2.2.1 ≤ (l'.length : Int)) ∧ ((l'.length : Int) - y.2.1.2.2.2.2.2.1).toNat < ((l'.length : Int) - i).toNat
      | some j => y.2.2.1 = outL l' B' l'.length) := fun e => Ends.chk hino (Ends.ret ⟨⟨rfl, rfl, rfl, fin1 e, by (first | omega | (dsimp only at *; omega)), by (first | omega | (dsimp only at *; omega))⟩, by (first | omega | (dsimp only at *; omega))⟩)
    have d0 : 0 = vS x b → Ends (fun _ : Nat => some ((none : Option Nat), (l', s, (), B', (l'.length : Int), i + 1, ()), (o, ()))) (fun y => match y.1 with
      | none => (y.2.1.1 = l' ∧ y.2.1.2.2.2.1 = B' ∧ y.2.1.2.2.2.2.1 = (l'.length : Int) ∧ y.2.2.1 = outL l' B' y.2.1.2.2.2.2.2.1.toNat ++ List.replicate (l'.length - y.2.1.2.2.2.2.2.1.toNat) (0 : Int) ∧ 0 ≤ y.2.1.2.2.2.2.2.1 ∧ y.2.1.2.2.2.2.2.1 ≤ (l'.length : Int)) ∧ ((l'.length : Int) - y.2.1.2.2.2.2.2.1).toNat < ((l'.length : Int) - i).toNat
      | some j => y.2.2.1 = outL l' B' l'.length) := fun e => Ends.ret ⟨⟨rfl, rfl, rfl, fin0 e, by (first | omega | (dsimp only at *; omega)), by (first | omega | (dsimp only at *; omega))⟩, by (first | omega | (dsimp only at *; omega))⟩
    cases hi : isIns x with
    | false =>
      simp only [bAnd, Bool.false_and, cond_false, Option.bind_some]
      exact d0 (by unfold vS; rw [hi]; rfl)
    | true =>
      cases hw' : wideB x with
      | true =>
        simp only [bAnd, bNot_tt, Bool.true_and, Bool.false_and, cond_false, cond_true, Option.bind_some]
        exact d1 (by unfold vS; rw [hi, hw']; rfl)
      | false =>
        cases h3 : layout_Reaches x with
        | true =>
          simp only [bAnd, bNot_tt, bNot_ff, Bool.true_and, Bool.false_and, cond_false, cond_true, Option.bind_some]
          exact d0 (by unfold vS; rw [hi, hw', h3]; rfl)
        | false =>
          simp only [bAnd, bNot_tt, bNot_ff, Bool.true_and, Bool.false_and, cond_false, cond_true]
          have hnr := not_reach hi h3
          refine Ends.bind (canV_ends x.ins b hwx.ins hnr.2).1 fun y hy => Ends.bif (fun h4 => d1 ?_) (fun h4 => d0 ?_)
          · rw [bNot_t, hy] at h4
            unfold vS; rw [hi, hw', h3, h4]; rfl
          · rw [bNot_f, hy] at h4
            unfold vS; rw [hi, hw', h3, h4]; rfl
  · rw [ilt_f] at h
    have e : i.toNat = l'.length := by omega
    rw [e, Nat.sub_self] at g2
    simpa using g2
theorem Ints_ends (a : List Int) (ha : a.length ≤ 1000) : Ends (fun n => ref01_Intso n a a) (fun r => r.1 = true) := by
  unfold ref01_Intso
  refine Ends.bif (fun h => ?_) (fun _ => ?_)
  · simp only [evs] at h; exact absurd trivial h
  refine Ends.bind (R := fun z => z.1 = 0) (Ends.loop (I := fun x => x.1.1 = a ∧ x.1.2.1 = a ∧ 0 ≤ x.1.2.2.2.1 ∧ x.1.2.2.2.1 ≤ (a.length : Int)) (μ := fun x => ((a.length : Int) - x.1.2.2.2.1).toNat) ⟨rfl, rfl, by simp, by simp⟩ fun x hx => ?_) fun z hz => by rw [hz]; exact Ends.ret rfl
  obtain ⟨⟨a', b', s, i, _⟩, _⟩ := x
  obtain ⟨g0, g1, g3, g4⟩ := hx
  dsimp only at g0 g1 g3 g4
  subst g0 g1
  simp only [ref01_Ints_L4f, ref01_Ints_L4, xlenI]
  refine Ends.bif (fun h => ?_) (fun h => Ends.ret rfl)
  rw [ilt_t] at h
  have hin : inside i (b'.length : Int) = true := inside_t.2 ⟨g3, h⟩
  rw [inc_i64 (by omega) (by omega)]
  refine Ends.chk hin (Ends.chk hin (Ends.bif (fun h2 => ?_) (fun _ => Ends.ret ⟨⟨rfl, rfl, by (first | omega | (dsimp only at *; omega)), by (first | omega | (dsimp only at *; omega))⟩, by (first | omega | (dsimp only at *; omega))⟩)))
  exact absurd ((bNot_t.1 h2).symm.trans (ieq_t.2 rfl)) (by decide)
theorem LayoutStarts_ends (l : List GLine) (hw : ∀ x ∈ l, WfLine x) : Ends (fun n => law23_LayoutStartso n l) (fun r => r.1 = true) := by
  unfold law23_LayoutStartso
  refine Ends.bind (May23_ends l hw) fun y hy => Ends.bif (fun h => Ends.bind awake_ends fun y2 h2 => Ends.ret h2) (fun h => ?_)
  rw [ieq_f] at h
  have hM := hy.2 (by rcases hy.1 with h' | h'; exact absurd h' h; exact h')
  have hlen : l.length ≤ 100 := by have := hM.1; omega
  refine Ends.bind (LayStart_ends l hlen hw) fun y3 h3 => Ends.bind (RefStart_ends l hlen hw) fun y4 h4 => ?_
  rw [h3, h4]
  refine Ends.bind (Ints_ends _ (by rw [outL_len]; omega)) fun y5 h5 => ?_
  rw [h5]
  exact Ends.bind awake_ends fun y6 h6 => Ends.ret h6
theorem LayoutStarts_at (l : List GLine) (hw : ∀ x ∈ l, WfLine x) : ∃ n, law23_LayoutStartso n l = some (true, ()) := by
  obtain ⟨n, r, h1, h2⟩ := (LayoutStarts_ends l hw).get
  obtain ⟨b, _⟩ := r
  exact ⟨n, by rw [h1, show b = true from h2]⟩
end Go.Ev.Tryz
