/- Instructions: both encoders have a narrow form for the same. (printed by gen07b.py)  -/
import Derived.Test.YtjepeadpofpadaaGreatDoorLsK9
set_option linter.unusedSimpArgs false
set_option linter.unusedVariables false
set_option linter.unusedSectionVars false
namespace Go.Ev.Tryz
open Go Go.Ev
set_option maxHeartbeats 4000000
theorem be_tt : bEq true true = true := rfl
theorem be_tf : bEq true false = false := rfl
theorem be_ft : bEq false true = false := rfl
theorem be_ff : bEq false false = true := rfl
theorem Lw1_t {a : Int} : Lw [a] = true ↔ 0 ≤ a ∧ a ≤ 7 := by simp [Lw, lo_t]
theorem Lw1_f {a : Int} : Lw [a] = false ↔ ¬ (0 ≤ a ∧ a ≤ 7) := by rw [← Lw1_t]; cases Lw [a] <;> simp
theorem Lw2_t {a b : Int} : Lw [a, b] = true ↔ (0 ≤ a ∧ a ≤ 7) ∧ 0 ≤ b ∧ b ≤ 7 := by simp [Lw, lo_t]
theorem Lw2_f {a b : Int} : Lw [a, b] = false ↔ ¬ ((0 ≤ a ∧ a ≤ 7) ∧ 0 ≤ b ∧ b ≤ 7) := by rw [← Lw2_t]; cases Lw [a, b] <;> simp
theorem Lw3_t {a b c : Int} : Lw [a, b, c] = true ↔ (0 ≤ a ∧ a ≤ 7) ∧ (0 ≤ b ∧ b ≤ 7) ∧ 0 ≤ c ∧ c ≤ 7 := by simp [Lw, lo_t]
theorem Lw3_f {a b c : Int} : Lw [a, b, c] = false ↔ ¬ ((0 ≤ a ∧ a ≤ 7) ∧ (0 ≤ b ∧ b ≤ 7) ∧ 0 ≤ c ∧ c ≤ 7) := by rw [← Lw3_t]; cases Lw [a, b, c] <;> simp
theorem lowN_k {β : Type} {Q : β → Prop} {g : Nat → Bool × Unit → Option β} (l : List Int) (hl : l.length ≤ 10) (k : Ends (fun n => g n (Lw l, ())) Q) : Ends (fun n => (narrow_lowo n l).bind (g n)) Q :=
  Ends.bind (lowN_ends l hl) fun y hy => by obtain ⟨y, _⟩ := y; have hy : y = Lw l := hy; subst hy; exact k
theorem low7_k {β : Type} {Q : β → Prop} {g : Nat → Bool × Unit → Option β} (l : List Int) (hl : l.length ≤ 10) (k : Ends (fun n => g n (Lw l, ())) Q) : Ends (fun n => (ref07_lowo n l).bind (g n)) Q :=
  Ends.bind (low7_ends l hl) fun y hy => by obtain ⟨y, _⟩ := y; have hy : y = Lw l := hy; subst hy; exact k
theorem lowN_if {β : Type} {Q : β → Prop} {g : Nat → Bool × Unit → Option β} (c : Bool) (l : List Int) (hl : l.length ≤ 10) (k : Ends (fun n => g n ((bif c then Lw l else false), ())) Q) : Ends (fun n => (bif c then narrow_lowo n l else some (dfS (.ty .b), dfObs [])).bind (g n)) Q := by
  cases c with
  | true => exact lowN_k l hl k
  | false => exact k
theorem low7_if {β : Type} {Q : β → Prop} {g : Nat → Bool × Unit → Option β} (c : Bool) (l : List Int) (hl : l.length ≤ 10) (k : Ends (fun n => g n ((bif c then Lw l else false), ())) Q) : Ends (fun n => (bif c then ref07_lowo n l else some (dfS (.ty .b), dfObs [])).bind (g n)) Q := by
  cases c with
  | true => exact low7_k l hl k
  | false => exact k
theorem any_0 : ([] : List GForm).any (·.is) = true ↔ False := by simp
theorem any_1 (a : GForm) : ([a] : List GForm).any (·.is) = true ↔ a.is = true := by simp
theorem any_2 (a b : GForm) : ([a, b] : List GForm).any (·.is) = true ↔ a.is = true ∨ b.is = true := by simp
theorem any_3 (a b c : GForm) : ([a, b, c] : List GForm).any (·.is) = true ↔ a.is = true ∨ b.is = true ∨ c.is = true := by simp
theorem len_a1 (a b : GForm) : (@xapp .form ([a] : List GForm) ([b] : List GForm) : List GForm).length ≤ 100 := show 2 ≤ 100 by decide
theorem len_a2 (a b c : GForm) : (@xapp .form ([a] : List GForm) ([b, c] : List GForm) : List GForm).length ≤ 100 := show 3 ≤ 100 by decide
theorem len_0 : ([] : List GForm).length ≤ 100 := by decide
theorem len_1 (a : GForm) : ([a] : List GForm).length ≤ 100 := show 1 ≤ 100 by decide
theorem len_2 (a b : GForm) : ([a, b] : List GForm).length ≤ 100 := show 2 ≤ 100 by decide
theorem any_a1 (a b : GForm) : (@xapp .form ([a] : List GForm) ([b] : List GForm) : List GForm).any (·.is) = true ↔ a.is = true ∨ b.is = true := any_2 a b
theorem any_a2 (a b c : GForm) : (@xapp .form ([a] : List GForm) ([b, c] : List GForm) : List GForm).any (·.is) = true ↔ a.is = true ∨ b.is = true ∨ c.is = true := any_3 a b c
theorem enc_fin {C N : Prop} (hC : C) (y : (Int × Bool × Unit) × Unit) (hy : y.1.2.1 = true ↔ N) : Ends (fun _ : Nat => bif bNot y.1.2.1 then some (((0 : Int), false, ()), ()) else some ((y.1.1, true, ()), ())) (fun r => r.1.2.1 = true ↔ (C ∧ N)) := by
  refine Ends.bif (fun h => Ends.ret ?_) (fun h => Ends.ret ?_)
  · rw [bNot_t] at h
    rw [h] at hy
    exact ⟨fun e => (by cases e), fun e => hy.2 e.2⟩
  · rw [bNot_f] at h
    exact ⟨fun _ => ⟨hC, hy.1 h⟩, fun _ => rfl⟩
theorem can_of {i : GIns} {it : Bool} {C N : Prop} (hc : Ends (fun n => isa_Checko n i) (fun r => r.1 = 0 ↔ C)) (hf : C → Ends (fun n => narrow_formso n i it) (fun r => r.1.length ≤ 100 ∧ (r.1.any (·.is) = true ↔ N))) : Ends (fun n => narrow_Cano n i it) (fun r => r.1 = true ↔ (C ∧ N)) := by
  unfold narrow_Cano narrow_Encodeo
  refine Ends.bind (R := fun y => y.1.2.1 = true ↔ (C ∧ N)) ?_ fun y hy => Ends.ret hy
  refine Ends.bind hc fun y hy => Ends.bif (fun h => Ends.ret ⟨fun e => (by cases e), fun e => ?_⟩) (fun h => ?_)
  · rw [bNot_t, ieq_f] at h; exact absurd (hy.2 e.1) h
  · rw [bNot_f, ieq_t] at h
    have hC := hy.1 h
    refine Ends.bind (hf hC) fun y2 h2 => Ends.bind (forms_loop y2.1 h2.1 _) fun z hz => Ends.ret ?_
    dsimp only
    rw [hz]
    exact ⟨fun e => ⟨hC, h2.2.1 e⟩, fun e => h2.2.2 e.2⟩
theorem enc_of {i : GIns} {C N : Prop} {g : Nat → Option ((Int × Bool × Unit) × Unit)} (hc : Ends (fun n => ref06_Checko n i) (fun r => r.1 = 0 ↔ C)) (hf : C → Ends g (fun r => r.1.2.1 = true ↔ (C ∧ N))) : Ends (fun n => (ref06_Checko n i).bind fun y1 => bif bNot (ieq y1.1 0) then some (((0 : Int), false, ()), ()) else g n) (fun r => r.1.2.1 = true ↔ (C ∧ N)) := by
  refine Ends.bind hc fun y hy => Ends.bif (fun h => Ends.ret ⟨fun e => (by cases e), fun e => ?_⟩) (fun h => ?_)
  · rw [bNot_t, ieq_f] at h; exact absurd (hy.2 e.1) h
  · rw [bNot_f, ieq_t] at h
    exact hf (hy.1 h)
theorem npF : (narrow_pair 1 = (16384, true, ())) ∧ (narrow_pair 2 = (16448, true, ())) ∧ (narrow_pair 3 = (17152, true, ())) ∧ (narrow_pair 4 = (17280, true, ())) ∧ (narrow_pair 5 = (0, false, ())) ∧ (narrow_pair 6 = (16704, true, ())) ∧ (narrow_pair 7 = (0, false, ())) ∧ (narrow_pair 8 = (16768, true, ())) ∧ (narrow_pair 9 = (0, false, ())) ∧ (narrow_pair 10 = (0, false, ())) ∧ (narrow_pair 11 = (0, false, ())) ∧ (narrow_pair 12 = (0, false, ())) ∧ (narrow_pair 13 = (0, false, ())) ∧ (narrow_pair 14 = (0, false, ())) ∧ (narrow_pair 15 = (0, false, ())) ∧ (narrow_pair 16 = (16512, true, ())) ∧ (narrow_pair 17 = (16576, true, ())) ∧ (narrow_pair 18 = (16640, true, ())) ∧ (narrow_pair 19 = (16832, true, ())) := ⟨rfl, rfl, rfl, rfl, rfl, rfl, rfl, rfl, rfl, rfl, rfl, rfl, rfl, rfl, rfl, rfl, rfl, rfl, rfl⟩
theorem ldF : (wr .i64 (isub 25 25) = 0) ∧ (inside 0 (iof 6) = true) ∧ (@Eq Int (@xget (.i .i64) ([4, 1, 2, 4, 1, 2] : List Int) (Int.toNat 0)) 4) ∧ (inside 0 (iof (@xlen (.i .i64) ([4, 1, 2, 4, 1, 2] : List Int))) = true) ∧ (@Eq Int (@xget (.i .i64) ([22528, 23552, 23040, 20480, 21504, 20992] : List Int) (Int.toNat 0)) 22528) ∧ (inside 0 (iof (@xlen (.i .i64) ([22528, 23552, 23040, 20480, 21504, 20992] : List Int))) = true) ∧ (@Eq Int (@xget (.i .i64) ([26624, 30720, 34816, 24576, 28672, 32768] : List Int) (Int.toNat 0)) 26624) ∧ (inside 0 (iof (@xlen (.i .i64) ([26624, 30720, 34816, 24576, 28672, 32768] : List Int))) = true) ∧ (@Eq Int (@xget (.i .i64) ([38912, 0, 0, 36864, 0, 0] : List Int) (Int.toNat 0)) 38912) ∧ (inside 0 (iof (@xlen (.i .i64) ([38912, 0, 0, 36864, 0, 0] : List Int))) = true) ∧ (wr .i64 (isub 26 25) = 1) ∧ (inside 1 (iof 6) = true) ∧ (@Eq Int (@xget (.i .i64) ([4, 1, 2, 4, 1, 2] : List Int) (Int.toNat 1)) 1) ∧ (inside 1 (iof (@xlen (.i .i64) ([4, 1, 2, 4, 1, 2] : List Int))) = true) ∧ (@Eq Int (@xget (.i .i64) ([22528, 23552, 23040, 20480, 21504, 20992] : List Int) (Int.toNat 1)) 23552) ∧ (inside 1 (iof (@xlen (.i .i64) ([22528, 23552, 23040, 20480, 21504, 20992] : List Int))) = true) ∧ (@Eq Int (@xget (.i .i64) ([26624, 30720, 34816, 24576, 28672, 32768] : List Int) (Int.toNat 1)) 30720) ∧ (inside 1 (iof (@xlen (.i .i64) ([26624, 30720, 34816, 24576, 28672, 32768] : List Int))) = true) ∧ (@Eq Int (@xget (.i .i64) ([38912, 0, 0, 36864, 0, 0] : List Int) (Int.toNat 1)) 0) ∧ (inside 1 (iof (@xlen (.i .i64) ([38912, 0, 0, 36864, 0, 0] : List Int))) = true) ∧ (wr .i64 (isub 27 25) = 2) ∧ (inside 2 (iof 6) = true) ∧ (@Eq Int (@xget (.i .i64) ([4, 1, 2, 4, 1, 2] : List Int) (Int.toNat 2)) 2) ∧ (inside 2 (iof (@xlen (.i .i64) ([4, 1, 2, 4, 1, 2] : List Int))) = true) ∧ (@Eq Int (@xget (.i .i64) ([22528, 23552, 23040, 20480, 21504, 20992] : List Int) (Int.toNat 2)) 23040) ∧ (inside 2 (iof (@xlen (.i .i64) ([22528, 23552, 23040, 20480, 21504, 20992] : List Int))) = true) ∧ (@Eq Int (@xget (.i .i64) ([26624, 30720, 34816, 24576, 28672, 32768] : List Int) (Int.toNat 2)) 34816) ∧ (inside 2 (iof (@xlen (.i .i64) ([26624, 30720, 34816, 24576, 28672, 32768] : List Int))) = true) ∧ (@Eq Int (@xget (.i .i64) ([38912, 0, 0, 36864, 0, 0] : List Int) (Int.toNat 2)) 0) ∧ (inside 2 (iof (@xlen (.i .i64) ([38912, 0, 0, 36864, 0, 0] : List Int))) = true) ∧ (wr .i64 (isub 28 25) = 3) ∧ (inside 3 (iof 6) = true) ∧ (@Eq Int (@xget (.i .i64) ([4, 1, 2, 4, 1, 2] : List Int) (Int.toNat 3)) 4) ∧ (inside 3 (iof (@xlen (.i .i64) ([4, 1, 2, 4, 1, 2] : List Int))) = true) ∧ (@Eq Int (@xget (.i .i64) ([22528, 23552, 23040, 20480, 21504, 20992] : List Int) (Int.toNat 3)) 20480) ∧ (inside 3 (iof (@xlen (.i .i64) ([22528, 23552, 23040, 20480, 21504, 20992] : List Int))) = true) ∧ (@Eq Int (@xget (.i .i64) ([26624, 30720, 34816, 24576, 28672, 32768] : List Int) (Int.toNat 3)) 24576) ∧ (inside 3 (iof (@xlen (.i .i64) ([26624, 30720, 34816, 24576, 28672, 32768] : List Int))) = true) ∧ (@Eq Int (@xget (.i .i64) ([38912, 0, 0, 36864, 0, 0] : List Int) (Int.toNat 3)) 36864) ∧ (inside 3 (iof (@xlen (.i .i64) ([38912, 0, 0, 36864, 0, 0] : List Int))) = true) ∧ (wr .i64 (isub 29 25) = 4) ∧ (inside 4 (iof 6) = true) ∧ (@Eq Int (@xget (.i .i64) ([4, 1, 2, 4, 1, 2] : List Int) (Int.toNat 4)) 1) ∧ (inside 4 (iof (@xlen (.i .i64) ([4, 1, 2, 4, 1, 2] : List Int))) = true) ∧ (@Eq Int (@xget (.i .i64) ([22528, 23552, 23040, 20480, 21504, 20992] : List Int) (Int.toNat 4)) 21504) ∧ (inside 4 (iof (@xlen (.i .i64) ([22528, 23552, 23040, 20480, 21504, 20992] : List Int))) = true) ∧ (@Eq Int (@xget (.i .i64) ([26624, 30720, 34816, 24576, 28672, 32768] : List Int) (Int.toNat 4)) 28672) ∧ (inside 4 (iof (@xlen (.i .i64) ([26624, 30720, 34816, 24576, 28672, 32768] : List Int))) = true) ∧ (@Eq Int (@xget (.i .i64) ([38912, 0, 0, 36864, 0, 0] : List Int) (Int.toNat 4)) 0) ∧ (inside 4 (iof (@xlen (.i .i64) ([38912, 0, 0, 36864, 0, 0] : List Int))) = true) ∧ (wr .i64 (isub 30 25) = 5) ∧ (inside 5 (iof 6) = true) ∧ (@Eq Int (@xget (.i .i64) ([4, 1, 2, 4, 1, 2] : List Int) (Int.toNat 5)) 2) ∧ (inside 5 (iof (@xlen (.i .i64) ([4, 1, 2, 4, 1, 2] : List Int))) = true) ∧ (@Eq Int (@xget (.i .i64) ([22528, 23552, 23040, 20480, 21504, 20992] : List Int) (Int.toNat 5)) 20992) ∧ (inside 5 (iof (@xlen (.i .i64) ([22528, 23552, 23040, 20480, 21504, 20992] : List Int))) = true) ∧ (@Eq Int (@xget (.i .i64) ([26624, 30720, 34816, 24576, 28672, 32768] : List Int) (Int.toNat 5)) 32768) ∧ (inside 5 (iof (@xlen (.i .i64) ([26624, 30720, 34816, 24576, 28672, 32768] : List Int))) = true) ∧ (@Eq Int (@xget (.i .i64) ([38912, 0, 0, 36864, 0, 0] : List Int) (Int.toNat 5)) 0) ∧ (inside 5 (iof (@xlen (.i .i64) ([38912, 0, 0, 36864, 0, 0] : List Int))) = true) ∧ (wr .i64 (isub 16 16) = 0) ∧ (inside 0 (iof (@xlen (.i .i64) ([16512, 16576, 16640, 16832] : List Int))) = true) ∧ (@Eq Int (@xget (.i .i64) ([16512, 16576, 16640, 16832] : List Int) (Int.toNat 0)) 16512) ∧ (wr .i64 (isub 17 16) = 1) ∧ (inside 1 (iof (@xlen (.i .i64) ([16512, 16576, 16640, 16832] : List Int))) = true) ∧ (@Eq Int (@xget (.i .i64) ([16512, 16576, 16640, 16832] : List Int) (Int.toNat 1)) 16576) ∧ (wr .i64 (isub 18 16) = 2) ∧ (inside 2 (iof (@xlen (.i .i64) ([16512, 16576, 16640, 16832] : List Int))) = true) ∧ (@Eq Int (@xget (.i .i64) ([16512, 16576, 16640, 16832] : List Int) (Int.toNat 2)) 16640) ∧ (wr .i64 (isub 19 16) = 3) ∧ (inside 3 (iof (@xlen (.i .i64) ([16512, 16576, 16640, 16832] : List Int))) = true) ∧ (@Eq Int (@xget (.i .i64) ([16512, 16576, 16640, 16832] : List Int) (Int.toNat 3)) 16832) := ⟨rfl, rfl, rfl, rfl, rfl, rfl, rfl, rfl, rfl, rfl, rfl, rfl, rfl, rfl, rfl, rfl, rfl, rfl, rfl, rfl, rfl, rfl, rfl, rfl, rfl, rfl, rfl, rfl, rfl, rfl, rfl, rfl, rfl, rfl, rfl, rfl, rfl, rfl, rfl, rfl, rfl, rfl, rfl, rfl, rfl, rfl, rfl, rfl, rfl, rfl, rfl, rfl, rfl, rfl, rfl, rfl, rfl, rfl, rfl, rfl, rfl, rfl, rfl, rfl, rfl, rfl, rfl, rfl, rfl, rfl, rfl, rfl⟩
def Np1 (rd rn rm imm mode list : Int) (s it : Bool) : Prop := mode = 2 ∧ rd = rn ∧ s ≠ it ∧ (0 ≤ rd ∧ rd ≤ 7) ∧ (0 ≤ rm ∧ rm ≤ 7)
theorem H1 (op cond rd rn rm imm mode list : Int) (s it : Bool) (hop : op = 1 ∨ op = 2 ∨ op = 3 ∨ op = 4 ∨ op = 6 ∨ op = 8) (hC : Cp1 cond rd rn rm imm mode list s) : (ieq mode 2 = true → Ends (fun n => narrow_datao n ⟨op, cond, rd, rn, rm, imm, mode, list, s⟩ it) (fun r => r.1.length ≤ 100 ∧ (r.1.any (·.is) = true ↔ Np1 rd rn rm imm mode list s it))) ∧ (ieq mode 2 = false → Ends (fun n => narrow_numso n ⟨op, cond, rd, rn, rm, imm, mode, list, s⟩ it) (fun r => r.1.length ≤ 100 ∧ (r.1.any (·.is) = true ↔ Np1 rd rn rm imm mode list s it))) ∧ Ends (fun n => ref07_twoo n ⟨op, cond, rd, rn, rm, imm, mode, list, s⟩ (bNot (bEq s it)) it) (fun r => r.1.2.1 = true ↔ Np1 rd rn rm imm mode list s it) := by
  refine ⟨fun hm => ?_, fun hm => ?_, ?_⟩
  rotate_left 2
  cases hm : ieq mode 2 <;> cases h1 : ieq mode 1 <;> cases hn : ieq rn 13
  all_goals (rcases hop with rfl | rfl | rfl | rfl | rfl | rfl <;> cases s <;> cases it <;> (first | simp only [hm, h1, hn, narrow_datao, narrow_numso, ref07_twoo, ieqF, ieqT, ileT, ileF, iltT, iltF, Int.reduceLE, Int.reduceLT, Int.reduceEq, ne_eq, not_false_eq_true, bNot_tt, bNot_ff, be_tt, be_tf, be_ft, be_ff, cond_true, cond_false, Option.bind_some, Bool.cond_self, npF, ldF] | simp only [hm, narrow_datao, narrow_numso, ref07_twoo, ieqF, ieqT, ileT, ileF, iltT, iltF, Int.reduceLE, Int.reduceLT, Int.reduceEq, ne_eq, not_false_eq_true, bNot_tt, bNot_ff, be_tt, be_tf, be_ft, be_ff, cond_true, cond_false, Option.bind_some, Bool.cond_self, npF, ldF]))
  all_goals (repeat' (first
    | (with_reducible refine Ends.ret ?_)
    | ((with_reducible refine Ends.chk ?_ ?_); (first | rfl | (simp only [evs, lgs]; omega)))
    | ((with_reducible refine lowN_if _ _ (Nat.le_of_ble_eq_true rfl) ?_))
    | ((with_reducible refine low7_if _ _ (Nat.le_of_ble_eq_true rfl) ?_))
    | ((with_reducible refine lowN_k _ (Nat.le_of_ble_eq_true rfl) ?_))
    | ((with_reducible refine low7_k _ (Nat.le_of_ble_eq_true rfl) ?_))
    | (with_reducible refine Ends.bif (fun h => ?_) (fun h => ?_))))
  all_goals (first | refine ⟨len_0, any_0.trans ?_⟩ | refine ⟨len_1 _, (any_1 _).trans ?_⟩ | refine ⟨len_2 _ _, (any_2 _ _).trans ?_⟩ | refine ⟨len_a1 _ _, (any_a1 _ _).trans ?_⟩ | refine ⟨len_a2 _ _ _, (any_a2 _ _ _).trans ?_⟩ | skip)
  all_goals (simp only [Cp1, Np1, evs, lgs, Pl, La, bEq_t, bEq_f, Lw1_t, Lw1_f, Lw2_t, Lw2_f, Lw3_t, Lw3_f] at *)
  all_goals (try omega)
theorem K1 (op cond rd rn rm imm mode list : Int) (s it : Bool) (hop : op = 1 ∨ op = 2 ∨ op = 3 ∨ op = 4 ∨ op = 6 ∨ op = 8) : ∃ P : Prop, Ends (fun n => narrow_Cano n ⟨op, cond, rd, rn, rm, imm, mode, list, s⟩ it) (fun r => r.1 = true ↔ P) ∧ Ends (fun n => ref07_Encodeo n ⟨op, cond, rd, rn, rm, imm, mode, list, s⟩ it) (fun r => r.1.2.1 = true ↔ P) := by
  refine ⟨Cp1 cond rd rn rm imm mode list s ∧ Np1 rd rn rm imm mode list s it, can_of (CI1 op cond rd rn rm imm mode list s (by omega)) (fun hC => ?_), enc_of (CR1 op cond rd rn rm imm mode list s (by omega)) (fun hC => ?_)⟩
  · unfold narrow_formso
    have h := H1 op cond rd rn rm imm mode list s it hop hC
    cases hm : ieq mode 2 <;> rcases hop with rfl | rfl | rfl | rfl | rfl | rfl <;> simp only [hm, ieqF, ieqT, ileT, ileF, iltT, iltF, Int.reduceLE, Int.reduceLT, Int.reduceEq, ne_eq, not_false_eq_true, cond_true, cond_false]
    all_goals first | exact Ends.bind (h.2.1 hm) fun y hy => Ends.ret hy | exact Ends.bind (h.1 hm) fun y hy => Ends.ret hy
  · have h := H1 op cond rd rn rm imm mode list s it hop hC
    rcases hop with rfl | rfl | rfl | rfl | rfl | rfl <;> simp only [ieqF, ieqT, ileT, ileF, iltT, iltF, Int.reduceLE, Int.reduceLT, Int.reduceEq, ne_eq, not_false_eq_true, cond_true, cond_false] <;> exact Ends.bind h.2.2 fun y hy => enc_fin hC y hy
def Np5 (rd rn rm imm mode list : Int) (s it : Bool) : Prop := (mode = 2 ∧ ((s ≠ it ∧ (0 ≤ rd ∧ rd ≤ 7) ∧ (0 ≤ rn ∧ rn ≤ 7) ∧ (0 ≤ rm ∧ rm ≤ 7)) ∨ (rd = rn ∧ s = false))) ∨ (mode ≠ 2 ∧ s ≠ it ∧ (((0 ≤ rd ∧ rd ≤ 7) ∧ (0 ≤ rn ∧ rn ≤ 7) ∧ imm ≤ 7) ∨ (rd = rn ∧ (0 ≤ rd ∧ rd ≤ 7) ∧ imm ≤ 255)))
theorem H5 (op cond rd rn rm imm mode list : Int) (s it : Bool) (hop : op = 5) (hC : Cp1 cond rd rn rm imm mode list s) : (ieq mode 2 = true → Ends (fun n => narrow_datao n ⟨op, cond, rd, rn, rm, imm, mode, list, s⟩ it) (fun r => r.1.length ≤ 100 ∧ (r.1.any (·.is) = true ↔ Np5 rd rn rm imm mode list s it))) ∧ (ieq mode 2 = false → Ends (fun n => narrow_numso n ⟨op, cond, rd, rn, rm, imm, mode, list, s⟩ it) (fun r => r.1.length ≤ 100 ∧ (r.1.any (·.is) = true ↔ Np5 rd rn rm imm mode list s it))) ∧ Ends (fun n => ref07_sumo n ⟨op, cond, rd, rn, rm, imm, mode, list, s⟩ (bNot (bEq s it))) (fun r => r.1.2.1 = true ↔ Np5 rd rn rm imm mode list s it) := by
  refine ⟨fun hm => ?_, fun hm => ?_, ?_⟩
  rotate_left 2
  cases hm : ieq mode 2 <;> cases h1 : ieq mode 1 <;> cases hn : ieq rn 13
  all_goals (subst hop <;> cases s <;> cases it <;> (first | simp only [hm, h1, hn, narrow_datao, narrow_numso, ref07_sumo, ieqF, ieqT, ileT, ileF, iltT, iltF, Int.reduceLE, Int.reduceLT, Int.reduceEq, ne_eq, not_false_eq_true, bNot_tt, bNot_ff, be_tt, be_tf, be_ft, be_ff, cond_true, cond_false, Option.bind_some, Bool.cond_self, npF, ldF] | simp only [hm, narrow_datao, narrow_numso, ref07_sumo, ieqF, ieqT, ileT, ileF, iltT, iltF, Int.reduceLE, Int.reduceLT, Int.reduceEq, ne_eq, not_false_eq_true, bNot_tt, bNot_ff, be_tt, be_tf, be_ft, be_ff, cond_true, cond_false, Option.bind_some, Bool.cond_self, npF, ldF]))
  all_goals (repeat' (first
    | (with_reducible refine Ends.ret ?_)
    | ((with_reducible refine Ends.chk ?_ ?_); (first | rfl | (simp only [evs, lgs]; omega)))
    | ((with_reducible refine lowN_if _ _ (Nat.le_of_ble_eq_true rfl) ?_))
    | ((with_reducible refine low7_if _ _ (Nat.le_of_ble_eq_true rfl) ?_))
    | ((with_reducible refine lowN_k _ (Nat.le_of_ble_eq_true rfl) ?_))
    | ((with_reducible refine low7_k _ (Nat.le_of_ble_eq_true rfl) ?_))
    | (with_reducible refine Ends.bif (fun h => ?_) (fun h => ?_))))
  all_goals (first | refine ⟨len_0, any_0.trans ?_⟩ | refine ⟨len_1 _, (any_1 _).trans ?_⟩ | refine ⟨len_2 _ _, (any_2 _ _).trans ?_⟩ | refine ⟨len_a1 _ _, (any_a1 _ _).trans ?_⟩ | refine ⟨len_a2 _ _ _, (any_a2 _ _ _).trans ?_⟩ | skip)
  all_goals (simp only [Cp1, Np5, evs, lgs, Pl, La, bEq_t, bEq_f, Lw1_t, Lw1_f, Lw2_t, Lw2_f, Lw3_t, Lw3_f] at *)
  all_goals (try omega)
theorem K5 (op cond rd rn rm imm mode list : Int) (s it : Bool) (hop : op = 5) : ∃ P : Prop, Ends (fun n => narrow_Cano n ⟨op, cond, rd, rn, rm, imm, mode, list, s⟩ it) (fun r => r.1 = true ↔ P) ∧ Ends (fun n => ref07_Encodeo n ⟨op, cond, rd, rn, rm, imm, mode, list, s⟩ it) (fun r => r.1.2.1 = true ↔ P) := by
  refine ⟨Cp1 cond rd rn rm imm mode list s ∧ Np5 rd rn rm imm mode list s it, can_of (CI1 op cond rd rn rm imm mode list s (by omega)) (fun hC => ?_), enc_of (CR1 op cond rd rn rm imm mode list s (by omega)) (fun hC => ?_)⟩
  · unfold narrow_formso
    have h := H5 op cond rd rn rm imm mode list s it hop hC
    cases hm : ieq mode 2 <;> subst hop <;> simp only [hm, ieqF, ieqT, ileT, ileF, iltT, iltF, Int.reduceLE, Int.reduceLT, Int.reduceEq, ne_eq, not_false_eq_true, cond_true, cond_false]
    all_goals first | exact Ends.bind (h.2.1 hm) fun y hy => Ends.ret hy | exact Ends.bind (h.1 hm) fun y hy => Ends.ret hy
  · have h := H5 op cond rd rn rm imm mode list s it hop hC
    subst hop <;> simp only [ieqF, ieqT, ileT, ileF, iltT, iltF, Int.reduceLE, Int.reduceLT, Int.reduceEq, ne_eq, not_false_eq_true, cond_true, cond_false] <;> exact Ends.bind h.2.2 fun y hy => enc_fin hC y hy
def Np7 (rd rn rm imm mode list : Int) (s it : Bool) : Prop := (mode = 2 ∧ s ≠ it ∧ (0 ≤ rd ∧ rd ≤ 7) ∧ (0 ≤ rn ∧ rn ≤ 7) ∧ (0 ≤ rm ∧ rm ≤ 7)) ∨ (mode ≠ 2 ∧ s ≠ it ∧ (((0 ≤ rd ∧ rd ≤ 7) ∧ (0 ≤ rn ∧ rn ≤ 7) ∧ imm ≤ 7) ∨ (rd = rn ∧ (0 ≤ rd ∧ rd ≤ 7) ∧ imm ≤ 255)))
theorem H7 (op cond rd rn rm imm mode list : Int) (s it : Bool) (hop : op = 7) (hC : Cp1 cond rd rn rm imm mode list s) : (ieq mode 2 = true → Ends (fun n => narrow_datao n ⟨op, cond, rd, rn, rm, imm, mode, list, s⟩ it) (fun r => r.1.length ≤ 100 ∧ (r.1.any (·.is) = true ↔ Np7 rd rn rm imm mode list s it))) ∧ (ieq mode 2 = false → Ends (fun n => narrow_numso n ⟨op, cond, rd, rn, rm, imm, mode, list, s⟩ it) (fun r => r.1.length ≤ 100 ∧ (r.1.any (·.is) = true ↔ Np7 rd rn rm imm mode list s it))) ∧ Ends (fun n => ref07_sumo n ⟨op, cond, rd, rn, rm, imm, mode, list, s⟩ (bNot (bEq s it))) (fun r => r.1.2.1 = true ↔ Np7 rd rn rm imm mode list s it) := by
  refine ⟨fun hm => ?_, fun hm => ?_, ?_⟩
  rotate_left 2
  cases hm : ieq mode 2 <;> cases h1 : ieq mode 1 <;> cases hn : ieq rn 13
  all_goals (subst hop <;> cases s <;> cases it <;> (first | simp only [hm, h1, hn, narrow_datao, narrow_numso, ref07_sumo, ieqF, ieqT, ileT, ileF, iltT, iltF, Int.reduceLE, Int.reduceLT, Int.reduceEq, ne_eq, not_false_eq_true, bNot_tt, bNot_ff, be_tt, be_tf, be_ft, be_ff, cond_true, cond_false, Option.bind_some, Bool.cond_self, npF, ldF] | simp only [hm, narrow_datao, narrow_numso, ref07_sumo, ieqF, ieqT, ileT, ileF, iltT, iltF, Int.reduceLE, Int.reduceLT, Int.reduceEq, ne_eq, not_false_eq_true, bNot_tt, bNot_ff, be_tt, be_tf, be_ft, be_ff, cond_true, cond_false, Option.bind_some, Bool.cond_self, npF, ldF]))
  all_goals (repeat' (first
    | (with_reducible refine Ends.ret ?_)
    | ((with_reducible refine Ends.chk ?_ ?_); (first | rfl | (simp only [evs, lgs]; omega)))
    | ((with_reducible refine lowN_if _ _ (Nat.le_of_ble_eq_true rfl) ?_))
    | ((with_reducible refine low7_if _ _ (Nat.le_of_ble_eq_true rfl) ?_))
    | ((with_reducible refine lowN_k _ (Nat.le_of_ble_eq_true rfl) ?_))
    | ((with_reducible refine low7_k _ (Nat.le_of_ble_eq_true rfl) ?_))
    | (with_reducible refine Ends.bif (fun h => ?_) (fun h => ?_))))
  all_goals (first | refine ⟨len_0, any_0.trans ?_⟩ | refine ⟨len_1 _, (any_1 _).trans ?_⟩ | refine ⟨len_2 _ _, (any_2 _ _).trans ?_⟩ | refine ⟨len_a1 _ _, (any_a1 _ _).trans ?_⟩ | refine ⟨len_a2 _ _ _, (any_a2 _ _ _).trans ?_⟩ | skip)
  all_goals (simp only [Cp1, Np7, evs, lgs, Pl, La, bEq_t, bEq_f, Lw1_t, Lw1_f, Lw2_t, Lw2_f, Lw3_t, Lw3_f] at *)
  all_goals (try omega)
theorem K7 (op cond rd rn rm imm mode list : Int) (s it : Bool) (hop : op = 7) : ∃ P : Prop, Ends (fun n => narrow_Cano n ⟨op, cond, rd, rn, rm, imm, mode, list, s⟩ it) (fun r => r.1 = true ↔ P) ∧ Ends (fun n => ref07_Encodeo n ⟨op, cond, rd, rn, rm, imm, mode, list, s⟩ it) (fun r => r.1.2.1 = true ↔ P) := by
  refine ⟨Cp1 cond rd rn rm imm mode list s ∧ Np7 rd rn rm imm mode list s it, can_of (CI1 op cond rd rn rm imm mode list s (by omega)) (fun hC => ?_), enc_of (CR1 op cond rd rn rm imm mode list s (by omega)) (fun hC => ?_)⟩
  · unfold narrow_formso
    have h := H7 op cond rd rn rm imm mode list s it hop hC
    cases hm : ieq mode 2 <;> subst hop <;> simp only [hm, ieqF, ieqT, ileT, ileF, iltT, iltF, Int.reduceLE, Int.reduceLT, Int.reduceEq, ne_eq, not_false_eq_true, cond_true, cond_false]
    all_goals first | exact Ends.bind (h.2.1 hm) fun y hy => Ends.ret hy | exact Ends.bind (h.1 hm) fun y hy => Ends.ret hy
  · have h := H7 op cond rd rn rm imm mode list s it hop hC
    subst hop <;> simp only [ieqF, ieqT, ileT, ileF, iltT, iltF, Int.reduceLE, Int.reduceLT, Int.reduceEq, ne_eq, not_false_eq_true, cond_true, cond_false] <;> exact Ends.bind h.2.2 fun y hy => enc_fin hC y hy
def Np9 (rd rn rm imm mode list : Int) (s it : Bool) : Prop := mode ≠ 2 ∧ imm = 0 ∧ s ≠ it ∧ (0 ≤ rd ∧ rd ≤ 7) ∧ (0 ≤ rn ∧ rn ≤ 7)
theorem H9 (op cond rd rn rm imm mode list : Int) (s it : Bool) (hop : op = 9) (hC : Cp1 cond rd rn rm imm mode list s) : (ieq mode 2 = true → Ends (fun n => narrow_datao n ⟨op, cond, rd, rn, rm, imm, mode, list, s⟩ it) (fun r => r.1.length ≤ 100 ∧ (r.1.any (·.is) = true ↔ Np9 rd rn rm imm mode list s it))) ∧ (ieq mode 2 = false → Ends (fun n => narrow_numso n ⟨op, cond, rd, rn, rm, imm, mode, list, s⟩ it) (fun r => r.1.length ≤ 100 ∧ (r.1.any (·.is) = true ↔ Np9 rd rn rm imm mode list s it))) ∧ Ends (fun n => ref07_twoo n ⟨op, cond, rd, rn, rm, imm, mode, list, s⟩ (bNot (bEq s it)) it) (fun r => r.1.2.1 = true ↔ Np9 rd rn rm imm mode list s it) := by
  refine ⟨fun hm => ?_, fun hm => ?_, ?_⟩
  rotate_left 2
  cases hm : ieq mode 2 <;> cases h1 : ieq mode 1 <;> cases hn : ieq rn 13
  all_goals (subst hop <;> cases s <;> cases it <;> (first | simp only [hm, h1, hn, narrow_datao, narrow_numso, ref07_twoo, ieqF, ieqT, ileT, ileF, iltT, iltF, Int.reduceLE, Int.reduceLT, Int.reduceEq, ne_eq, not_false_eq_true, bNot_tt, bNot_ff, be_tt, be_tf, be_ft, be_ff, cond_true, cond_false, Option.bind_some, Bool.cond_self, npF, ldF] | simp only [hm, narrow_datao, narrow_numso, ref07_twoo, ieqF, ieqT, ileT, ileF, iltT, iltF, Int.reduceLE, Int.reduceLT, Int.reduceEq, ne_eq, not_false_eq_true, bNot_tt, bNot_ff, be_tt, be_tf, be_ft, be_ff, cond_true, cond_false, Option.bind_some, Bool.cond_self, npF, ldF]))
  all_goals (repeat' (first
    | (with_reducible refine Ends.ret ?_)
    | ((with_reducible refine Ends.chk ?_ ?_); (first | rfl | (simp only [evs, lgs]; omega)))
    | ((with_reducible refine lowN_if _ _ (Nat.le_of_ble_eq_true rfl) ?_))
    | ((with_reducible refine low7_if _ _ (Nat.le_of_ble_eq_true rfl) ?_))
    | ((with_reducible refine lowN_k _ (Nat.le_of_ble_eq_true rfl) ?_))
    | ((with_reducible refine low7_k _ (Nat.le_of_ble_eq_true rfl) ?_))
    | (with_reducible refine Ends.bif (fun h => ?_) (fun h => ?_))))
  all_goals (first | refine ⟨len_0, any_0.trans ?_⟩ | refine ⟨len_1 _, (any_1 _).trans ?_⟩ | refine ⟨len_2 _ _, (any_2 _ _).trans ?_⟩ | refine ⟨len_a1 _ _, (any_a1 _ _).trans ?_⟩ | refine ⟨len_a2 _ _ _, (any_a2 _ _ _).trans ?_⟩ | skip)
  all_goals (simp only [Cp1, Np9, evs, lgs, Pl, La, bEq_t, bEq_f, Lw1_t, Lw1_f, Lw2_t, Lw2_f, Lw3_t, Lw3_f] at *)
  all_goals (try omega)
theorem K9 (op cond rd rn rm imm mode list : Int) (s it : Bool) (hop : op = 9) : ∃ P : Prop, Ends (fun n => narrow_Cano n ⟨op, cond, rd, rn, rm, imm, mode, list, s⟩ it) (fun r => r.1 = true ↔ P) ∧ Ends (fun n => ref07_Encodeo n ⟨op, cond, rd, rn, rm, imm, mode, list, s⟩ it) (fun r => r.1.2.1 = true ↔ P) := by
  refine ⟨Cp1 cond rd rn rm imm mode list s ∧ Np9 rd rn rm imm mode list s it, can_of (CI1 op cond rd rn rm imm mode list s (by omega)) (fun hC => ?_), enc_of (CR1 op cond rd rn rm imm mode list s (by omega)) (fun hC => ?_)⟩
  · unfold narrow_formso
    have h := H9 op cond rd rn rm imm mode list s it hop hC
    cases hm : ieq mode 2 <;> subst hop <;> simp only [hm, ieqF, ieqT, ileT, ileF, iltT, iltF, Int.reduceLE, Int.reduceLT, Int.reduceEq, ne_eq, not_false_eq_true, cond_true, cond_false]
    all_goals first | exact Ends.bind (h.2.1 hm) fun y hy => Ends.ret hy | exact Ends.bind (h.1 hm) fun y hy => Ends.ret hy
  · have h := H9 op cond rd rn rm imm mode list s it hop hC
    subst hop <;> simp only [ieqF, ieqT, ileT, ileF, iltT, iltF, Int.reduceLE, Int.reduceLT, Int.reduceEq, ne_eq, not_false_eq_true, cond_true, cond_false] <;> exact Ends.bind h.2.2 fun y hy => enc_fin hC y hy
def Np10 (rd rn rm imm mode list : Int) (s it : Bool) : Prop := (mode ≠ 2 ∧ s ≠ it ∧ (0 ≤ rd ∧ rd ≤ 7) ∧ imm ≤ 255) ∨ (mode = 2 ∧ (s = false ∨ (it = false ∧ (0 ≤ rd ∧ rd ≤ 7) ∧ (0 ≤ rm ∧ rm ≤ 7))))
theorem H10 (op cond rd rn rm imm mode list : Int) (s it : Bool) (hop : op = 10) (hC : Cp10 cond rd rn rm imm mode list s) : (ieq mode 2 = true → Ends (fun n => narrow_datao n ⟨op, cond, rd, rn, rm, imm, mode, list, s⟩ it) (fun r => r.1.length ≤ 100 ∧ (r.1.any (·.is) = true ↔ Np10 rd rn rm imm mode list s it))) ∧ (ieq mode 2 = false → Ends (fun n => narrow_numso n ⟨op, cond, rd, rn, rm, imm, mode, list, s⟩ it) (fun r => r.1.length ≤ 100 ∧ (r.1.any (·.is) = true ↔ Np10 rd rn rm imm mode list s it))) ∧ Ends (fun n => ref07_moveo n ⟨op, cond, rd, rn, rm, imm, mode, list, s⟩ (bNot (bEq s it)) it) (fun r => r.1.2.1 = true ↔ Np10 rd rn rm imm mode list s it) := by
  refine ⟨fun hm => ?_, fun hm => ?_, ?_⟩
  rotate_left 2
  cases hm : ieq mode 2 <;> cases h1 : ieq mode 1 <;> cases hn : ieq rn 13
  all_goals (subst hop <;> cases s <;> cases it <;> (first | simp only [hm, h1, hn, narrow_datao, narrow_numso, ref07_moveo, ieqF, ieqT, ileT, ileF, iltT, iltF, Int.reduceLE, Int.reduceLT, Int.reduceEq, ne_eq, not_false_eq_true, bNot_tt, bNot_ff, be_tt, be_tf, be_ft, be_ff, cond_true, cond_false, Option.bind_some, Bool.cond_self, npF, ldF] | simp only [hm, narrow_datao, narrow_numso, ref07_moveo, ieqF, ieqT, ileT, ileF, iltT, iltF, Int.reduceLE, Int.reduceLT, Int.reduceEq, ne_eq, not_false_eq_true, bNot_tt, bNot_ff, be_tt, be_tf, be_ft, be_ff, cond_true, cond_false, Option.bind_some, Bool.cond_self, npF, ldF]))
  all_goals (repeat' (first
    | (with_reducible refine Ends.ret ?_)
    | ((with_reducible refine Ends.chk ?_ ?_); (first | rfl | (simp only [evs, lgs]; omega)))
    | ((with_reducible refine lowN_if _ _ (Nat.le_of_ble_eq_true rfl) ?_))
    | ((with_reducible refine low7_if _ _ (Nat.le_of_ble_eq_true rfl) ?_))
    | ((with_reducible refine lowN_k _ (Nat.le_of_ble_eq_true rfl) ?_))
    | ((with_reducible refine low7_k _ (Nat.le_of_ble_eq_true rfl) ?_))
    | (with_reducible refine Ends.bif (fun h => ?_) (fun h => ?_))))
  all_goals (first | refine ⟨len_0, any_0.trans ?_⟩ | refine ⟨len_1 _, (any_1 _).trans ?_⟩ | refine ⟨len_2 _ _, (any_2 _ _).trans ?_⟩ | refine ⟨len_a1 _ _, (any_a1 _ _).trans ?_⟩ | refine ⟨len_a2 _ _ _, (any_a2 _ _ _).trans ?_⟩ | skip)
  all_goals (simp only [Cp10, Np10, evs, lgs, Pl, La, bEq_t, bEq_f, Lw1_t, Lw1_f, Lw2_t, Lw2_f, Lw3_t, Lw3_f] at *)
  all_goals (try omega)
theorem K10 (op cond rd rn rm imm mode list : Int) (s it : Bool) (hop : op = 10) : ∃ P : Prop, Ends (fun n => narrow_Cano n ⟨op, cond, rd, rn, rm, imm, mode, list, s⟩ it) (fun r => r.1 = true ↔ P) ∧ Ends (fun n => ref07_Encodeo n ⟨op, cond, rd, rn, rm, imm, mode, list, s⟩ it) (fun r => r.1.2.1 = true ↔ P) := by
  refine ⟨Cp10 cond rd rn rm imm mode list s ∧ Np10 rd rn rm imm mode list s it, can_of (CI10 op cond rd rn rm imm mode list s (by omega)) (fun hC => ?_), enc_of (CR10 op cond rd rn rm imm mode list s (by omega)) (fun hC => ?_)⟩
  · unfold narrow_formso
    have h := H10 op cond rd rn rm imm mode list s it hop hC
    cases hm : ieq mode 2 <;> subst hop <;> simp only [hm, ieqF, ieqT, ileT, ileF, iltT, iltF, Int.reduceLE, Int.reduceLT, Int.reduceEq, ne_eq, not_false_eq_true, cond_true, cond_false]
    all_goals first | exact Ends.bind (h.2.1 hm) fun y hy => Ends.ret hy | exact Ends.bind (h.1 hm) fun y hy => Ends.ret hy
  · have h := H10 op cond rd rn rm imm mode list s it hop hC
    subst hop <;> simp only [ieqF, ieqT, ileT, ileF, iltT, iltF, Int.reduceLE, Int.reduceLT, Int.reduceEq, ne_eq, not_false_eq_true, cond_true, cond_false] <;> exact Ends.bind h.2.2 fun y hy => enc_fin hC y hy
def Np11 (rd rn rm imm mode list : Int) (s it : Bool) : Prop := mode = 2 ∧ s ≠ it ∧ (0 ≤ rd ∧ rd ≤ 7) ∧ (0 ≤ rm ∧ rm ≤ 7)
theorem H11 (op cond rd rn rm imm mode list : Int) (s it : Bool) (hop : op = 11) (hC : Cp11 cond rd rn rm imm mode list s) : (ieq mode 2 = true → Ends (fun n => narrow_datao n ⟨op, cond, rd, rn, rm, imm, mode, list, s⟩ it) (fun r => r.1.length ≤ 100 ∧ (r.1.any (·.is) = true ↔ Np11 rd rn rm imm mode list s it))) ∧ (ieq mode 2 = false → Ends (fun n => narrow_numso n ⟨op, cond, rd, rn, rm, imm, mode, list, s⟩ it) (fun r => r.1.length ≤ 100 ∧ (r.1.any (·.is) = true ↔ Np11 rd rn rm imm mode list s it))) ∧ Ends (fun n => ref07_twoo n ⟨op, cond, rd, rn, rm, imm, mode, list, s⟩ (bNot (bEq s it)) it) (fun r => r.1.2.1 = true ↔ Np11 rd rn rm imm mode list s it) := by
  refine ⟨fun hm => ?_, fun hm => ?_, ?_⟩
  rotate_left 2
  cases hm : ieq mode 2 <;> cases h1 : ieq mode 1 <;> cases hn : ieq rn 13
  all_goals (subst hop <;> cases s <;> cases it <;> (first | simp only [hm, h1, hn, narrow_datao, narrow_numso, ref07_twoo, ieqF, ieqT, ileT, ileF, iltT, iltF, Int.reduceLE, Int.reduceLT, Int.reduceEq, ne_eq, not_false_eq_true, bNot_tt, bNot_ff, be_tt, be_tf, be_ft, be_ff, cond_true, cond_false, Option.bind_some, Bool.cond_self, npF, ldF] | simp only [hm, narrow_datao, narrow_numso, ref07_twoo, ieqF, ieqT, ileT, ileF, iltT, iltF, Int.reduceLE, Int.reduceLT, Int.reduceEq, ne_eq, not_false_eq_true, bNot_tt, bNot_ff, be_tt, be_tf, be_ft, be_ff, cond_true, cond_false, Option.bind_some, Bool.cond_self, npF, ldF]))
  all_goals (repeat' (first
    | (with_reducible refine Ends.ret ?_)
    | ((with_reducible refine Ends.chk ?_ ?_); (first | rfl | (simp only [evs, lgs]; omega)))
    | ((with_reducible refine lowN_if _ _ (Nat.le_of_ble_eq_true rfl) ?_))
    | ((with_reducible refine low7_if _ _ (Nat.le_of_ble_eq_true rfl) ?_))
    | ((with_reducible refine lowN_k _ (Nat.le_of_ble_eq_true rfl) ?_))
    | ((with_reducible refine low7_k _ (Nat.le_of_ble_eq_true rfl) ?_))
    | (with_reducible refine Ends.bif (fun h => ?_) (fun h => ?_))))
  all_goals (first | refine ⟨len_0, any_0.trans ?_⟩ | refine ⟨len_1 _, (any_1 _).trans ?_⟩ | refine ⟨len_2 _ _, (any_2 _ _).trans ?_⟩ | refine ⟨len_a1 _ _, (any_a1 _ _).trans ?_⟩ | refine ⟨len_a2 _ _ _, (any_a2 _ _ _).trans ?_⟩ | skip)
  all_goals (simp only [Cp11, Np11, evs, lgs, Pl, La, bEq_t, bEq_f, Lw1_t, Lw1_f, Lw2_t, Lw2_f, Lw3_t, Lw3_f] at *)
  all_goals (try omega)
theorem K11 (op cond rd rn rm imm mode list : Int) (s it : Bool) (hop : op = 11) : ∃ P : Prop, Ends (fun n => narrow_Cano n ⟨op, cond, rd, rn, rm, imm, mode, list, s⟩ it) (fun r => r.1 = true ↔ P) ∧ Ends (fun n => ref07_Encodeo n ⟨op, cond, rd, rn, rm, imm, mode, list, s⟩ it) (fun r => r.1.2.1 = true ↔ P) := by
  refine ⟨Cp11 cond rd rn rm imm mode list s ∧ Np11 rd rn rm imm mode list s it, can_of (CI11 op cond rd rn rm imm mode list s (by omega)) (fun hC => ?_), enc_of (CR11 op cond rd rn rm imm mode list s (by omega)) (fun hC => ?_)⟩
  · unfold narrow_formso
    have h := H11 op cond rd rn rm imm mode list s it hop hC
    cases hm : ieq mode 2 <;> subst hop <;> simp only [hm, ieqF, ieqT, ileT, ileF, iltT, iltF, Int.reduceLE, Int.reduceLT, Int.reduceEq, ne_eq, not_false_eq_true, cond_true, cond_false]
    all_goals first | exact Ends.bind (h.2.1 hm) fun y hy => Ends.ret hy | exact Ends.bind (h.1 hm) fun y hy => Ends.ret hy
  · have h := H11 op cond rd rn rm imm mode list s it hop hC
    subst hop <;> simp only [ieqF, ieqT, ileT, ileF, iltT, iltF, Int.reduceLE, Int.reduceLT, Int.reduceEq, ne_eq, not_false_eq_true, cond_true, cond_false] <;> exact Ends.bind h.2.2 fun y hy => enc_fin hC y hy
def Np12 (rd rn rm imm mode list : Int) (s it : Bool) : Prop := mode = 2 ∨ ((0 ≤ rn ∧ rn ≤ 7) ∧ imm ≤ 255)
theorem H12 (op cond rd rn rm imm mode list : Int) (s it : Bool) (hop : op = 12) (hC : Cp12 cond rd rn rm imm mode list s) : (ieq mode 2 = true → Ends (fun n => narrow_datao n ⟨op, cond, rd, rn, rm, imm, mode, list, s⟩ it) (fun r => r.1.length ≤ 100 ∧ (r.1.any (·.is) = true ↔ Np12 rd rn rm imm mode list s it))) ∧ (ieq mode 2 = false → Ends (fun n => narrow_numso n ⟨op, cond, rd, rn, rm, imm, mode, list, s⟩ it) (fun r => r.1.length ≤ 100 ∧ (r.1.any (·.is) = true ↔ Np12 rd rn rm imm mode list s it))) ∧ Ends (fun n => ref07_moveo n ⟨op, cond, rd, rn, rm, imm, mode, list, s⟩ (bNot (bEq s it)) it) (fun r => r.1.2.1 = true ↔ Np12 rd rn rm imm mode list s it) := by
  refine ⟨fun hm => ?_, fun hm => ?_, ?_⟩
  rotate_left 2
  cases hm : ieq mode 2 <;> cases h1 : ieq mode 1 <;> cases hn : ieq rn 13
  all_goals (subst hop <;> cases s <;> cases it <;> (first | simp only [hm, h1, hn, narrow_datao, narrow_numso, ref07_moveo, ieqF, ieqT, ileT, ileF, iltT, iltF, Int.reduceLE, Int.reduceLT, Int.reduceEq, ne_eq, not_false_eq_true, bNot_tt, bNot_ff, be_tt, be_tf, be_ft, be_ff, cond_true, cond_false, Option.bind_some, Bool.cond_self, npF, ldF] | simp only [hm, narrow_datao, narrow_numso, ref07_moveo, ieqF, ieqT, ileT, ileF, iltT, iltF, Int.reduceLE, Int.reduceLT, Int.reduceEq, ne_eq, not_false_eq_true, bNot_tt, bNot_ff, be_tt, be_tf, be_ft, be_ff, cond_true, cond_false, Option.bind_some, Bool.cond_self, npF, ldF]))
  all_goals (repeat' (first
    | (with_reducible refine Ends.ret ?_)
    | ((with_reducible refine Ends.chk ?_ ?_); (first | rfl | (simp only [evs, lgs]; omega)))
    | ((with_reducible refine lowN_if _ _ (Nat.le_of_ble_eq_true rfl) ?_))
    | ((with_reducible refine low7_if _ _ (Nat.le_of_ble_eq_true rfl) ?_))
    | ((with_reducible refine lowN_k _ (Nat.le_of_ble_eq_true rfl) ?_))
    | ((with_reducible refine low7_k _ (Nat.le_of_ble_eq_true rfl) ?_))
    | (with_reducible refine Ends.bif (fun h => ?_) (fun h => ?_))))
  all_goals (first | refine ⟨len_0, any_0.trans ?_⟩ | refine ⟨len_1 _, (any_1 _).trans ?_⟩ | refine ⟨len_2 _ _, (any_2 _ _).trans ?_⟩ | refine ⟨len_a1 _ _, (any_a1 _ _).trans ?_⟩ | refine ⟨len_a2 _ _ _, (any_a2 _ _ _).trans ?_⟩ | skip)
  all_goals (simp only [Cp12, Np12, evs, lgs, Pl, La, bEq_t, bEq_f, Lw1_t, Lw1_f, Lw2_t, Lw2_f, Lw3_t, Lw3_f] at *)
  all_goals (try omega)
theorem K12 (op cond rd rn rm imm mode list : Int) (s it : Bool) (hop : op = 12) : ∃ P : Prop, Ends (fun n => narrow_Cano n ⟨op, cond, rd, rn, rm, imm, mode, list, s⟩ it) (fun r => r.1 = true ↔ P) ∧ Ends (fun n => ref07_Encodeo n ⟨op, cond, rd, rn, rm, imm, mode, list, s⟩ it) (fun r => r.1.2.1 = true ↔ P) := by
  refine ⟨Cp12 cond rd rn rm imm mode list s ∧ Np12 rd rn rm imm mode list s it, can_of (CI12 op cond rd rn rm imm mode list s (by omega)) (fun hC => ?_), enc_of (CR12 op cond rd rn rm imm mode list s (by omega)) (fun hC => ?_)⟩
  · unfold narrow_formso
    have h := H12 op cond rd rn rm imm mode list s it hop hC
    cases hm : ieq mode 2 <;> subst hop <;> simp only [hm, ieqF, ieqT, ileT, ileF, iltT, iltF, Int.reduceLE, Int.reduceLT, Int.reduceEq, ne_eq, not_false_eq_true, cond_true, cond_false]
    all_goals first | exact Ends.bind (h.2.1 hm) fun y hy => Ends.ret hy | exact Ends.bind (h.1 hm) fun y hy => Ends.ret hy
  · have h := H12 op cond rd rn rm imm mode list s it hop hC
    subst hop <;> simp only [ieqF, ieqT, ileT, ileF, iltT, iltF, Int.reduceLE, Int.reduceLT, Int.reduceEq, ne_eq, not_false_eq_true, cond_true, cond_false] <;> exact Ends.bind h.2.2 fun y hy => enc_fin hC y hy
def Np13 (rd rn rm imm mode list : Int) (s it : Bool) : Prop := mode = 2 ∧ (0 ≤ rn ∧ rn ≤ 7) ∧ (0 ≤ rm ∧ rm ≤ 7)
theorem H13 (op cond rd rn rm imm mode list : Int) (s it : Bool) (hop : op = 13 ∨ op = 14) (hC : Cp12 cond rd rn rm imm mode list s) : (ieq mode 2 = true → Ends (fun n => narrow_datao n ⟨op, cond, rd, rn, rm, imm, mode, list, s⟩ it) (fun r => r.1.length ≤ 100 ∧ (r.1.any (·.is) = true ↔ Np13 rd rn rm imm mode list s it))) ∧ (ieq mode 2 = false → Ends (fun n => narrow_numso n ⟨op, cond, rd, rn, rm, imm, mode, list, s⟩ it) (fun r => r.1.length ≤ 100 ∧ (r.1.any (·.is) = true ↔ Np13 rd rn rm imm mode list s it))) ∧ Ends (fun n => ref07_twoo n ⟨op, cond, rd, rn, rm, imm, mode, list, s⟩ (bNot (bEq s it)) it) (fun r => r.1.2.1 = true ↔ Np13 rd rn rm imm mode list s it) := by
  refine ⟨fun hm => ?_, fun hm => ?_, ?_⟩
  rotate_left 2
  cases hm : ieq mode 2 <;> cases h1 : ieq mode 1 <;> cases hn : ieq rn 13
  all_goals (rcases hop with rfl | rfl <;> cases s <;> cases it <;> (first | simp only [hm, h1, hn, narrow_datao, narrow_numso, ref07_twoo, ieqF, ieqT, ileT, ileF, iltT, iltF, Int.reduceLE, Int.reduceLT, Int.reduceEq, ne_eq, not_false_eq_true, bNot_tt, bNot_ff, be_tt, be_tf, be_ft, be_ff, cond_true, cond_false, Option.bind_some, Bool.cond_self, npF, ldF] | simp only [hm, narrow_datao, narrow_numso, ref07_twoo, ieqF, ieqT, ileT, ileF, iltT, iltF, Int.reduceLE, Int.reduceLT, Int.reduceEq, ne_eq, not_false_eq_true, bNot_tt, bNot_ff, be_tt, be_tf, be_ft, be_ff, cond_true, cond_false, Option.bind_some, Bool.cond_self, npF, ldF]))
  all_goals (repeat' (first
    | (with_reducible refine Ends.ret ?_)
    | ((with_reducible refine Ends.chk ?_ ?_); (first | rfl | (simp only [evs, lgs]; omega)))
    | ((with_reducible refine lowN_if _ _ (Nat.le_of_ble_eq_true rfl) ?_))
    | ((with_reducible refine low7_if _ _ (Nat.le_of_ble_eq_true rfl) ?_))
    | ((with_reducible refine lowN_k _ (Nat.le_of_ble_eq_true rfl) ?_))
    | ((with_reducible refine low7_k _ (Nat.le_of_ble_eq_true rfl) ?_))
    | (with_reducible refine Ends.bif (fun h => ?_) (fun h => ?_))))
  all_goals (first | refine ⟨len_0, any_0.trans ?_⟩ | refine ⟨len_1 _, (any_1 _).trans ?_⟩ | refine ⟨len_2 _ _, (any_2 _ _).trans ?_⟩ | refine ⟨len_a1 _ _, (any_a1 _ _).trans ?_⟩ | refine ⟨len_a2 _ _ _, (any_a2 _ _ _).trans ?_⟩ | skip)
  all_goals (simp only [Cp12, Np13, evs, lgs, Pl, La, bEq_t, bEq_f, Lw1_t, Lw1_f, Lw2_t, Lw2_f, Lw3_t, Lw3_f] at *)
  all_goals (try omega)
theorem K13 (op cond rd rn rm imm mode list : Int) (s it : Bool) (hop : op = 13 ∨ op = 14) : ∃ P : Prop, Ends (fun n => narrow_Cano n ⟨op, cond, rd, rn, rm, imm, mode, list, s⟩ it) (fun r => r.1 = true ↔ P) ∧ Ends (fun n => ref07_Encodeo n ⟨op, cond, rd, rn, rm, imm, mode, list, s⟩ it) (fun r => r.1.2.1 = true ↔ P) := by
  refine ⟨Cp12 cond rd rn rm imm mode list s ∧ Np13 rd rn rm imm mode list s it, can_of (CI12 op cond rd rn rm imm mode list s (by omega)) (fun hC => ?_), enc_of (CR12 op cond rd rn rm imm mode list s (by omega)) (fun hC => ?_)⟩
  · unfold narrow_formso
    have h := H13 op cond rd rn rm imm mode list s it hop hC
    cases hm : ieq mode 2 <;> rcases hop with rfl | rfl <;> simp only [hm, ieqF, ieqT, ileT, ileF, iltT, iltF, Int.reduceLE, Int.reduceLT, Int.reduceEq, ne_eq, not_false_eq_true, cond_true, cond_false]
    all_goals first | exact Ends.bind (h.2.1 hm) fun y hy => Ends.ret hy | exact Ends.bind (h.1 hm) fun y hy => Ends.ret hy
  · have h := H13 op cond rd rn rm imm mode list s it hop hC
    rcases hop with rfl | rfl <;> simp only [ieqF, ieqT, ileT, ileF, iltT, iltF, Int.reduceLE, Int.reduceLT, Int.reduceEq, ne_eq, not_false_eq_true, cond_true, cond_false] <;> exact Ends.bind h.2.2 fun y hy => enc_fin hC y hy
def Np15 (rd rn rm imm mode list : Int) (s it : Bool) : Prop := False
theorem H15 (op cond rd rn rm imm mode list : Int) (s it : Bool) (hop : op = 15) (hC : Cp12 cond rd rn rm imm mode list s) : (ieq mode 2 = true → Ends (fun n => narrow_datao n ⟨op, cond, rd, rn, rm, imm, mode, list, s⟩ it) (fun r => r.1.length ≤ 100 ∧ (r.1.any (·.is) = true ↔ Np15 rd rn rm imm mode list s it))) ∧ (ieq mode 2 = false → Ends (fun n => narrow_numso n ⟨op, cond, rd, rn, rm, imm, mode, list, s⟩ it) (fun r => r.1.length ≤ 100 ∧ (r.1.any (·.is) = true ↔ Np15 rd rn rm imm mode list s it))) ∧ Ends (fun n => ref07_resto n ⟨op, cond, rd, rn, rm, imm, mode, list, s⟩ it) (fun r => r.1.2.1 = true ↔ Np15 rd rn rm imm mode list s it) := by
  refine ⟨fun hm => ?_, fun hm => ?_, ?_⟩
  rotate_left 2
  cases hm : ieq mode 2 <;> cases h1 : ieq mode 1 <;> cases hn : ieq rn 13
  all_goals (subst hop <;> cases s <;> cases it <;> (first | simp only [hm, h1, hn, narrow_datao, narrow_numso, ref07_resto, ieqF, ieqT, ileT, ileF, iltT, iltF, Int.reduceLE, Int.reduceLT, Int.reduceEq, ne_eq, not_false_eq_true, bNot_tt, bNot_ff, be_tt, be_tf, be_ft, be_ff, cond_true, cond_false, Option.bind_some, Bool.cond_self, npF, ldF] | simp only [hm, narrow_datao, narrow_numso, ref07_resto, ieqF, ieqT, ileT, ileF, iltT, iltF, Int.reduceLE, Int.reduceLT, Int.reduceEq, ne_eq, not_false_eq_true, bNot_tt, bNot_ff, be_tt, be_tf, be_ft, be_ff, cond_true, cond_false, Option.bind_some, Bool.cond_self, npF, ldF]))
  all_goals (repeat' (first
    | (with_reducible refine Ends.ret ?_)
    | ((with_reducible refine Ends.chk ?_ ?_); (first | rfl | (simp only [evs, lgs]; omega)))
    | ((with_reducible refine lowN_if _ _ (Nat.le_of_ble_eq_true rfl) ?_))
    | ((with_reducible refine low7_if _ _ (Nat.le_of_ble_eq_true rfl) ?_))
    | ((with_reducible refine lowN_k _ (Nat.le_of_ble_eq_true rfl) ?_))
    | ((with_reducible refine low7_k _ (Nat.le_of_ble_eq_true rfl) ?_))
    | (with_reducible refine Ends.bif (fun h => ?_) (fun h => ?_))))
  all_goals (first | refine ⟨len_0, any_0.trans ?_⟩ | refine ⟨len_1 _, (any_1 _).trans ?_⟩ | refine ⟨len_2 _ _, (any_2 _ _).trans ?_⟩ | refine ⟨len_a1 _ _, (any_a1 _ _).trans ?_⟩ | refine ⟨len_a2 _ _ _, (any_a2 _ _ _).trans ?_⟩ | skip)
  all_goals (simp only [Cp12, Np15, evs, lgs, Pl, La, bEq_t, bEq_f, Lw1_t, Lw1_f, Lw2_t, Lw2_f, Lw3_t, Lw3_f] at *)
  all_goals (try omega)
theorem K15 (op cond rd rn rm imm mode list : Int) (s it : Bool) (hop : op = 15) : ∃ P : Prop, Ends (fun n => narrow_Cano n ⟨op, cond, rd, rn, rm, imm, mode, list, s⟩ it) (fun r => r.1 = true ↔ P) ∧ Ends (fun n => ref07_Encodeo n ⟨op, cond, rd, rn, rm, imm, mode, list, s⟩ it) (fun r => r.1.2.1 = true ↔ P) := by
  refine ⟨Cp12 cond rd rn rm imm mode list s ∧ Np15 rd rn rm imm mode list s it, can_of (CI12 op cond rd rn rm imm mode list s (by omega)) (fun hC => ?_), enc_of (CR12 op cond rd rn rm imm mode list s (by omega)) (fun hC => ?_)⟩
  · unfold narrow_formso
    have h := H15 op cond rd rn rm imm mode list s it hop hC
    cases hm : ieq mode 2 <;> subst hop <;> simp only [hm, ieqF, ieqT, ileT, ileF, iltT, iltF, Int.reduceLE, Int.reduceLT, Int.reduceEq, ne_eq, not_false_eq_true, cond_true, cond_false]
    all_goals first | exact Ends.bind (h.2.1 hm) fun y hy => Ends.ret hy | exact Ends.bind (h.1 hm) fun y hy => Ends.ret hy
  · have h := H15 op cond rd rn rm imm mode list s it hop hC
    subst hop <;> simp only [ieqF, ieqT, ileT, ileF, iltT, iltF, Int.reduceLE, Int.reduceLT, Int.reduceEq, ne_eq, not_false_eq_true, cond_true, cond_false] <;> exact Ends.bind h.2.2 fun y hy => enc_fin hC y hy
def Np16 (rd rn rm imm mode list : Int) (s it : Bool) : Prop := (mode ≠ 2 ∧ s ≠ it ∧ (0 ≤ rd ∧ rd ≤ 7) ∧ (0 ≤ rn ∧ rn ≤ 7)) ∨ (mode = 2 ∧ s ≠ it ∧ rd = rn ∧ (0 ≤ rd ∧ rd ≤ 7) ∧ (0 ≤ rm ∧ rm ≤ 7))
theorem H16 (op cond rd rn rm imm mode list : Int) (s it : Bool) (hop : op = 16) (hC : Cp16 cond rd rn rm imm mode list s) : (ieq mode 2 = true → Ends (fun n => narrow_datao n ⟨op, cond, rd, rn, rm, imm, mode, list, s⟩ it) (fun r => r.1.length ≤ 100 ∧ (r.1.any (·.is) = true ↔ Np16 rd rn rm imm mode list s it))) ∧ (ieq mode 2 = false → Ends (fun n => narrow_numso n ⟨op, cond, rd, rn, rm, imm, mode, list, s⟩ it) (fun r => r.1.length ≤ 100 ∧ (r.1.any (·.is) = true ↔ Np16 rd rn rm imm mode list s it))) ∧ Ends (fun n => ref07_shifto n ⟨op, cond, rd, rn, rm, imm, mode, list, s⟩ (bNot (bEq s it))) (fun r => r.1.2.1 = true ↔ Np16 rd rn rm imm mode list s it) := by
  refine ⟨fun hm => ?_, fun hm => ?_, ?_⟩
  rotate_left 2
  cases hm : ieq mode 2 <;> cases h1 : ieq mode 1 <;> cases hn : ieq rn 13
  all_goals (subst hop <;> cases s <;> cases it <;> (first | simp only [hm, h1, hn, narrow_datao, narrow_numso, ref07_shifto, ieqF, ieqT, ileT, ileF, iltT, iltF, Int.reduceLE, Int.reduceLT, Int.reduceEq, ne_eq, not_false_eq_true, bNot_tt, bNot_ff, be_tt, be_tf, be_ft, be_ff, cond_true, cond_false, Option.bind_some, Bool.cond_self, npF, ldF] | simp only [hm, narrow_datao, narrow_numso, ref07_shifto, ieqF, ieqT, ileT, ileF, iltT, iltF, Int.reduceLE, Int.reduceLT, Int.reduceEq, ne_eq, not_false_eq_true, bNot_tt, bNot_ff, be_tt, be_tf, be_ft, be_ff, cond_true, cond_false, Option.bind_some, Bool.cond_self, npF, ldF]))
  all_goals (repeat' (first
    | (with_reducible refine Ends.ret ?_)
    | ((with_reducible refine Ends.chk ?_ ?_); (first | rfl | (simp only [evs, lgs]; omega)))
    | ((with_reducible refine lowN_if _ _ (Nat.le_of_ble_eq_true rfl) ?_))
    | ((with_reducible refine low7_if _ _ (Nat.le_of_ble_eq_true rfl) ?_))
    | ((with_reducible refine lowN_k _ (Nat.le_of_ble_eq_true rfl) ?_))
    | ((with_reducible refine low7_k _ (Nat.le_of_ble_eq_true rfl) ?_))
    | (with_reducible refine Ends.bif (fun h => ?_) (fun h => ?_))))
  all_goals (first | refine ⟨len_0, any_0.trans ?_⟩ | refine ⟨len_1 _, (any_1 _).trans ?_⟩ | refine ⟨len_2 _ _, (any_2 _ _).trans ?_⟩ | refine ⟨len_a1 _ _, (any_a1 _ _).trans ?_⟩ | refine ⟨len_a2 _ _ _, (any_a2 _ _ _).trans ?_⟩ | skip)
  all_goals (simp only [Cp16, Np16, evs, lgs, Pl, La, bEq_t, bEq_f, Lw1_t, Lw1_f, Lw2_t, Lw2_f, Lw3_t, Lw3_f] at *)
  all_goals (try omega)
theorem K16 (op cond rd rn rm imm mode list : Int) (s it : Bool) (hop : op = 16) : ∃ P : Prop, Ends (fun n => narrow_Cano n ⟨op, cond, rd, rn, rm, imm, mode, list, s⟩ it) (fun r => r.1 = true ↔ P) ∧ Ends (fun n => ref07_Encodeo n ⟨op, cond, rd, rn, rm, imm, mode, list, s⟩ it) (fun r => r.1.2.1 = true ↔ P) := by
  refine ⟨Cp16 cond rd rn rm imm mode list s ∧ Np16 rd rn rm imm mode list s it, can_of (CI16 op cond rd rn rm imm mode list s (by omega)) (fun hC => ?_), enc_of (CR16 op cond rd rn rm imm mode list s (by omega)) (fun hC => ?_)⟩
  · unfold narrow_formso
    have h := H16 op cond rd rn rm imm mode list s it hop hC
    cases hm : ieq mode 2 <;> subst hop <;> simp only [hm, ieqF, ieqT, ileT, ileF, iltT, iltF, Int.reduceLE, Int.reduceLT, Int.reduceEq, ne_eq, not_false_eq_true, cond_true, cond_false]
    all_goals first | exact Ends.bind (h.2.1 hm) fun y hy => Ends.ret hy | exact Ends.bind (h.1 hm) fun y hy => Ends.ret hy
  · have h := H16 op cond rd rn rm imm mode list s it hop hC
    subst hop <;> simp only [ieqF, ieqT, ileT, ileF, iltT, iltF, Int.reduceLE, Int.reduceLT, Int.reduceEq, ne_eq, not_false_eq_true, cond_true, cond_false] <;> exact Ends.bind h.2.2 fun y hy => enc_fin hC y hy
def Np17 (rd rn rm imm mode list : Int) (s it : Bool) : Prop := (mode ≠ 2 ∧ s ≠ it ∧ (0 ≤ rd ∧ rd ≤ 7) ∧ (0 ≤ rn ∧ rn ≤ 7)) ∨ (mode = 2 ∧ s ≠ it ∧ rd = rn ∧ (0 ≤ rd ∧ rd ≤ 7) ∧ (0 ≤ rm ∧ rm ≤ 7))
theorem H17 (op cond rd rn rm imm mode list : Int) (s it : Bool) (hop : op = 17 ∨ op = 18) (hC : Cp17 cond rd rn rm imm mode list s) : (ieq mode 2 = true → Ends (fun n => narrow_datao n ⟨op, cond, rd, rn, rm, imm, mode, list, s⟩ it) (fun r => r.1.length ≤ 100 ∧ (r.1.any (·.is) = true ↔ Np17 rd rn rm imm mode list s it))) ∧ (ieq mode 2 = false → Ends (fun n => narrow_numso n ⟨op, cond, rd, rn, rm, imm, mode, list, s⟩ it) (fun r => r.1.length ≤ 100 ∧ (r.1.any (·.is) = true ↔ Np17 rd rn rm imm mode list s it))) ∧ Ends (fun n => ref07_shifto n ⟨op, cond, rd, rn, rm, imm, mode, list, s⟩ (bNot (bEq s it))) (fun r => r.1.2.1 = true ↔ Np17 rd rn rm imm mode list s it) := by
  refine ⟨fun hm => ?_, fun hm => ?_, ?_⟩
  rotate_left 2
  cases hm : ieq mode 2 <;> cases h1 : ieq mode 1 <;> cases hn : ieq rn 13
  all_goals (rcases hop with rfl | rfl <;> cases s <;> cases it <;> (first | simp only [hm, h1, hn, narrow_datao, narrow_numso, ref07_shifto, ieqF, ieqT, ileT, ileF, iltT, iltF, Int.reduceLE, Int.reduceLT, Int.reduceEq, ne_eq, not_false_eq_true, bNot_tt, bNot_ff, be_tt, be_tf, be_ft, be_ff, cond_true, cond_false, Option.bind_some, Bool.cond_self, npF, ldF] | simp only [hm, narrow_datao, narrow_numso, ref07_shifto, ieqF, ieqT, ileT, ileF, iltT, iltF, Int.reduceLE, Int.reduceLT, Int.reduceEq, ne_eq, not_false_eq_true, bNot_tt, bNot_ff, be_tt, be_tf, be_ft, be_ff, cond_true, cond_false, Option.bind_some, Bool.cond_self, npF, ldF]))
  all_goals (repeat' (first
    | (with_reducible refine Ends.ret ?_)
    | ((with_reducible refine Ends.chk ?_ ?_); (first | rfl | (simp only [evs, lgs]; omega)))
    | ((with_reducible refine lowN_if _ _ (Nat.le_of_ble_eq_true rfl) ?_))
    | ((with_reducible refine low7_if _ _ (Nat.le_of_ble_eq_true rfl) ?_))
    | ((with_reducible refine lowN_k _ (Nat.le_of_ble_eq_true rfl) ?_))
    | ((with_reducible refine low7_k _ (Nat.le_of_ble_eq_true rfl) ?_))
    | (with_reducible refine Ends.bif (fun h => ?_) (fun h => ?_))))
  all_goals (first | refine ⟨len_0, any_0.trans ?_⟩ | refine ⟨len_1 _, (any_1 _).trans ?_⟩ | refine ⟨len_2 _ _, (any_2 _ _).trans ?_⟩ | refine ⟨len_a1 _ _, (any_a1 _ _).trans ?_⟩ | refine ⟨len_a2 _ _ _, (any_a2 _ _ _).trans ?_⟩ | skip)
  all_goals (simp only [Cp17, Np17, evs, lgs, Pl, La, bEq_t, bEq_f, Lw1_t, Lw1_f, Lw2_t, Lw2_f, Lw3_t, Lw3_f] at *)
  all_goals (try omega)
theorem K17 (op cond rd rn rm imm mode list : Int) (s it : Bool) (hop : op = 17 ∨ op = 18) : ∃ P : Prop, Ends (fun n => narrow_Cano n ⟨op, cond, rd, rn, rm, imm, mode, list, s⟩ it) (fun r => r.1 = true ↔ P) ∧ Ends (fun n => ref07_Encodeo n ⟨op, cond, rd, rn, rm, imm, mode, list, s⟩ it) (fun r => r.1.2.1 = true ↔ P) := by
  refine ⟨Cp17 cond rd rn rm imm mode list s ∧ Np17 rd rn rm imm mode list s it, can_of (CI17 op cond rd rn rm imm mode list s (by omega)) (fun hC => ?_), enc_of (CR17 op cond rd rn rm imm mode list s (by omega)) (fun hC => ?_)⟩
  · unfold narrow_formso
    have h := H17 op cond rd rn rm imm mode list s it hop hC
    cases hm : ieq mode 2 <;> rcases hop with rfl | rfl <;> simp only [hm, ieqF, ieqT, ileT, ileF, iltT, iltF, Int.reduceLE, Int.reduceLT, Int.reduceEq, ne_eq, not_false_eq_true, cond_true, cond_false]
    all_goals first | exact Ends.bind (h.2.1 hm) fun y hy => Ends.ret hy | exact Ends.bind (h.1 hm) fun y hy => Ends.ret hy
  · have h := H17 op cond rd rn rm imm mode list s it hop hC
    rcases hop with rfl | rfl <;> simp only [ieqF, ieqT, ileT, ileF, iltT, iltF, Int.reduceLE, Int.reduceLT, Int.reduceEq, ne_eq, not_false_eq_true, cond_true, cond_false] <;> exact Ends.bind h.2.2 fun y hy => enc_fin hC y hy
def Np19 (rd rn rm imm mode list : Int) (s it : Bool) : Prop := mode = 2 ∧ s ≠ it ∧ rd = rn ∧ (0 ≤ rd ∧ rd ≤ 7) ∧ (0 ≤ rm ∧ rm ≤ 7)
theorem H19 (op cond rd rn rm imm mode list : Int) (s it : Bool) (hop : op = 19) (hC : Cp16 cond rd rn rm imm mode list s) : (ieq mode 2 = true → Ends (fun n => narrow_datao n ⟨op, cond, rd, rn, rm, imm, mode, list, s⟩ it) (fun r => r.1.length ≤ 100 ∧ (r.1.any (·.is) = true ↔ Np19 rd rn rm imm mode list s it))) ∧ (ieq mode 2 = false → Ends (fun n => narrow_numso n ⟨op, cond, rd, rn, rm, imm, mode, list, s⟩ it) (fun r => r.1.length ≤ 100 ∧ (r.1.any (·.is) = true ↔ Np19 rd rn rm imm mode list s it))) ∧ Ends (fun n => ref07_shifto n ⟨op, cond, rd, rn, rm, imm, mode, list, s⟩ (bNot (bEq s it))) (fun r => r.1.2.1 = true ↔ Np19 rd rn rm imm mode list s it) := by
  refine ⟨fun hm => ?_, fun hm => ?_, ?_⟩
  rotate_left 2
  cases hm : ieq mode 2 <;> cases h1 : ieq mode 1 <;> cases hn : ieq rn 13
  all_goals (subst hop <;> cases s <;> cases it <;> (first | simp only [hm, h1, hn, narrow_datao, narrow_numso, ref07_shifto, ieqF, ieqT, ileT, ileF, iltT, iltF, Int.reduceLE, Int.reduceLT, Int.reduceEq, ne_eq, not_false_eq_true, bNot_tt, bNot_ff, be_tt, be_tf, be_ft, be_ff, cond_true, cond_false, Option.bind_some, Bool.cond_self, npF, ldF] | simp only [hm, narrow_datao, narrow_numso, ref07_shifto, ieqF, ieqT, ileT, ileF, iltT, iltF, Int.reduceLE, Int.reduceLT, Int.reduceEq, ne_eq, not_false_eq_true, bNot_tt, bNot_ff, be_tt, be_tf, be_ft, be_ff, cond_true, cond_false, Option.bind_some, Bool.cond_self, npF, ldF]))
  all_goals (repeat' (first
    | (with_reducible refine Ends.ret ?_)
    | ((with_reducible refine Ends.chk ?_ ?_); (first | rfl | (simp only [evs, lgs]; omega)))
    | ((with_reducible refine lowN_if _ _ (Nat.le_of_ble_eq_true rfl) ?_))
    | ((with_reducible refine low7_if _ _ (Nat.le_of_ble_eq_true rfl) ?_))
    | ((with_reducible refine lowN_k _ (Nat.le_of_ble_eq_true rfl) ?_))
    | ((with_reducible refine low7_k _ (Nat.le_of_ble_eq_true rfl) ?_))
    | (with_reducible refine Ends.bif (fun h => ?_) (fun h => ?_))))
  all_goals (first | refine ⟨len_0, any_0.trans ?_⟩ | refine ⟨len_1 _, (any_1 _).trans ?_⟩ | refine ⟨len_2 _ _, (any_2 _ _).trans ?_⟩ | refine ⟨len_a1 _ _, (any_a1 _ _).trans ?_⟩ | refine ⟨len_a2 _ _ _, (any_a2 _ _ _).trans ?_⟩ | skip)
  all_goals (simp only [Cp16, Np19, evs, lgs, Pl, La, bEq_t, bEq_f, Lw1_t, Lw1_f, Lw2_t, Lw2_f, Lw3_t, Lw3_f] at *)
  all_goals (try omega)
theorem K19 (op cond rd rn rm imm mode list : Int) (s it : Bool) (hop : op = 19) : ∃ P : Prop, Ends (fun n => narrow_Cano n ⟨op, cond, rd, rn, rm, imm, mode, list, s⟩ it) (fun r => r.1 = true ↔ P) ∧ Ends (fun n => ref07_Encodeo n ⟨op, cond, rd, rn, rm, imm, mode, list, s⟩ it) (fun r => r.1.2.1 = true ↔ P) := by
  refine ⟨Cp16 cond rd rn rm imm mode list s ∧ Np19 rd rn rm imm mode list s it, can_of (CI16 op cond rd rn rm imm mode list s (by omega)) (fun hC => ?_), enc_of (CR16 op cond rd rn rm imm mode list s (by omega)) (fun hC => ?_)⟩
  · unfold narrow_formso
    have h := H19 op cond rd rn rm imm mode list s it hop hC
    cases hm : ieq mode 2 <;> subst hop <;> simp only [hm, ieqF, ieqT, ileT, ileF, iltT, iltF, Int.reduceLE, Int.reduceLT, Int.reduceEq, ne_eq, not_false_eq_true, cond_true, cond_false]
    all_goals first | exact Ends.bind (h.2.1 hm) fun y hy => Ends.ret hy | exact Ends.bind (h.1 hm) fun y hy => Ends.ret hy
  · have h := H19 op cond rd rn rm imm mode list s it hop hC
    subst hop <;> simp only [ieqF, ieqT, ileT, ileF, iltT, iltF, Int.reduceLE, Int.reduceLT, Int.reduceEq, ne_eq, not_false_eq_true, cond_true, cond_false] <;> exact Ends.bind h.2.2 fun y hy => enc_fin hC y hy
def Np20 (rd rn rm imm mode list : Int) (s it : Bool) : Prop := it = true ∧ rd = rm ∧ (0 ≤ rd ∧ rd ≤ 7) ∧ (0 ≤ rn ∧ rn ≤ 7)
theorem H20 (op cond rd rn rm imm mode list : Int) (s it : Bool) (hop : op = 20) (hC : Cp20 cond rd rn rm imm mode list s) : Ends (fun n => narrow_resto n ⟨op, cond, rd, rn, rm, imm, mode, list, s⟩ it) (fun r => r.1.is = true ↔ Np20 rd rn rm imm mode list s it) ∧ Ends (fun n => ref07_twoo n ⟨op, cond, rd, rn, rm, imm, mode, list, s⟩ (bNot (bEq s it)) it) (fun r => r.1.2.1 = true ↔ Np20 rd rn rm imm mode list s it) := by
  refine ⟨?_, ?_⟩ <;> cases hm : ieq mode 2 <;> cases h1 : ieq mode 1 <;> cases hn : ieq rn 13
  all_goals (subst hop <;> cases s <;> cases it <;> (first | simp only [hm, h1, hn, narrow_resto, ref07_twoo, ieqF, ieqT, ileT, ileF, iltT, iltF, Int.reduceLE, Int.reduceLT, Int.reduceEq, ne_eq, not_false_eq_true, bNot_tt, bNot_ff, be_tt, be_tf, be_ft, be_ff, cond_true, cond_false, Option.bind_some, Bool.cond_self, npF, ldF] | simp only [hm, narrow_resto, ref07_twoo, ieqF, ieqT, ileT, ileF, iltT, iltF, Int.reduceLE, Int.reduceLT, Int.reduceEq, ne_eq, not_false_eq_true, bNot_tt, bNot_ff, be_tt, be_tf, be_ft, be_ff, cond_true, cond_false, Option.bind_some, Bool.cond_self, npF, ldF]))
  all_goals (repeat' (first
    | (with_reducible refine Ends.ret ?_)
    | ((with_reducible refine Ends.chk ?_ ?_); (first | rfl | (simp only [evs, lgs]; omega)))
    | ((with_reducible refine lowN_if _ _ (Nat.le_of_ble_eq_true rfl) ?_))
    | ((with_reducible refine low7_if _ _ (Nat.le_of_ble_eq_true rfl) ?_))
    | ((with_reducible refine lowN_k _ (Nat.le_of_ble_eq_true rfl) ?_))
    | ((with_reducible refine low7_k _ (Nat.le_of_ble_eq_true rfl) ?_))
    | (with_reducible refine Ends.bif (fun h => ?_) (fun h => ?_))))
  all_goals (simp only [Cp20, Np20, evs, lgs, Pl, La, bEq_t, bEq_f, Lw1_t, Lw1_f, Lw2_t, Lw2_f, Lw3_t, Lw3_f] at *)
  all_goals (try omega)
theorem K20 (op cond rd rn rm imm mode list : Int) (s it : Bool) (hop : op = 20) : ∃ P : Prop, Ends (fun n => narrow_Cano n ⟨op, cond, rd, rn, rm, imm, mode, list, s⟩ it) (fun r => r.1 = true ↔ P) ∧ Ends (fun n => ref07_Encodeo n ⟨op, cond, rd, rn, rm, imm, mode, list, s⟩ it) (fun r => r.1.2.1 = true ↔ P) := by
  refine ⟨Cp20 cond rd rn rm imm mode list s ∧ Np20 rd rn rm imm mode list s it, can_of (CI20 op cond rd rn rm imm mode list s (by omega)) (fun hC => ?_), enc_of (CR20 op cond rd rn rm imm mode list s (by omega)) (fun hC => ?_)⟩
  · unfold narrow_formso
    have h := H20 op cond rd rn rm imm mode list s it hop hC
    subst hop <;> simp only [ieqF, ieqT, ileT, ileF, iltT, iltF, Int.reduceLE, Int.reduceLT, Int.reduceEq, ne_eq, not_false_eq_true, cond_true, cond_false] <;> exact Ends.bind h.1 fun y hy => Ends.ret ⟨len_1 _, (any_1 _).trans hy⟩
  · have h := H20 op cond rd rn rm imm mode list s it hop hC
    subst hop <;> simp only [ieqF, ieqT, ileT, ileF, iltT, iltF, Int.reduceLE, Int.reduceLT, Int.reduceEq, ne_eq, not_false_eq_true, cond_true, cond_false] <;> exact Ends.bind h.2 fun y hy => enc_fin hC y hy
def Np21 (rd rn rm imm mode list : Int) (s it : Bool) : Prop := False
theorem H21 (op cond rd rn rm imm mode list : Int) (s it : Bool) (hop : op = 21 ∨ op = 22) (hC : Cp20 cond rd rn rm imm mode list s) : Ends (fun n => narrow_resto n ⟨op, cond, rd, rn, rm, imm, mode, list, s⟩ it) (fun r => r.1.is = true ↔ Np21 rd rn rm imm mode list s it) ∧ Ends (fun n => ref07_resto n ⟨op, cond, rd, rn, rm, imm, mode, list, s⟩ it) (fun r => r.1.2.1 = true ↔ Np21 rd rn rm imm mode list s it) := by
  refine ⟨?_, ?_⟩ <;> cases hm : ieq mode 2 <;> cases h1 : ieq mode 1 <;> cases hn : ieq rn 13
  all_goals (rcases hop with rfl | rfl <;> cases s <;> cases it <;> (first | simp only [hm, h1, hn, narrow_resto, ref07_resto, ieqF, ieqT, ileT, ileF, iltT, iltF, Int.reduceLE, Int.reduceLT, Int.reduceEq, ne_eq, not_false_eq_true, bNot_tt, bNot_ff, be_tt, be_tf, be_ft, be_ff, cond_true, cond_false, Option.bind_some, Bool.cond_self, npF, ldF] | simp only [hm, narrow_resto, ref07_resto, ieqF, ieqT, ileT, ileF, iltT, iltF, Int.reduceLE, Int.reduceLT, Int.reduceEq, ne_eq, not_false_eq_true, bNot_tt, bNot_ff, be_tt, be_tf, be_ft, be_ff, cond_true, cond_false, Option.bind_some, Bool.cond_self, npF, ldF]))
  all_goals (repeat' (first
    | (with_reducible refine Ends.ret ?_)
    | ((with_reducible refine Ends.chk ?_ ?_); (first | rfl | (simp only [evs, lgs]; omega)))
    | ((with_reducible refine lowN_if _ _ (Nat.le_of_ble_eq_true rfl) ?_))
    | ((with_reducible refine low7_if _ _ (Nat.le_of_ble_eq_true rfl) ?_))
    | ((with_reducible refine lowN_k _ (Nat.le_of_ble_eq_true rfl) ?_))
    | ((with_reducible refine low7_k _ (Nat.le_of_ble_eq_true rfl) ?_))
    | (with_reducible refine Ends.bif (fun h => ?_) (fun h => ?_))))
  all_goals (simp only [Cp20, Np21, evs, lgs, Pl, La, bEq_t, bEq_f, Lw1_t, Lw1_f, Lw2_t, Lw2_f, Lw3_t, Lw3_f] at *)
  all_goals (try omega)
theorem K21 (op cond rd rn rm imm mode list : Int) (s it : Bool) (hop : op = 21 ∨ op = 22) : ∃ P : Prop, Ends (fun n => narrow_Cano n ⟨op, cond, rd, rn, rm, imm, mode, list, s⟩ it) (fun r => r.1 = true ↔ P) ∧ Ends (fun n => ref07_Encodeo n ⟨op, cond, rd, rn, rm, imm, mode, list, s⟩ it) (fun r => r.1.2.1 = true ↔ P) := by
  refine ⟨Cp20 cond rd rn rm imm mode list s ∧ Np21 rd rn rm imm mode list s it, can_of (CI20 op cond rd rn rm imm mode list s (by omega)) (fun hC => ?_), enc_of (CR20 op cond rd rn rm imm mode list s (by omega)) (fun hC => ?_)⟩
  · unfold narrow_formso
    have h := H21 op cond rd rn rm imm mode list s it hop hC
    rcases hop with rfl | rfl <;> simp only [ieqF, ieqT, ileT, ileF, iltT, iltF, Int.reduceLE, Int.reduceLT, Int.reduceEq, ne_eq, not_false_eq_true, cond_true, cond_false] <;> exact Ends.bind h.1 fun y hy => Ends.ret ⟨len_1 _, (any_1 _).trans hy⟩
  · have h := H21 op cond rd rn rm imm mode list s it hop hC
    rcases hop with rfl | rfl <;> simp only [ieqF, ieqT, ileT, ileF, iltT, iltF, Int.reduceLE, Int.reduceLT, Int.reduceEq, ne_eq, not_false_eq_true, cond_true, cond_false] <;> exact Ends.bind h.2 fun y hy => enc_fin hC y hy
def Np23 (rd rn rm imm mode list : Int) (s it : Bool) : Prop := False
theorem H23 (op cond rd rn rm imm mode list : Int) (s it : Bool) (hop : op = 23 ∨ op = 24) (hC : Cp23 cond rd rn rm imm mode list s) : Ends (fun n => narrow_resto n ⟨op, cond, rd, rn, rm, imm, mode, list, s⟩ it) (fun r => r.1.is = true ↔ Np23 rd rn rm imm mode list s it) ∧ Ends (fun n => ref07_resto n ⟨op, cond, rd, rn, rm, imm, mode, list, s⟩ it) (fun r => r.1.2.1 = true ↔ Np23 rd rn rm imm mode list s it) := by
  refine ⟨?_, ?_⟩ <;> cases hm : ieq mode 2 <;> cases h1 : ieq mode 1 <;> cases hn : ieq rn 13
  all_goals (rcases hop with rfl | rfl <;> cases s <;> cases it <;> (first | simp only [hm, h1, hn, narrow_resto, ref07_resto, ieqF, ieqT, ileT, ileF, iltT, iltF, Int.reduceLE, Int.reduceLT, Int.reduceEq, ne_eq, not_false_eq_true, bNot_tt, bNot_ff, be_tt, be_tf, be_ft, be_ff, cond_true, cond_false, Option.bind_some, Bool.cond_self, npF, ldF] | simp only [hm, narrow_resto, ref07_resto, ieqF, ieqT, ileT, ileF, iltT, iltF, Int.reduceLE, Int.reduceLT, Int.reduceEq, ne_eq, not_false_eq_true, bNot_tt, bNot_ff, be_tt, be_tf, be_ft, be_ff, cond_true, cond_false, Option.bind_some, Bool.cond_self, npF, ldF]))
  all_goals (repeat' (first
    | (with_reducible refine Ends.ret ?_)
    | ((with_reducible refine Ends.chk ?_ ?_); (first | rfl | (simp only [evs, lgs]; omega)))
    | ((with_reducible refine lowN_if _ _ (Nat.le_of_ble_eq_true rfl) ?_))
    | ((with_reducible refine low7_if _ _ (Nat.le_of_ble_eq_true rfl) ?_))
    | ((with_reducible refine lowN_k _ (Nat.le_of_ble_eq_true rfl) ?_))
    | ((with_reducible refine low7_k _ (Nat.le_of_ble_eq_true rfl) ?_))
    | (with_reducible refine Ends.bif (fun h => ?_) (fun h => ?_))))
  all_goals (simp only [Cp23, Np23, evs, lgs, Pl, La, bEq_t, bEq_f, Lw1_t, Lw1_f, Lw2_t, Lw2_f, Lw3_t, Lw3_f] at *)
  all_goals (try omega)
theorem K23 (op cond rd rn rm imm mode list : Int) (s it : Bool) (hop : op = 23 ∨ op = 24) : ∃ P : Prop, Ends (fun n => narrow_Cano n ⟨op, cond, rd, rn, rm, imm, mode, list, s⟩ it) (fun r => r.1 = true ↔ P) ∧ Ends (fun n => ref07_Encodeo n ⟨op, cond, rd, rn, rm, imm, mode, list, s⟩ it) (fun r => r.1.2.1 = true ↔ P) := by
  refine ⟨Cp23 cond rd rn rm imm mode list s ∧ Np23 rd rn rm imm mode list s it, can_of (CI23 op cond rd rn rm imm mode list s (by omega)) (fun hC => ?_), enc_of (CR23 op cond rd rn rm imm mode list s (by omega)) (fun hC => ?_)⟩
  · unfold narrow_formso
    have h := H23 op cond rd rn rm imm mode list s it hop hC
    rcases hop with rfl | rfl <;> simp only [ieqF, ieqT, ileT, ileF, iltT, iltF, Int.reduceLE, Int.reduceLT, Int.reduceEq, ne_eq, not_false_eq_true, cond_true, cond_false] <;> exact Ends.bind h.1 fun y hy => Ends.ret ⟨len_1 _, (any_1 _).trans hy⟩
  · have h := H23 op cond rd rn rm imm mode list s it hop hC
    rcases hop with rfl | rfl <;> simp only [ieqF, ieqT, ileT, ileF, iltT, iltF, Int.reduceLE, Int.reduceLT, Int.reduceEq, ne_eq, not_false_eq_true, cond_true, cond_false] <;> exact Ends.bind h.2 fun y hy => enc_fin hC y hy
def Np25 (rd rn rm imm mode list : Int) (s it : Bool) : Prop := (mode = 2 ∧ (0 ≤ rd ∧ rd ≤ 7) ∧ (0 ≤ rn ∧ rn ≤ 7) ∧ (0 ≤ rm ∧ rm ≤ 7)) ∨ (mode ≠ 2 ∧ (0 ≤ rd ∧ rd ≤ 7) ∧ (0 ≤ rn ∧ rn ≤ 7) ∧ wrem imm 4 = 0 ∧ wquo .i64 imm 4 ≤ 31) ∨ (mode ≠ 2 ∧ rn = 13 ∧ (0 ≤ rd ∧ rd ≤ 7) ∧ wrem imm 4 = 0 ∧ imm ≤ 1020)
theorem H25 (op cond rd rn rm imm mode list : Int) (s it : Bool) (hop : op = 25 ∨ op = 28) (hC : Cp25 cond rd rn rm imm mode list s) : Ends (fun n => narrow_loado n ⟨op, cond, rd, rn, rm, imm, mode, list, s⟩) (fun r => r.1.length ≤ 100 ∧ (r.1.any (·.is) = true ↔ Np25 rd rn rm imm mode list s it)) ∧ Ends (fun n => ref07_loado n ⟨op, cond, rd, rn, rm, imm, mode, list, s⟩) (fun r => r.1.2.1 = true ↔ Np25 rd rn rm imm mode list s it) := by
  refine ⟨?_, ?_⟩ <;> cases hm : ieq mode 2 <;> cases h1 : ieq mode 1 <;> cases hn : ieq rn 13
  all_goals (rcases hop with rfl | rfl <;> cases s <;> cases it <;> (first | simp only [hm, h1, hn, narrow_loado, ref07_loado, ieqF, ieqT, ileT, ileF, iltT, iltF, Int.reduceLE, Int.reduceLT, Int.reduceEq, ne_eq, not_false_eq_true, bNot_tt, bNot_ff, be_tt, be_tf, be_ft, be_ff, cond_true, cond_false, Option.bind_some, Bool.cond_self, npF, ldF] | simp only [hm, narrow_loado, ref07_loado, ieqF, ieqT, ileT, ileF, iltT, iltF, Int.reduceLE, Int.reduceLT, Int.reduceEq, ne_eq, not_false_eq_true, bNot_tt, bNot_ff, be_tt, be_tf, be_ft, be_ff, cond_true, cond_false, Option.bind_some, Bool.cond_self, npF, ldF]))
  all_goals (repeat' (first
    | (with_reducible refine Ends.ret ?_)
    | ((with_reducible refine Ends.chk ?_ ?_); (first | rfl | (simp only [evs, lgs]; omega)))
    | ((with_reducible refine lowN_if _ _ (Nat.le_of_ble_eq_true rfl) ?_))
    | ((with_reducible refine low7_if _ _ (Nat.le_of_ble_eq_true rfl) ?_))
    | ((with_reducible refine lowN_k _ (Nat.le_of_ble_eq_true rfl) ?_))
    | ((with_reducible refine low7_k _ (Nat.le_of_ble_eq_true rfl) ?_))
    | (with_reducible refine Ends.bif (fun h => ?_) (fun h => ?_))))
  all_goals (first | refine ⟨len_0, any_0.trans ?_⟩ | refine ⟨len_1 _, (any_1 _).trans ?_⟩ | refine ⟨len_2 _ _, (any_2 _ _).trans ?_⟩ | refine ⟨len_a1 _ _, (any_a1 _ _).trans ?_⟩ | refine ⟨len_a2 _ _ _, (any_a2 _ _ _).trans ?_⟩ | skip)
  all_goals (simp only [Cp25, Np25, evs, lgs, Pl, La, bEq_t, bEq_f, Lw1_t, Lw1_f, Lw2_t, Lw2_f, Lw3_t, Lw3_f] at *)
  all_goals (try omega)
theorem K25 (op cond rd rn rm imm mode list : Int) (s it : Bool) (hop : op = 25 ∨ op = 28) : ∃ P : Prop, Ends (fun n => narrow_Cano n ⟨op, cond, rd, rn, rm, imm, mode, list, s⟩ it) (fun r => r.1 = true ↔ P) ∧ Ends (fun n => ref07_Encodeo n ⟨op, cond, rd, rn, rm, imm, mode, list, s⟩ it) (fun r => r.1.2.1 = true ↔ P) := by
  refine ⟨Cp25 cond rd rn rm imm mode list s ∧ Np25 rd rn rm imm mode list s it, can_of (CI25 op cond rd rn rm imm mode list s (by omega)) (fun hC => ?_), enc_of (CR25 op cond rd rn rm imm mode list s (by omega)) (fun hC => ?_)⟩
  · unfold narrow_formso
    have h := H25 op cond rd rn rm imm mode list s it hop hC
    rcases hop with rfl | rfl <;> simp only [ieqF, ieqT, ileT, ileF, iltT, iltF, Int.reduceLE, Int.reduceLT, Int.reduceEq, ne_eq, not_false_eq_true, cond_true, cond_false] <;> exact Ends.bind h.1 fun y hy => Ends.ret hy
  · have h := H25 op cond rd rn rm imm mode list s it hop hC
    rcases hop with rfl | rfl <;> simp only [ieqF, ieqT, ileT, ileF, iltT, iltF, Int.reduceLE, Int.reduceLT, Int.reduceEq, ne_eq, not_false_eq_true, cond_true, cond_false] <;> exact Ends.bind h.2 fun y hy => enc_fin hC y hy
def Np26 (rd rn rm imm mode list : Int) (s it : Bool) : Prop := (mode = 2 ∧ (0 ≤ rd ∧ rd ≤ 7) ∧ (0 ≤ rn ∧ rn ≤ 7) ∧ (0 ≤ rm ∧ rm ≤ 7)) ∨ (mode ≠ 2 ∧ (0 ≤ rd ∧ rd ≤ 7) ∧ (0 ≤ rn ∧ rn ≤ 7) ∧ wrem imm 1 = 0 ∧ wquo .i64 imm 1 ≤ 31)
theorem H26 (op cond rd rn rm imm mode list : Int) (s it : Bool) (hop : op = 26 ∨ op = 29) (hC : Cp25 cond rd rn rm imm mode list s) : Ends (fun n => narrow_loado n ⟨op, cond, rd, rn, rm, imm, mode, list, s⟩) (fun r => r.1.length ≤ 100 ∧ (r.1.any (·.is) = true ↔ Np26 rd rn rm imm mode list s it)) ∧ Ends (fun n => ref07_loado n ⟨op, cond, rd, rn, rm, imm, mode, list, s⟩) (fun r => r.1.2.1 = true ↔ Np26 rd rn rm imm mode list s it) := by
  refine ⟨?_, ?_⟩ <;> cases hm : ieq mode 2 <;> cases h1 : ieq mode 1 <;> cases hn : ieq rn 13
  all_goals (rcases hop with rfl | rfl <;> cases s <;> cases it <;> (first | simp only [hm, h1, hn, narrow_loado, ref07_loado, ieqF, ieqT, ileT, ileF, iltT, iltF, Int.reduceLE, Int.reduceLT, Int.reduceEq, ne_eq, not_false_eq_true, bNot_tt, bNot_ff, be_tt, be_tf, be_ft, be_ff, cond_true, cond_false, Option.bind_some, Bool.cond_self, npF, ldF] | simp only [hm, narrow_loado, ref07_loado, ieqF, ieqT, ileT, ileF, iltT, iltF, Int.reduceLE, Int.reduceLT, Int.reduceEq, ne_eq, not_false_eq_true, bNot_tt, bNot_ff, be_tt, be_tf, be_ft, be_ff, cond_true, cond_false, Option.bind_some, Bool.cond_self, npF, ldF]))
  all_goals (repeat' (first
    | (with_reducible refine Ends.ret ?_)
    | ((with_reducible refine Ends.chk ?_ ?_); (first | rfl | (simp only [evs, lgs]; omega)))
    | ((with_reducible refine lowN_if _ _ (Nat.le_of_ble_eq_true rfl) ?_))
    | ((with_reducible refine low7_if _ _ (Nat.le_of_ble_eq_true rfl) ?_))
    | ((with_reducible refine lowN_k _ (Nat.le_of_ble_eq_true rfl) ?_))
    | ((with_reducible refine low7_k _ (Nat.le_of_ble_eq_true rfl) ?_))
    | (with_reducible refine Ends.bif (fun h => ?_) (fun h => ?_))))
  all_goals (first | refine ⟨len_0, any_0.trans ?_⟩ | refine ⟨len_1 _, (any_1 _).trans ?_⟩ | refine ⟨len_2 _ _, (any_2 _ _).trans ?_⟩ | refine ⟨len_a1 _ _, (any_a1 _ _).trans ?_⟩ | refine ⟨len_a2 _ _ _, (any_a2 _ _ _).trans ?_⟩ | skip)
  all_goals (simp only [Cp25, Np26, evs, lgs, Pl, La, bEq_t, bEq_f, Lw1_t, Lw1_f, Lw2_t, Lw2_f, Lw3_t, Lw3_f] at *)
  all_goals (try omega)
theorem K26 (op cond rd rn rm imm mode list : Int) (s it : Bool) (hop : op = 26 ∨ op = 29) : ∃ P : Prop, Ends (fun n => narrow_Cano n ⟨op, cond, rd, rn, rm, imm, mode, list, s⟩ it) (fun r => r.1 = true ↔ P) ∧ Ends (fun n => ref07_Encodeo n ⟨op, cond, rd, rn, rm, imm, mode, list, s⟩ it) (fun r => r.1.2.1 = true ↔ P) := by
  refine ⟨Cp25 cond rd rn rm imm mode list s ∧ Np26 rd rn rm imm mode list s it, can_of (CI25 op cond rd rn rm imm mode list s (by omega)) (fun hC => ?_), enc_of (CR25 op cond rd rn rm imm mode list s (by omega)) (fun hC => ?_)⟩
  · unfold narrow_formso
    have h := H26 op cond rd rn rm imm mode list s it hop hC
    rcases hop with rfl | rfl <;> simp only [ieqF, ieqT, ileT, ileF, iltT, iltF, Int.reduceLE, Int.reduceLT, Int.reduceEq, ne_eq, not_false_eq_true, cond_true, cond_false] <;> exact Ends.bind h.1 fun y hy => Ends.ret hy
  · have h := H26 op cond rd rn rm imm mode list s it hop hC
    rcases hop with rfl | rfl <;> simp only [ieqF, ieqT, ileT, ileF, iltT, iltF, Int.reduceLE, Int.reduceLT, Int.reduceEq, ne_eq, not_false_eq_true, cond_true, cond_false] <;> exact Ends.bind h.2 fun y hy => enc_fin hC y hy
def Np27 (rd rn rm imm mode list : Int) (s it : Bool) : Prop := (mode = 2 ∧ (0 ≤ rd ∧ rd ≤ 7) ∧ (0 ≤ rn ∧ rn ≤ 7) ∧ (0 ≤ rm ∧ rm ≤ 7)) ∨ (mode ≠ 2 ∧ (0 ≤ rd ∧ rd ≤ 7) ∧ (0 ≤ rn ∧ rn ≤ 7) ∧ wrem imm 2 = 0 ∧ wquo .i64 imm 2 ≤ 31)
theorem H27 (op cond rd rn rm imm mode list : Int) (s it : Bool) (hop : op = 27 ∨ op = 30) (hC : Cp25 cond rd rn rm imm mode list s) : Ends (fun n => narrow_loado n ⟨op, cond, rd, rn, rm, imm, mode, list, s⟩) (fun r => r.1.length ≤ 100 ∧ (r.1.any (·.is) = true ↔ Np27 rd rn rm imm mode list s it)) ∧ Ends (fun n => ref07_loado n ⟨op, cond, rd, rn, rm, imm, mode, list, s⟩) (fun r => r.1.2.1 = true ↔ Np27 rd rn rm imm mode list s it) := by
  refine ⟨?_, ?_⟩ <;> cases hm : ieq mode 2 <;> cases h1 : ieq mode 1 <;> cases hn : ieq rn 13
  all_goals (rcases hop with rfl | rfl <;> cases s <;> cases it <;> (first | simp only [hm, h1, hn, narrow_loado, ref07_loado, ieqF, ieqT, ileT, ileF, iltT, iltF, Int.reduceLE, Int.reduceLT, Int.reduceEq, ne_eq, not_false_eq_true, bNot_tt, bNot_ff, be_tt, be_tf, be_ft, be_ff, cond_true, cond_false, Option.bind_some, Bool.cond_self, npF, ldF] | simp only [hm, narrow_loado, ref07_loado, ieqF, ieqT, ileT, ileF, iltT, iltF, Int.reduceLE, Int.reduceLT, Int.reduceEq, ne_eq, not_false_eq_true, bNot_tt, bNot_ff, be_tt, be_tf, be_ft, be_ff, cond_true, cond_false, Option.bind_some, Bool.cond_self, npF, ldF]))
  all_goals (repeat' (first
    | (with_reducible refine Ends.ret ?_)
    | ((with_reducible refine Ends.chk ?_ ?_); (first | rfl | (simp only [evs, lgs]; omega)))
    | ((with_reducible refine lowN_if _ _ (Nat.le_of_ble_eq_true rfl) ?_))
    | ((with_reducible refine low7_if _ _ (Nat.le_of_ble_eq_true rfl) ?_))
    | ((with_reducible refine lowN_k _ (Nat.le_of_ble_eq_true rfl) ?_))
    | ((with_reducible refine low7_k _ (Nat.le_of_ble_eq_true rfl) ?_))
    | (with_reducible refine Ends.bif (fun h => ?_) (fun h => ?_))))
  all_goals (first | refine ⟨len_0, any_0.trans ?_⟩ | refine ⟨len_1 _, (any_1 _).trans ?_⟩ | refine ⟨len_2 _ _, (any_2 _ _).trans ?_⟩ | refine ⟨len_a1 _ _, (any_a1 _ _).trans ?_⟩ | refine ⟨len_a2 _ _ _, (any_a2 _ _ _).trans ?_⟩ | skip)
  all_goals (simp only [Cp25, Np27, evs, lgs, Pl, La, bEq_t, bEq_f, Lw1_t, Lw1_f, Lw2_t, Lw2_f, Lw3_t, Lw3_f] at *)
  all_goals (try omega)
theorem K27 (op cond rd rn rm imm mode list : Int) (s it : Bool) (hop : op = 27 ∨ op = 30) : ∃ P : Prop, Ends (fun n => narrow_Cano n ⟨op, cond, rd, rn, rm, imm, mode, list, s⟩ it) (fun r => r.1 = true ↔ P) ∧ Ends (fun n => ref07_Encodeo n ⟨op, cond, rd, rn, rm, imm, mode, list, s⟩ it) (fun r => r.1.2.1 = true ↔ P) := by
  refine ⟨Cp25 cond rd rn rm imm mode list s ∧ Np27 rd rn rm imm mode list s it, can_of (CI25 op cond rd rn rm imm mode list s (by omega)) (fun hC => ?_), enc_of (CR25 op cond rd rn rm imm mode list s (by omega)) (fun hC => ?_)⟩
  · unfold narrow_formso
    have h := H27 op cond rd rn rm imm mode list s it hop hC
    rcases hop with rfl | rfl <;> simp only [ieqF, ieqT, ileT, ileF, iltT, iltF, Int.reduceLE, Int.reduceLT, Int.reduceEq, ne_eq, not_false_eq_true, cond_true, cond_false] <;> exact Ends.bind h.1 fun y hy => Ends.ret hy
  · have h := H27 op cond rd rn rm imm mode list s it hop hC
    rcases hop with rfl | rfl <;> simp only [ieqF, ieqT, ileT, ileF, iltT, iltF, Int.reduceLE, Int.reduceLT, Int.reduceEq, ne_eq, not_false_eq_true, cond_true, cond_false] <;> exact Ends.bind h.2 fun y hy => enc_fin hC y hy
def Np39 (rd rn rm imm mode list : Int) (s it : Bool) : Prop := True
theorem H39 (op cond rd rn rm imm mode list : Int) (s it : Bool) (hop : op = 39) (hC : Cp39 cond rd rn rm imm mode list s) : Ends (fun n => narrow_resto n ⟨op, cond, rd, rn, rm, imm, mode, list, s⟩ it) (fun r => r.1.is = true ↔ Np39 rd rn rm imm mode list s it) ∧ Ends (fun n => ref07_resto n ⟨op, cond, rd, rn, rm, imm, mode, list, s⟩ it) (fun r => r.1.2.1 = true ↔ Np39 rd rn rm imm mode list s it) := by
  refine ⟨?_, ?_⟩ <;> cases hm : ieq mode 2 <;> cases h1 : ieq mode 1 <;> cases hn : ieq rn 13
  all_goals (subst hop <;> cases s <;> cases it <;> (first | simp only [hm, h1, hn, narrow_resto, ref07_resto, ieqF, ieqT, ileT, ileF, iltT, iltF, Int.reduceLE, Int.reduceLT, Int.reduceEq, ne_eq, not_false_eq_true, bNot_tt, bNot_ff, be_tt, be_tf, be_ft, be_ff, cond_true, cond_false, Option.bind_some, Bool.cond_self, npF, ldF] | simp only [hm, narrow_resto, ref07_resto, ieqF, ieqT, ileT, ileF, iltT, iltF, Int.reduceLE, Int.reduceLT, Int.reduceEq, ne_eq, not_false_eq_true, bNot_tt, bNot_ff, be_tt, be_tf, be_ft, be_ff, cond_true, cond_false, Option.bind_some, Bool.cond_self, npF, ldF]))
  all_goals (repeat' (first
    | (with_reducible refine Ends.ret ?_)
    | ((with_reducible refine Ends.chk ?_ ?_); (first | rfl | (simp only [evs, lgs]; omega)))
    | ((with_reducible refine lowN_if _ _ (Nat.le_of_ble_eq_true rfl) ?_))
    | ((with_reducible refine low7_if _ _ (Nat.le_of_ble_eq_true rfl) ?_))
    | ((with_reducible refine lowN_k _ (Nat.le_of_ble_eq_true rfl) ?_))
    | ((with_reducible refine low7_k _ (Nat.le_of_ble_eq_true rfl) ?_))
    | (with_reducible refine Ends.bif (fun h => ?_) (fun h => ?_))))
  all_goals (simp only [Cp39, Np39, evs, lgs, Pl, La, bEq_t, bEq_f, Lw1_t, Lw1_f, Lw2_t, Lw2_f, Lw3_t, Lw3_f] at *)
  all_goals (try omega)
theorem K39 (op cond rd rn rm imm mode list : Int) (s it : Bool) (hop : op = 39) : ∃ P : Prop, Ends (fun n => narrow_Cano n ⟨op, cond, rd, rn, rm, imm, mode, list, s⟩ it) (fun r => r.1 = true ↔ P) ∧ Ends (fun n => ref07_Encodeo n ⟨op, cond, rd, rn, rm, imm, mode, list, s⟩ it) (fun r => r.1.2.1 = true ↔ P) := by
  refine ⟨Cp39 cond rd rn rm imm mode list s ∧ Np39 rd rn rm imm mode list s it, can_of (CI39 op cond rd rn rm imm mode list s (by omega)) (fun hC => ?_), enc_of (CR39 op cond rd rn rm imm mode list s (by omega)) (fun hC => ?_)⟩
  · unfold narrow_formso
    have h := H39 op cond rd rn rm imm mode list s it hop hC
    subst hop <;> simp only [ieqF, ieqT, ileT, ileF, iltT, iltF, Int.reduceLE, Int.reduceLT, Int.reduceEq, ne_eq, not_false_eq_true, cond_true, cond_false] <;> exact Ends.bind h.1 fun y hy => Ends.ret ⟨len_1 _, (any_1 _).trans hy⟩
  · have h := H39 op cond rd rn rm imm mode list s it hop hC
    subst hop <;> simp only [ieqF, ieqT, ileT, ileF, iltT, iltF, Int.reduceLE, Int.reduceLT, Int.reduceEq, ne_eq, not_false_eq_true, cond_true, cond_false] <;> exact Ends.bind h.2 fun y hy => enc_fin hC y hy
def Np43 (rd rn rm imm mode list : Int) (s it : Bool) : Prop := True
theorem H43 (op cond rd rn rm imm mode list : Int) (s it : Bool) (hop : op = 43) (hC : Cp43 cond rd rn rm imm mode list s) : Ends (fun n => narrow_resto n ⟨op, cond, rd, rn, rm, imm, mode, list, s⟩ it) (fun r => r.1.is = true ↔ Np43 rd rn rm imm mode list s it) ∧ Ends (fun n => ref07_resto n ⟨op, cond, rd, rn, rm, imm, mode, list, s⟩ it) (fun r => r.1.2.1 = true ↔ Np43 rd rn rm imm mode list s it) := by
  refine ⟨?_, ?_⟩ <;> cases hm : ieq mode 2 <;> cases h1 : ieq mode 1 <;> cases hn : ieq rn 13
  all_goals (subst hop <;> cases s <;> cases it <;> (first | simp only [hm, h1, hn, narrow_resto, ref07_resto, ieqF, ieqT, ileT, ileF, iltT, iltF, Int.reduceLE, Int.reduceLT, Int.reduceEq, ne_eq, not_false_eq_true, bNot_tt, bNot_ff, be_tt, be_tf, be_ft, be_ff, cond_true, cond_false, Option.bind_some, Bool.cond_self, npF, ldF] | simp only [hm, narrow_resto, ref07_resto, ieqF, ieqT, ileT, ileF, iltT, iltF, Int.reduceLE, Int.reduceLT, Int.reduceEq, ne_eq, not_false_eq_true, bNot_tt, bNot_ff, be_tt, be_tf, be_ft, be_ff, cond_true, cond_false, Option.bind_some, Bool.cond_self, npF, ldF]))
  all_goals (repeat' (first
    | (with_reducible refine Ends.ret ?_)
    | ((with_reducible refine Ends.chk ?_ ?_); (first | rfl | (simp only [evs, lgs]; omega)))
    | ((with_reducible refine lowN_if _ _ (Nat.le_of_ble_eq_true rfl) ?_))
    | ((with_reducible refine low7_if _ _ (Nat.le_of_ble_eq_true rfl) ?_))
    | ((with_reducible refine lowN_k _ (Nat.le_of_ble_eq_true rfl) ?_))
    | ((with_reducible refine low7_k _ (Nat.le_of_ble_eq_true rfl) ?_))
    | (with_reducible refine Ends.bif (fun h => ?_) (fun h => ?_))))
  all_goals (simp only [Cp43, Np43, evs, lgs, Pl, La, bEq_t, bEq_f, Lw1_t, Lw1_f, Lw2_t, Lw2_f, Lw3_t, Lw3_f] at *)
  all_goals (try omega)
theorem K43 (op cond rd rn rm imm mode list : Int) (s it : Bool) (hop : op = 43) : ∃ P : Prop, Ends (fun n => narrow_Cano n ⟨op, cond, rd, rn, rm, imm, mode, list, s⟩ it) (fun r => r.1 = true ↔ P) ∧ Ends (fun n => ref07_Encodeo n ⟨op, cond, rd, rn, rm, imm, mode, list, s⟩ it) (fun r => r.1.2.1 = true ↔ P) := by
  refine ⟨Cp43 cond rd rn rm imm mode list s ∧ Np43 rd rn rm imm mode list s it, can_of (CI43 op cond rd rn rm imm mode list s (by omega)) (fun hC => ?_), enc_of (CR43 op cond rd rn rm imm mode list s (by omega)) (fun hC => ?_)⟩
  · unfold narrow_formso
    have h := H43 op cond rd rn rm imm mode list s it hop hC
    subst hop <;> simp only [ieqF, ieqT, ileT, ileF, iltT, iltF, Int.reduceLE, Int.reduceLT, Int.reduceEq, ne_eq, not_false_eq_true, cond_true, cond_false] <;> exact Ends.bind h.1 fun y hy => Ends.ret ⟨len_1 _, (any_1 _).trans hy⟩
  · have h := H43 op cond rd rn rm imm mode list s it hop hC
    subst hop <;> simp only [ieqF, ieqT, ileT, ileF, iltT, iltF, Int.reduceLE, Int.reduceLT, Int.reduceEq, ne_eq, not_false_eq_true, cond_true, cond_false] <;> exact Ends.bind h.2 fun y hy => enc_fin hC y hy
def Np44 (rd rn rm imm mode list : Int) (s it : Bool) : Prop := True
theorem H44 (op cond rd rn rm imm mode list : Int) (s it : Bool) (hop : op = 44) (hC : Cp44 cond rd rn rm imm mode list s) : Ends (fun n => narrow_resto n ⟨op, cond, rd, rn, rm, imm, mode, list, s⟩ it) (fun r => r.1.is = true ↔ Np44 rd rn rm imm mode list s it) ∧ Ends (fun n => ref07_resto n ⟨op, cond, rd, rn, rm, imm, mode, list, s⟩ it) (fun r => r.1.2.1 = true ↔ Np44 rd rn rm imm mode list s it) := by
  refine ⟨?_, ?_⟩ <;> cases hm : ieq mode 2 <;> cases h1 : ieq mode 1 <;> cases hn : ieq rn 13
  all_goals (subst hop <;> cases s <;> cases it <;> (first | simp only [hm, h1, hn, narrow_resto, ref07_resto, ieqF, ieqT, ileT, ileF, iltT, iltF, Int.reduceLE, Int.reduceLT, Int.reduceEq, ne_eq, not_false_eq_true, bNot_tt, bNot_ff, be_tt, be_tf, be_ft, be_ff, cond_true, cond_false, Option.bind_some, Bool.cond_self, npF, ldF] | simp only [hm, narrow_resto, ref07_resto, ieqF, ieqT, ileT, ileF, iltT, iltF, Int.reduceLE, Int.reduceLT, Int.reduceEq, ne_eq, not_false_eq_true, bNot_tt, bNot_ff, be_tt, be_tf, be_ft, be_ff, cond_true, cond_false, Option.bind_some, Bool.cond_self, npF, ldF]))
  all_goals (repeat' (first
    | (with_reducible refine Ends.ret ?_)
    | ((with_reducible refine Ends.chk ?_ ?_); (first | rfl | (simp only [evs, lgs]; omega)))
    | ((with_reducible refine lowN_if _ _ (Nat.le_of_ble_eq_true rfl) ?_))
    | ((with_reducible refine low7_if _ _ (Nat.le_of_ble_eq_true rfl) ?_))
    | ((with_reducible refine lowN_k _ (Nat.le_of_ble_eq_true rfl) ?_))
    | ((with_reducible refine low7_k _ (Nat.le_of_ble_eq_true rfl) ?_))
    | (with_reducible refine Ends.bif (fun h => ?_) (fun h => ?_))))
  all_goals (simp only [Cp44, Np44, evs, lgs, Pl, La, bEq_t, bEq_f, Lw1_t, Lw1_f, Lw2_t, Lw2_f, Lw3_t, Lw3_f] at *)
  all_goals (try omega)
theorem K44 (op cond rd rn rm imm mode list : Int) (s it : Bool) (hop : op = 44) : ∃ P : Prop, Ends (fun n => narrow_Cano n ⟨op, cond, rd, rn, rm, imm, mode, list, s⟩ it) (fun r => r.1 = true ↔ P) ∧ Ends (fun n => ref07_Encodeo n ⟨op, cond, rd, rn, rm, imm, mode, list, s⟩ it) (fun r => r.1.2.1 = true ↔ P) := by
  refine ⟨Cp44 cond rd rn rm imm mode list s ∧ Np44 rd rn rm imm mode list s it, can_of (CI44 op cond rd rn rm imm mode list s (by omega)) (fun hC => ?_), enc_of (CR44 op cond rd rn rm imm mode list s (by omega)) (fun hC => ?_)⟩
  · unfold narrow_formso
    have h := H44 op cond rd rn rm imm mode list s it hop hC
    subst hop <;> simp only [ieqF, ieqT, ileT, ileF, iltT, iltF, Int.reduceLE, Int.reduceLT, Int.reduceEq, ne_eq, not_false_eq_true, cond_true, cond_false] <;> exact Ends.bind h.1 fun y hy => Ends.ret ⟨len_1 _, (any_1 _).trans hy⟩
  · have h := H44 op cond rd rn rm imm mode list s it hop hC
    subst hop <;> simp only [ieqF, ieqT, ileT, ileF, iltT, iltF, Int.reduceLE, Int.reduceLT, Int.reduceEq, ne_eq, not_false_eq_true, cond_true, cond_false] <;> exact Ends.bind h.2 fun y hy => enc_fin hC y hy
def Np45 (rd rn rm imm mode list : Int) (s it : Bool) : Prop := False
theorem H45 (op cond rd rn rm imm mode list : Int) (s it : Bool) (hop : op = 45) (hC : Cp45 cond rd rn rm imm mode list s) : Ends (fun n => narrow_resto n ⟨op, cond, rd, rn, rm, imm, mode, list, s⟩ it) (fun r => r.1.is = true ↔ Np45 rd rn rm imm mode list s it) ∧ Ends (fun n => ref07_resto n ⟨op, cond, rd, rn, rm, imm, mode, list, s⟩ it) (fun r => r.1.2.1 = true ↔ Np45 rd rn rm imm mode list s it) := by
  refine ⟨?_, ?_⟩ <;> cases hm : ieq mode 2 <;> cases h1 : ieq mode 1 <;> cases hn : ieq rn 13
  all_goals (subst hop <;> cases s <;> cases it <;> (first | simp only [hm, h1, hn, narrow_resto, ref07_resto, ieqF, ieqT, ileT, ileF, iltT, iltF, Int.reduceLE, Int.reduceLT, Int.reduceEq, ne_eq, not_false_eq_true, bNot_tt, bNot_ff, be_tt, be_tf, be_ft, be_ff, cond_true, cond_false, Option.bind_some, Bool.cond_self, npF, ldF] | simp only [hm, narrow_resto, ref07_resto, ieqF, ieqT, ileT, ileF, iltT, iltF, Int.reduceLE, Int.reduceLT, Int.reduceEq, ne_eq, not_false_eq_true, bNot_tt, bNot_ff, be_tt, be_tf, be_ft, be_ff, cond_true, cond_false, Option.bind_some, Bool.cond_self, npF, ldF]))
  all_goals (repeat' (first
    | (with_reducible refine Ends.ret ?_)
    | ((with_reducible refine Ends.chk ?_ ?_); (first | rfl | (simp only [evs, lgs]; omega)))
    | ((with_reducible refine lowN_if _ _ (Nat.le_of_ble_eq_true rfl) ?_))
    | ((with_reducible refine low7_if _ _ (Nat.le_of_ble_eq_true rfl) ?_))
    | ((with_reducible refine lowN_k _ (Nat.le_of_ble_eq_true rfl) ?_))
    | ((with_reducible refine low7_k _ (Nat.le_of_ble_eq_true rfl) ?_))
    | (with_reducible refine Ends.bif (fun h => ?_) (fun h => ?_))))
  all_goals (simp only [Cp45, Np45, evs, lgs, Pl, La, bEq_t, bEq_f, Lw1_t, Lw1_f, Lw2_t, Lw2_f, Lw3_t, Lw3_f] at *)
  all_goals (try omega)
theorem K45 (op cond rd rn rm imm mode list : Int) (s it : Bool) (hop : op = 45) : ∃ P : Prop, Ends (fun n => narrow_Cano n ⟨op, cond, rd, rn, rm, imm, mode, list, s⟩ it) (fun r => r.1 = true ↔ P) ∧ Ends (fun n => ref07_Encodeo n ⟨op, cond, rd, rn, rm, imm, mode, list, s⟩ it) (fun r => r.1.2.1 = true ↔ P) := by
  refine ⟨Cp45 cond rd rn rm imm mode list s ∧ Np45 rd rn rm imm mode list s it, can_of (CI45 op cond rd rn rm imm mode list s (by omega)) (fun hC => ?_), enc_of (CR45 op cond rd rn rm imm mode list s (by omega)) (fun hC => ?_)⟩
  · unfold narrow_formso
    have h := H45 op cond rd rn rm imm mode list s it hop hC
    subst hop <;> simp only [ieqF, ieqT, ileT, ileF, iltT, iltF, Int.reduceLE, Int.reduceLT, Int.reduceEq, ne_eq, not_false_eq_true, cond_true, cond_false] <;> exact Ends.bind h.1 fun y hy => Ends.ret ⟨len_1 _, (any_1 _).trans hy⟩
  · have h := H45 op cond rd rn rm imm mode list s it hop hC
    subst hop <;> simp only [ieqF, ieqT, ileT, ileF, iltT, iltF, Int.reduceLE, Int.reduceLT, Int.reduceEq, ne_eq, not_false_eq_true, cond_true, cond_false] <;> exact Ends.bind h.2 fun y hy => enc_fin hC y hy
end Go.Ev.Tryz
