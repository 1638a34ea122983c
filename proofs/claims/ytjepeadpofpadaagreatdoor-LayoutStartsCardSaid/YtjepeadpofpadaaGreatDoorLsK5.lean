/- Plain rules: what a model comes to when it is given enough rounds. -/
import Derived.Test.YtjepeadpofpadaaGreatDoorLsK1
import Derived.Test.YtjepeadpofpadaaGreatDoorLsM0
import Derived.Test.YtjepeadpofpadaaGreatDoorLsM1
set_option linter.unusedSimpArgs false
set_option linter.unusedVariables false
set_option linter.unusedSectionVars false
namespace Go.Ev
open Go
def Ends {α : Type} (f : Nat → Option α) (Q : α → Prop) : Prop := ∃ r, Q r ∧ ∃ n0, ∀ n, n0 ≤ n → f n = some r
section
variable {α β : Type} {f g : Nat → Option α} {Q R : α → Prop}
theorem Ends.ret {r : α} (h : Q r) : Ends (fun _ => some r) Q := ⟨r, h, 0, fun _ _ => rfl⟩
theorem Ends.of {x : Option α} (h : ∃ r, x = some r ∧ Q r) : Ends (fun _ => x) Q := by
  obtain ⟨r, h1, h2⟩ := h
  exact ⟨r, h2, 0, fun _ _ => h1⟩
theorem Ends.mono (h : Ends f R) (hq : ∀ r, R r → Q r) : Ends f Q := by
  obtain ⟨r, h1, h2⟩ := h
  exact ⟨r, hq r h1, h2⟩
theorem Ends.chk {c : Bool} (hc : c = true) (h : Ends f Q) : Ends (fun n => Ev.chk c (f n)) Q := by subst hc; exact h
theorem Ends.bif {c : Bool} (h : c = true → Ends f Q) (k : c = false → Ends g Q) : Ends (fun n => bif c then f n else g n) Q := by
  cases c
  · exact k rfl
  · exact h rfl
theorem Ends.bind {f : Nat → Option β} {g : Nat → β → Option α} {R : β → Prop} (h : Ends f R) (k : ∀ y, R y → Ends (fun n => g n y) Q) : Ends (fun n => (f n).bind (g n)) Q := by
  obtain ⟨y, hy, n0, h0⟩ := h
  obtain ⟨r, hr, n1, h1⟩ := k y hy
  refine ⟨r, hr, max n0 n1, fun n hn => ?_⟩
  show (f n).bind (g n) = _
  rw [h0 n (by omega)]
  exact h1 n (by omega)
theorem Ends.succ {f g : Nat → Option α} (h : ∀ n, f (n + 1) = g n) (k : Ends g Q) : Ends f Q := by
  obtain ⟨r, hr, n0, h0⟩ := k
  refine ⟨r, hr, n0 + 1, fun n hn => ?_⟩
  obtain ⟨m, rfl⟩ : ∃ m, n = m + 1 := ⟨n - 1, by omega⟩
  rw [h]
  exact h0 m (by omega)
theorem Ends.get (h : Ends f Q) : ∃ n r, f n = some r ∧ Q r := by
  obtain ⟨r, hr, n0, h0⟩ := h
  exact ⟨n0, r, h0 n0 (Nat.le_refl _), hr⟩
theorem Ends.loop_aux {S : Type} {body : Nat → S → Option (Option Nat × S)} (I : S → Prop) (μ : S → Nat) {R : Nat × S → Prop} (hb : ∀ s, I s → Ends (fun n => body n s) (fun y => match y.1 with | none => I y.2 ∧ μ y.2 < μ s | some j => R (j, y.2))) :
    ∀ (m : Nat) (s : S), μ s ≤ m → I s → ∃ r, R r ∧ ∃ n0 k0, ∀ n, n0 ≤ n → ∀ k, k0 ≤ k → iter (body n) k s = some r := by
  intro m
  induction m with
  | zero =>
    intro s hm hI
    obtain ⟨y, hy, n1, h1⟩ := hb s hI
    have h1 : ∀ n, n1 ≤ n → body n s = some y := h1
    obtain ⟨j, s'⟩ := y
    cases j with
    | none => have := hy.2; omega
    | some j =>
      refine ⟨(j, s'), hy, n1, 1, fun n hn k hk => ?_⟩
      obtain ⟨k', rfl⟩ : ∃ k', k = k' + 1 := ⟨k - 1, by omega⟩
      rw [iter, h1 n hn]; rfl
  | succ m ih =>
    intro s hm hI
    obtain ⟨y, hy, n1, h1⟩ := hb s hI
    have h1 : ∀ n, n1 ≤ n → body n s = some y := h1
    obtain ⟨j, s'⟩ := y
    cases j with
    | some j =>
      refine ⟨(j, s'), hy, n1, 1, fun n hn k hk => ?_⟩
      obtain ⟨k', rfl⟩ : ∃ k', k = k' + 1 := ⟨k - 1, by omega⟩
      rw [iter, h1 n hn]; rfl
    | none =>
      obtain ⟨r, hr, n0, k0, h0⟩ := ih s' (by have := hy.2; dsimp only at this; omega) hy.1
      refine ⟨r, hr, max n0 n1, k0 + 1, fun n hn k hk => ?_⟩
      obtain ⟨k', rfl⟩ : ∃ k', k = k' + 1 := ⟨k - 1, by omega⟩
      rw [iter, h1 n (by omega)]
      exact h0 n (by omega) k' (by omega)
theorem Ends.loop {S : Type} {body : Nat → S → Option (Option Nat × S)} (I : S → Prop) (μ : S → Nat) {R : Nat × S → Prop} {s : S} (h0 : I s)
    (hb : ∀ s, I s → Ends (fun n => body n s) (fun y => match y.1 with | none => I y.2 ∧ μ y.2 < μ s | some j => R (j, y.2))) : Ends (fun n => iter (body n) n s) R := by
  obtain ⟨r, hr, n0, k0, h⟩ := Ends.loop_aux I μ hb (μ s) s (Nat.le_refl _) h0
  exact ⟨r, hr, max n0 k0, fun n hn => h n (by omega) n (by omega)⟩
end
theorem wr_i64 {n : Int} (h : -9223372036854775808 ≤ n) (h' : n ≤ 9223372036854775807) : wr .i64 n = n := by
  have e1 : ((2 : Int) ^ 64) = 18446744073709551616 := by decide
  have e2 : ((2 : Int) ^ 63) = 9223372036854775808 := by decide
  simp only [wr, IntKind.wrap, IntKind.bits, IntKind.signed, e1, e2, Bool.true_and, decide_eq_true_eq, Nat.reduceSub]
  split <;> omega
theorem wr_in (n : Int) : inK .i64 (wr .i64 n) := by
  have e1 : ((2 : Int) ^ 64) = 18446744073709551616 := by decide
  have e2 : ((2 : Int) ^ 63) = 9223372036854775808 := by decide
  have e3 : IntKind.min .i64 = -9223372036854775808 := by decide
  have e4 : IntKind.max .i64 = 9223372036854775807 := by decide
  unfold inK
  rw [e3, e4]
  simp only [wr, IntKind.wrap, IntKind.bits, IntKind.signed, e1, e2, Bool.true_and, decide_eq_true_eq, Nat.reduceSub]
  split <;> omega
theorem wr_u8 {n : Int} (h : 0 ≤ n) (h' : n ≤ 255) : wr .u8 n = n := by
  have e1 : ((2 : Int) ^ 8) = 256 := by decide
  simp only [wr, IntKind.wrap, IntKind.bits, IntKind.signed, e1, Bool.false_and, Bool.false_eq_true, if_false]
  omega
theorem wrem_pos {a b : Int} (ha : 0 ≤ a) (hb : 0 < b) : wrem a b = a % b := by
  unfold wrem; rw [Int.tmod_eq_emod_of_nonneg ha]
theorem wquo_i64 {a b : Int} (ha : 0 ≤ a) (ha' : a ≤ 9223372036854775807) (hb : 0 < b) : wquo .i64 a b = a / b := by
  unfold wquo
  rw [Int.tdiv_eq_ediv_of_nonneg ha]
  have h1 : 0 ≤ a / b := Int.ediv_nonneg ha (by omega)
  have h2 : a / b ≤ a := Int.ediv_le_self _ ha
  exact wr_i64 (by omega) (by omega)
theorem imin_eq {a b : Int} : imin a b = if b < a then b else a := rfl
theorem imax_eq {a b : Int} : imax a b = if b > a then b else a := rfl
theorem ilt_t {a b : Int} : ilt a b = true ↔ a < b := by simp [ilt]
theorem ilt_f {a b : Int} : ilt a b = false ↔ b ≤ a := by simp [ilt]
theorem ile_t {a b : Int} : ile a b = true ↔ a ≤ b := by simp [ile]
theorem ile_f {a b : Int} : ile a b = false ↔ b < a := by simp [ile]
theorem ieq_t {a b : Int} : ieq a b = true ↔ a = b := by simp [ieq]
theorem ieq_f {a b : Int} : ieq a b = false ↔ a ≠ b := by simp [ieq]
theorem inside_t {i n : Int} : inside i n = true ↔ 0 ≤ i ∧ i < n := by simp [inside]
theorem bounds_t {l h n : Int} : bounds l h n = true ↔ 0 ≤ l ∧ l ≤ h ∧ h ≤ n := by simp [bounds, and_assoc]
theorem bNot_t {a : Bool} : bNot a = true ↔ a = false := by cases a <;> simp [bNot]
theorem bNot_f {a : Bool} : bNot a = false ↔ a = true := by cases a <;> simp [bNot]
theorem bAnd_t {a b : Bool} : bAnd a b = true ↔ a = true ∧ b = true := by simp [bAnd]
theorem bAnd_f {a b : Bool} : bAnd a b = false ↔ a = false ∨ b = false := by cases a <;> cases b <;> simp [bAnd]
theorem bor_t {a b : Bool} : (bif a then true else b) = true ↔ a = true ∨ b = true := by cases a <;> simp
theorem bor_f {a b : Bool} : (bif a then true else b) = false ↔ a = false ∧ b = false := by cases a <;> simp
theorem band_t {a b : Bool} : (bif a then b else false) = true ↔ a = true ∧ b = true := by cases a <;> simp
theorem band_f {a b : Bool} : (bif a then b else false) = false ↔ a = false ∨ b = false := by cases a <;> simp
theorem sroom_t {a b : ByteArray} : sroom a b = true ↔ a.size + b.size ≤ 9223372036854775807 := by simp [sroom]
theorem room_t {n k : Nat} : room n k = true ↔ n * k ≤ 70368744177664 := by simp [room, roomMax]
theorem strEq_t {a b : ByteArray} : strEq a b = true ↔ a = b := by
  simp only [strEq, beq_iff_eq]
  constructor
  · intro h
    cases a with | mk a => cases b with | mk b =>
    have : a = b := by
      cases a with | mk a => cases b with | mk b => simpa using h
    rw [this]
  · intro h; rw [h]
theorem strEq_f {a b : ByteArray} : strEq a b = false ↔ a ≠ b := by
  rw [← Bool.not_eq_true, strEq_t]
theorem size_e {s : ByteArray} : s = ⟨#[]⟩ ↔ s.size = 0 := by
  constructor
  · intro h; rw [h]; rfl
  · intro h
    cases s with | mk a => cases a with | mk a =>
    cases a with
    | nil => rfl
    | cons x r => simp [ByteArray.size] at h
theorem strEq_e_t {s : ByteArray} : strEq s ⟨#[]⟩ = true ↔ s.size = 0 := by rw [strEq_t, size_e]
theorem strEq_e_f {s : ByteArray} : strEq s ⟨#[]⟩ = false ↔ s.size ≠ 0 := by rw [strEq_f, ne_eq, size_e]
theorem sget_lo (s : ByteArray) (i : Int) : 0 ≤ sget s i ∧ sget s i ≤ 255 := by
  unfold sget
  have := (s.data.toList.getD i.toNat 0).toNat_lt
  omega
theorem size_scut (s : ByteArray) {l h : Int} (h0 : 0 ≤ l) (h1 : l ≤ h) (h2 : h ≤ slen s) : (scut s l h).size = (h - l).toNat := by
  unfold scut slen at *
  rw [ByteArray.size_extract]
  omega
theorem slen_scut (s : ByteArray) {l h : Int} (h0 : 0 ≤ l) (h1 : l ≤ h) (h2 : h ≤ slen s) : slen (scut s l h) = h - l := by
  have := size_scut s h0 h1 h2
  unfold slen at *
  omega
theorem slen_nonneg (s : ByteArray) : 0 ≤ slen s := by unfold slen; omega
theorem size_scat (a b : ByteArray) : (scat a b).size = a.size + b.size := by unfold scat; exact ByteArray.size_append
theorem len_xapp {t : Ty} (xs ys : List (T t)) : xlen (xapp xs ys) = xlen xs + xlen ys := by simp [xlen, xapp]
theorem evs : (∀ a b : Int, ilt a b = true ↔ a < b) ∧ (∀ a b : Int, ilt a b = false ↔ b ≤ a) ∧ (∀ a b : Int, ile a b = true ↔ a ≤ b) ∧ (∀ a b : Int, ile a b = false ↔ b < a) ∧ (∀ a b : Int, ieq a b = true ↔ a = b) ∧ (∀ a b : Int, ieq a b = false ↔ ¬ a = b) ∧
    (∀ i n : Int, inside i n = true ↔ 0 ≤ i ∧ i < n) ∧ (∀ l h n : Int, bounds l h n = true ↔ 0 ≤ l ∧ l ≤ h ∧ h ≤ n) ∧ (∀ a : Bool, bNot a = true ↔ a = false) ∧ (∀ a : Bool, bNot a = false ↔ a = true) ∧
    (∀ a b : Bool, bAnd a b = true ↔ a = true ∧ b = true) ∧ (∀ a b : Bool, bAnd a b = false ↔ a = false ∨ b = false) ∧ (∀ a b : Bool, (bif a then true else b) = true ↔ a = true ∨ b = true) ∧ (∀ a b : Bool, (bif a then true else b) = false ↔ a = false ∧ b = false) ∧
    (∀ a b : Bool, (bif a then b else false) = true ↔ a = true ∧ b = true) ∧ (∀ a b : Bool, (bif a then b else false) = false ↔ a = false ∨ b = false) ∧ (∀ a b : ByteArray, sroom a b = true ↔ a.size + b.size ≤ 9223372036854775807) ∧ (∀ n k : Nat, room n k = true ↔ n * k ≤ 70368744177664) ∧
    (∀ s : ByteArray, strEq s ⟨#[]⟩ = true ↔ s.size = 0) ∧ (∀ s : ByteArray, strEq s ⟨#[]⟩ = false ↔ ¬ s.size = 0) ∧ (∀ a b : Int, iadd a b = a + b) ∧ (∀ a b : Int, isub a b = a - b) ∧ (∀ a b : Int, imul a b = a * b) ∧ (∀ n : Nat, iof n = (n : Int)) ∧ (∀ s : ByteArray, slen s = (s.size : Int)) ∧ (∀ a b : Int, (a ≠ b) = ¬ a = b) ∧ (∀ a b : Nat, (a ≠ b) = ¬ a = b) ∧ (∀ a b : Bool, (a ≠ b) = ¬ a = b) ∧ ((true = false) = False) ∧ ((false = true) = False) :=
  ⟨fun _ _ => ilt_t, fun _ _ => ilt_f, fun _ _ => ile_t, fun _ _ => ile_f, fun _ _ => ieq_t, fun _ _ => ieq_f, fun _ _ => inside_t, fun _ _ _ => bounds_t, fun _ => bNot_t, fun _ => bNot_f, fun _ _ => bAnd_t, fun _ _ => bAnd_f, fun _ _ => bor_t, fun _ _ => bor_f, fun _ _ => band_t, fun _ _ => band_f, fun _ _ => sroom_t, fun _ _ => room_t, fun _ => strEq_e_t, fun _ => strEq_e_f, fun _ _ => rfl, fun _ _ => rfl, fun _ _ => rfl, fun _ => rfl, fun _ => rfl, fun _ _ => rfl, fun _ _ => rfl, fun _ _ => rfl, Bool.true_eq_false, Bool.false_eq_true⟩
theorem ieqF {a b : Int} (h : a ≠ b) : ieq a b = false := ieq_f.2 h
theorem ieqT {a : Int} : ieq a a = true := ieq_t.2 rfl
theorem ileT {a b : Int} (h : a ≤ b) : ile a b = true := ile_t.2 h
theorem ileF {a b : Int} (h : b < a) : ile a b = false := ile_f.2 h
theorem iltT {a b : Int} (h : a < b) : ilt a b = true := ilt_t.2 h
theorem iltF {a b : Int} (h : b ≤ a) : ilt a b = false := ilt_f.2 h
theorem lgs : ((¬ True) = False) ∧ ((¬ False) = True) ∧ (∀ p : Prop, (p ∨ False) = p) ∧ (∀ p : Prop, (False ∨ p) = p) ∧ (∀ p : Prop, (True ∧ p) = p) ∧ (∀ p : Prop, (p ∧ True) = p) ∧ (∀ p : Prop, (True ↔ p) = p) ∧ (∀ p : Prop, (p ↔ True) = p) ∧ (∀ p : Prop, (False ∧ p) = False) ∧ (∀ p : Prop, (p ∧ False) = False) ∧ (∀ p : Prop, (p ∨ True) = True) ∧ (∀ p : Prop, (True ∨ p) = True) ∧ (∀ p : Prop, (p ↔ False) = ¬ p) ∧ (∀ p : Prop, (False ↔ p) = ¬ p) ∧
    (∀ p q : Prop, ¬ (p ∨ q) ↔ ¬ p ∧ ¬ q) ∧ (∀ p q : Prop, ¬ (p ∧ q) ↔ (p → ¬ q)) ∧ (∀ p : Prop, ¬ ¬ p ↔ p) ∧ (∀ b : Bool, (¬ b = true) = (b = false)) ∧ (∀ b : Bool, (¬ b = false) = (b = true)) :=
  ⟨not_true_eq_false, not_false_eq_true, or_false, false_or, true_and, and_true, true_iff, iff_true, false_and, and_false, or_true, true_or, iff_false, false_iff, fun _ _ => not_or, fun _ _ => not_and, fun _ => Classical.not_not, fun b => Bool.not_eq_true b, fun b => Bool.not_eq_false b⟩
end Go.Ev
namespace Go.Ev.Tryz
open Go Go.Ev
theorem run_ends (s : ByteArray) (hs : s.size ≤ 4611686018427387904) : Ends (fun n => ref16_runo n s) (fun r => 0 ≤ r.1 ∧ r.1 ≤ slen s ∧ (0 < slen s → ref16_letter (sget s 0) = true → 1 ≤ r.1)) := by
  unfold ref16_runo
  refine Ends.chk (by (first | assumption | rfl | (simp only [evs] at * <;> (try simp (disch := omega) only [wr_i64] at *) <;> omega) | (simp (disch := omega) only [wr_i64] at * <;> omega) | omega)) (Ends.bif (fun h => Ends.ret ?_) (fun h => ?_))
  · refine ⟨by simp, by (first | assumption | rfl | (simp only [evs] at * <;> (try simp (disch := omega) only [wr_i64] at *) <;> omega) | (simp (disch := omega) only [wr_i64] at * <;> omega) | omega), fun h1 h2 => ?_⟩
    simp only [evs] at h h1
    rcases h with h | h
    · omega
    · rw [h] at h2; cases h2
  · have hs0 : 0 < slen s := by (first | assumption | rfl | (simp only [evs] at * <;> (try simp (disch := omega) only [wr_i64] at *) <;> omega) | (simp (disch := omega) only [wr_i64] at * <;> omega) | omega)
    refine Ends.bind (R := fun z => 1 ≤ z.2.1.2.2.1 ∧ z.2.1.2.2.1 ≤ slen s) (Ends.loop (I := fun x => x.1.1 = s ∧ 1 ≤ x.1.2.2.1 ∧ x.1.2.2.1 ≤ slen s) (μ := fun x => (slen s - x.1.2.2.1).toNat) ⟨rfl, by simp, by dsimp only; omega⟩ fun x hx => ?_) fun z hz => Ends.ret ⟨by (first | assumption | rfl | (simp only [evs] at * <;> (try simp (disch := omega) only [wr_i64] at *) <;> omega) | (simp (disch := omega) only [wr_i64] at * <;> omega) | omega), hz.2, fun _ _ => hz.1⟩
    obtain ⟨⟨a, b, c, _⟩, _⟩ := x
    obtain ⟨rfl, h1, h2⟩ := hx
    dsimp only at h1 h2
    simp only [ref16_run_L4f, ref16_run_L4]
    (repeat' (first | (with_reducible refine Ends.ret ?_) | (with_reducible refine Ends.bif (fun h => ?_) (fun h => ?_)) | (with_reducible refine Ends.chk ?_ ?_; · (first | assumption | rfl | (simp only [evs] at * <;> (try simp (disch := omega) only [wr_i64] at *) <;> omega) | (simp (disch := omega) only [wr_i64] at * <;> omega) | omega))))
    · have h3 : c < slen a := by simp only [band_t, ilt_t] at h; exact h.1
      clear h
      refine ⟨⟨rfl, by (first | assumption | rfl | (simp only [evs] at * <;> (try simp (disch := omega) only [wr_i64] at *) <;> omega) | (simp (disch := omega) only [wr_i64] at * <;> omega) | omega), by (first | assumption | rfl | (simp only [evs] at * <;> (try simp (disch := omega) only [wr_i64] at *) <;> omega) | (simp (disch := omega) only [wr_i64] at * <;> omega) | omega)⟩, by (first | assumption | rfl | (simp only [evs] at * <;> (try simp (disch := omega) only [wr_i64] at *) <;> omega) | (simp (disch := omega) only [wr_i64] at * <;> omega) | omega)⟩
    · exact ⟨h1, h2⟩
theorem Name_ends (s : ByteArray) : Ends (fun n => ref16_Nameo n s) (fun r => r.1 = true → 0 < s.size ∧ s.size ≤ 32) := by
  unfold ref16_Nameo
  refine Ends.bind (R := fun _ => True) (Ends.bif (fun h => ?_) (fun h => Ends.ret trivial)) fun y _ => ?_
  · exact (run_ends s (by (first | assumption | rfl | (simp only [evs] at * <;> (try simp (disch := omega) only [wr_i64] at *) <;> omega) | (simp (disch := omega) only [wr_i64] at * <;> omega) | omega))).mono fun _ _ => trivial
  · refine Ends.bif (fun h => Ends.ret (by intro h; cases h)) (fun h => ?_)
    have hs0 : 0 < s.size ∧ s.size ≤ 32 := by (first | assumption | rfl | (simp only [evs] at * <;> (try simp (disch := omega) only [wr_i64] at *) <;> omega) | (simp (disch := omega) only [wr_i64] at * <;> omega) | omega)
    clear h
    refine Ends.bind (R := fun z => True) (Ends.loop (I := fun x => x.1.1 = s ∧ 0 ≤ x.1.2.2.1 ∧ x.1.2.2.1 ≤ slen s) (μ := fun x => (slen s - x.1.2.2.1).toNat) ⟨rfl, by simp, by simp [slen]⟩ fun x hx => ?_) fun z hz => Ends.bif (fun h => Ends.ret fun _ => hs0) (fun h => Ends.ret fun _ => hs0)
    obtain ⟨⟨a, b, c, _⟩, _⟩ := x
    obtain ⟨rfl, h1, h2⟩ := hx
    dsimp only at h1 h2
    simp only [ref16_Name_L4f, ref16_Name_L4]
    (repeat' (first | (with_reducible refine Ends.ret ?_) | (with_reducible refine Ends.bif (fun h => ?_) (fun h => ?_)) | (with_reducible refine Ends.chk ?_ ?_; · (first | assumption | rfl | (simp only [evs] at * <;> (try simp (disch := omega) only [wr_i64] at *) <;> omega) | (simp (disch := omega) only [wr_i64] at * <;> omega) | omega))))
    · trivial
    · refine ⟨⟨rfl, by (first | assumption | rfl | (simp only [evs] at * <;> (try simp (disch := omega) only [wr_i64] at *) <;> omega) | (simp (disch := omega) only [wr_i64] at * <;> omega) | omega), by (first | assumption | rfl | (simp only [evs] at * <;> (try simp (disch := omega) only [wr_i64] at *) <;> omega) | (simp (disch := omega) only [wr_i64] at * <;> omega) | omega)⟩, by (first | assumption | rfl | (simp only [evs] at * <;> (try simp (disch := omega) only [wr_i64] at *) <;> omega) | (simp (disch := omega) only [wr_i64] at * <;> omega) | omega)⟩
    · trivial
theorem value_lo (c b : Int) (h0 : 0 ≤ c) (h1 : c ≤ 255) : -1 ≤ ref16_value c b ∧ ref16_value c b ≤ 15 := by
  unfold ref16_value ref16_valueo
  cases h : ref16_digit c with
  | true =>
    unfold ref16_digit ref16_digito at h
    have h : (bif ile 48 c then ile c 57 else false) = true := h
    simp only [band_t, ile_t] at h
    simp only [cond_true, Option.map, Option.getD, isub]
    rw [wr_u8 (by omega) (by omega), wr_i64 (by omega) (by omega)]
    omega
  | false =>
    simp only [cond_false]
    cases h2 : (bif (bif (ieq b 16) then (ile 97 c) else false) then (ile c 102) else false) with
    | true =>
      simp only [band_t, ile_t] at h2
      simp only [cond_true, Option.map, Option.getD, isub, iadd]
      rw [wr_u8 (by omega) (by omega), wr_i64 (n := c - 97) (by omega) (by omega), wr_i64 (by omega) (by omega)]
      omega
    | false => simp only [cond_false, Option.map, Option.getD]; omega
theorem number_loop (s : ByteArray) (hs : s.size ≤ 4611686018427387904) (b f : Int) (hb : b = 10 ∨ b = 16) (hf : 0 ≤ f) (hf2 : f ≤ slen s) :
    Ends (fun n => iter (ref16_number_L5f n) n ((s, (0 : Int), (0 : Int), b, f, f, (0 : Int), ()), ())) (fun z => z.2.1.1 = s ∧ z.2.1.2.2.2.2.1 = f ∧ 0 ≤ z.2.1.2.2.2.2.2.1 ∧ z.2.1.2.2.2.2.2.1 ≤ slen s ∧ 0 ≤ z.2.1.2.2.2.2.2.2.1) := by
  refine Ends.loop (I := fun x => x.1.1 = s ∧ x.1.2.2.2.1 = b ∧ x.1.2.2.2.2.1 = f ∧ 0 ≤ x.1.2.2.2.2.2.1 ∧ x.1.2.2.2.2.2.1 ≤ slen s ∧ 0 ≤ x.1.2.2.2.2.2.2.1 ∧ x.1.2.2.2.2.2.2.1 ≤ 4294967296) (μ := fun x => (slen s - x.1.2.2.2.2.2.1).toNat) ⟨rfl, rfl, rfl, hf, hf2, by simp, by simp⟩ fun x hx => ?_
  obtain ⟨⟨a, x2, x3, bb, ff, n, v, _⟩, _⟩ := x
  obtain ⟨rfl, rfl, rfl, h1, h2, h3, h4⟩ := hx
  dsimp only at *
  simp only [ref16_number_L5f, ref16_number_L5]
  have hv := value_lo (sget a n) bb (sget_lo a n).1 (sget_lo a n).2
  (repeat' (first | (with_reducible refine Ends.ret ?_) | (with_reducible refine Ends.bif (fun h => ?_) (fun h => ?_)) | (with_reducible refine Ends.chk ?_ ?_; · (first | assumption | rfl | (simp only [evs] at * <;> (try simp (disch := omega) only [wr_i64] at *) <;> omega) | (simp (disch := omega) only [wr_i64] at * <;> omega) | omega))))
  · simp only [band_t, ilt_t, ile_t] at h
    have e : wr .i64 (iadd (wr .i64 (imul v bb)) (ref16_value (sget a n) bb)) = v * bb + ref16_value (sget a n) bb := by
      rcases hb with rfl | rfl
      · simp only [imul, iadd]; rw [wr_i64 (n := v * 10) (by omega) (by omega), wr_i64 (by omega) (by omega)]
      · simp only [imul, iadd]; rw [wr_i64 (n := v * 16) (by omega) (by omega), wr_i64 (by omega) (by omega)]
    rw [e]
    have hbb : 0 ≤ bb := by omega
    have e2 : 0 ≤ imin (v * bb + ref16_value (sget a n) bb) 4294967296 ∧ imin (v * bb + ref16_value (sget a n) bb) 4294967296 ≤ 4294967296 := by
      rw [imin_eq]
      have : 0 ≤ v * bb := Int.mul_nonneg h3 hbb
      split <;> omega
    have e3 : wr .i64 (iadd n 1) = n + 1 := by unfold slen at *; simp only [iadd]; exact wr_i64 (by omega) (by omega)
    rw [e3]
    exact ⟨⟨rfl, rfl, rfl, by dsimp only; omega, by dsimp only; omega, e2.1, e2.2⟩, by dsimp only; omega⟩
  · exact ⟨rfl, rfl, h1, h2, h3⟩
theorem number_ends (s : ByteArray) (hs : s.size ≤ 4611686018427387904) : Ends (fun n => ref16_numbero n s) (fun r => 0 ≤ r.1.1 ∧ r.1.1 ≤ slen s ∧ 0 ≤ r.1.2.1 ∧ r.1.2.1 < 4294967296) := by
  unfold ref16_numbero
  refine Ends.chk (by (first | assumption | rfl | (simp only [evs] at * <;> (try simp (disch := omega) only [wr_i64] at *) <;> omega) | (simp (disch := omega) only [wr_i64] at * <;> omega) | omega)) (Ends.bif (fun h => ?_) (fun h => ?_))
  · simp only [band_t, ilt_t] at h
    refine Ends.bind (number_loop s hs 16 2 (.inr rfl) (by simp) (by omega)) fun z hz => ?_
    obtain ⟨e1, e2, h1, h2, h3⟩ := hz
    rw [e1, e2]
    (repeat' (first | (with_reducible refine Ends.ret ?_) | (with_reducible refine Ends.bif (fun h => ?_) (fun h => ?_)) | (with_reducible refine Ends.chk ?_ ?_; · (first | assumption | rfl | (simp only [evs] at * <;> (try simp (disch := omega) only [wr_i64] at *) <;> omega) | (simp (disch := omega) only [wr_i64] at * <;> omega) | omega))))
    · exact ⟨by simp, by simp [slen], by simp, by simp⟩
    · simp only [evs] at h
      exact ⟨by (first | assumption | rfl | (simp only [evs] at * <;> (try simp (disch := omega) only [wr_i64] at *) <;> omega) | (simp (disch := omega) only [wr_i64] at * <;> omega) | omega), by (first | assumption | rfl | (simp only [evs] at * <;> (try simp (disch := omega) only [wr_i64] at *) <;> omega) | (simp (disch := omega) only [wr_i64] at * <;> omega) | omega), by (first | assumption | rfl | (simp only [evs] at * <;> (try simp (disch := omega) only [wr_i64] at *) <;> omega) | (simp (disch := omega) only [wr_i64] at * <;> omega) | omega), by dsimp only; omega⟩
  · refine Ends.bind (number_loop s hs 10 0 (.inl rfl) (by simp) (by simp [slen])) fun z hz => ?_
    obtain ⟨e1, e2, h1, h2, h3⟩ := hz
    rw [e1, e2]
    (repeat' (first | (with_reducible refine Ends.ret ?_) | (with_reducible refine Ends.bif (fun h => ?_) (fun h => ?_)) | (with_reducible refine Ends.chk ?_ ?_; · (first | assumption | rfl | (simp only [evs] at * <;> (try simp (disch := omega) only [wr_i64] at *) <;> omega) | (simp (disch := omega) only [wr_i64] at * <;> omega) | omega))))
    · exact ⟨by simp, by simp [slen], by simp, by simp⟩
    · simp only [evs] at h
      exact ⟨by (first | assumption | rfl | (simp only [evs] at * <;> (try simp (disch := omega) only [wr_i64] at *) <;> omega) | (simp (disch := omega) only [wr_i64] at * <;> omega) | omega), by (first | assumption | rfl | (simp only [evs] at * <;> (try simp (disch := omega) only [wr_i64] at *) <;> omega) | (simp (disch := omega) only [wr_i64] at * <;> omega) | omega), by (first | assumption | rfl | (simp only [evs] at * <;> (try simp (disch := omega) only [wr_i64] at *) <;> omega) | (simp (disch := omega) only [wr_i64] at * <;> omega) | omega), by dsimp only; omega⟩
theorem sign_ends (s : ByteArray) (hs : s.size ≤ 4611686018427387904) (h0 : 0 < slen s) : Ends (fun n => ref16_signo n s) (fun r => 0 ≤ r.1 ∧ r.1 ≤ slen s) := by
  unfold ref16_signo
  refine Ends.chk (by (first | assumption | rfl | (simp only [evs] at * <;> (try simp (disch := omega) only [wr_i64] at *) <;> omega) | (simp (disch := omega) only [wr_i64] at * <;> omega) | omega)) (Ends.chk (by (first | assumption | rfl | (simp only [evs] at * <;> (try simp (disch := omega) only [wr_i64] at *) <;> omega) | (simp (disch := omega) only [wr_i64] at * <;> omega) | omega)) (Ends.bif (fun h => Ends.ret ?_) (fun h => ?_)))
  · simp only [band_t, ilt_t] at h
    exact ⟨by simp, by dsimp only; omega⟩
  · clear h
    refine Ends.bind (R := fun z => z.2.1.2.1 = 0 ∨ z.2.1.2.1 = 1) (Ends.loop (I := fun x => x.1.1 = s ∧ x.1.2.1 = 0 ∧ x.1.2.2.1 = ⟨#[44, 58, 35, 91, 93, 123, 125, 33, 61, 40, 41, 43, 45, 42, 38, 124, 126]⟩ ∧ 0 ≤ x.1.2.2.2.1 ∧ x.1.2.2.2.1 ≤ 17) (μ := fun x => (17 - x.1.2.2.2.1).toNat) ⟨rfl, rfl, rfl, by simp, by simp⟩ fun x hx => ?_) fun z hz => ?_
    · obtain ⟨⟨a, b, c, i, _⟩, _⟩ := x
      obtain ⟨rfl, rfl, rfl, h1, h2⟩ := hx
      dsimp only at h1 h2
      simp only [ref16_sign_L5f, ref16_sign_L5]
      have e : slen (⟨#[44, 58, 35, 91, 93, 123, 125, 33, 61, 40, 41, 43, 45, 42, 38, 124, 126]⟩ : ByteArray) = 17 := rfl
      rw [e]
      (repeat' (first | (with_reducible refine Ends.ret ?_) | (with_reducible refine Ends.bif (fun h => ?_) (fun h => ?_)) | (with_reducible refine Ends.chk ?_ ?_; · (first | assumption | rfl | (simp only [evs] at * <;> (try simp (disch := omega) only [wr_i64] at *) <;> omega) | (simp (disch := omega) only [wr_i64] at * <;> omega) | omega))))
      · exact .inr rfl
      · have h9 : i < 17 := by (first | assumption | rfl | (simp only [evs] at * <;> (try simp (disch := omega) only [wr_i64] at *) <;> omega) | (simp (disch := omega) only [wr_i64] at * <;> omega) | omega)
        have e3 : wr .i64 (iadd i 1) = i + 1 := by simp only [iadd]; exact wr_i64 (by omega) (by omega)
        rw [e3]
        exact ⟨⟨rfl, rfl, rfl, by (first | omega | (dsimp only at *; omega)), by (first | omega | (dsimp only at *; omega))⟩, by (first | omega | (dsimp only at *; omega))⟩
      · exact .inl rfl
    · (repeat' (first | (with_reducible refine Ends.ret ?_) | (with_reducible refine Ends.bif (fun h => ?_) (fun h => ?_)) | (with_reducible refine Ends.chk ?_ ?_; · (first | assumption | rfl | (simp only [evs] at * <;> (try simp (disch := omega) only [wr_i64] at *) <;> omega) | (simp (disch := omega) only [wr_i64] at * <;> omega) | omega))))
      · exact ⟨by simp, by (first | omega | (dsimp only at *; omega))⟩
      · rcases hz with hz | hz <;> rw [hz] <;> exact ⟨by simp, by (first | omega | (dsimp only at *; omega))⟩
def TokOK (t : GTok) : Prop := t.text.size ≤ 256 ∧ 0 ≤ t.n ∧ t.n < 4294967296
theorem mem_snoc {α : Type} {P : α → Prop} {l : List α} {x : α} (h : ∀ y ∈ l, P y) (hx : P x) : ∀ y ∈ l ++ [x], P y := by
  intro y hy
  rw [List.mem_append] at hy
  rcases hy with hy | hy
  · exact h y hy
  · simp at hy; subst hy; exact hx
theorem len_snoc (l : List GTok) (t : GTok) (k : Int) (h : (l.length : Int) + 1 ≤ k) : ((@xapp .tok l [t] : List GTok).length : Int) ≤ k := by
  show ((l ++ [t]).length : Int) ≤ k
  rw [List.length_append]; simp only [List.length_cons, List.length_nil]; omega
theorem Line_ends (s : ByteArray) : Ends (fun n => ref16_Lineo n s) (fun r => (∀ t ∈ r.1.1, TokOK t) ∧ r.1.1.length ≤ 256) := by
  unfold ref16_Lineo
  refine Ends.bif (fun h => Ends.ret ⟨by simp, by simp⟩) (fun h => ?_)
  have hs : slen s ≤ 256 := by (first | assumption | rfl | (simp only [evs] at * <;> (try simp (disch := omega) only [wr_i64] at *) <;> omega) | (simp (disch := omega) only [wr_i64] at * <;> omega) | omega)
  clear h
  have hs2 : s.size ≤ 256 := by unfold slen at hs; omega
  refine Ends.bind (R := fun z => (∀ t ∈ z.2.1.2.2.2.1, TokOK t) ∧ z.2.1.2.2.2.1.length ≤ 256 ∧ (z.1 ≠ 0 → z.2.1.2.1 = [])) (Ends.loop (I := fun x => x.1.1 = s ∧ (∀ t ∈ x.1.2.2.2.1, TokOK t) ∧ (x.1.2.2.2.1.length : Int) ≤ x.1.2.2.2.2.1 ∧ 0 ≤ x.1.2.2.2.2.1 ∧ x.1.2.2.2.2.1 ≤ slen s) (μ := fun x => (slen s - x.1.2.2.2.2.1).toNat) ⟨rfl, by simp, by simp, by simp, by simp [slen]⟩ fun x hx => ?_) fun z hz => ?_
  · obtain ⟨⟨a, b, c, l, i, _⟩, _⟩ := x
    obtain ⟨rfl, hl, hll, h1, h2⟩ := hx
    dsimp only at *
    simp only [ref16_Line_L5f, ref16_Line_L5]
    refine Ends.bif (fun h => ?_) (fun h => Ends.ret ⟨hl, by (first | omega | (dsimp only at *; omega)), by simp⟩)
    rw [ilt_t] at h
    have hc : slen (scut a i (slen a)) = slen a - i := slen_scut a h1 (by omega) (by omega)
    have hcs : (scut a i (slen a)).size ≤ 256 := by have e : ((scut a i (slen a)).size : Int) = slen a - i := hc; omega
    refine Ends.chk (by (first | assumption | rfl | (simp only [evs] at * <;> (try simp (disch := omega) only [wr_i64] at *) <;> omega) | (simp (disch := omega) only [wr_i64] at * <;> omega) | omega)) (Ends.chk (by rw [hc]; (first | assumption | rfl | (simp only [evs] at * <;> (try simp (disch := omega) only [wr_i64] at *) <;> omega) | (simp (disch := omega) only [wr_i64] at * <;> omega) | omega)) ?_)
    generalize scut a i (slen a) = t at hc hcs
    have e1 : wr .i64 (iadd i 1) = i + 1 := by simp only [iadd]; exact wr_i64 (by omega) (by omega)
    have tok : ∀ (k v m : Int), 0 ≤ m → m ≤ slen t → 0 ≤ v → v < 4294967296 → TokOK ⟨k, v, scut t 0 m⟩ := fun k v m h3 h4 h5 h6 => ⟨by
      rw [size_scut t (by omega) h3 h4]; unfold slen at h4; omega, h5, h6⟩
    refine Ends.bif (fun _ => Ends.ret ?_) (fun _ => Ends.bif (fun _ => Ends.ret ?_) (fun _ => Ends.bif (fun hlet => ?_) (fun _ => Ends.bif (fun _ => ?_) (fun _ => ?_))))
    · rw [e1]
      exact ⟨⟨rfl, hl, by (first | omega | (dsimp only at *; omega)), by (first | omega | (dsimp only at *; omega)), by (first | omega | (dsimp only at *; omega))⟩, by (first | omega | (dsimp only at *; omega))⟩
    · exact ⟨⟨rfl, hl, by (first | omega | (dsimp only at *; omega)), by (first | omega | (dsimp only at *; omega)), by (first | omega | (dsimp only at *; omega))⟩, by (first | omega | (dsimp only at *; omega))⟩
    · refine Ends.bind (run_ends t (by omega)) fun y hy => ?_
      obtain ⟨y, u⟩ := y
      dsimp only at *
      have hy3 := hy.2.2 (by omega) hlet
      refine Ends.bif (fun h => Ends.ret ⟨hl, by (first | omega | (dsimp only at *; omega)), fun _ => rfl⟩) (fun h => Ends.chk (by (first | assumption | rfl | (simp only [evs] at * <;> (try simp (disch := omega) only [wr_i64] at *) <;> omega) | (simp (disch := omega) only [wr_i64] at * <;> omega) | omega)) (Ends.chk ?_ (Ends.ret ?_)))
      · show room (l.length + 1) 32 = true
        rw [room_t]; omega
      · have e2 : wr .i64 (iadd i y) = i + y := by simp only [iadd]; exact wr_i64 (by omega) (by omega)
        rw [e2]
        refine ⟨⟨rfl, mem_snoc hl (tok 1 0 y hy.1 hy.2.1 (by simp) (by simp)), ?_, by (first | omega | (dsimp only at *; omega)), by (first | omega | (dsimp only at *; omega))⟩, by (first | omega | (dsimp only at *; omega))⟩
        exact len_snoc l _ _ (by (first | omega | (dsimp only at *; omega)))
    · refine Ends.bind (number_ends t (by omega)) fun y hy => ?_
      obtain ⟨⟨y, v, _⟩, u⟩ := y
      dsimp only at *
      refine Ends.bif (fun h => Ends.ret ⟨hl, by (first | omega | (dsimp only at *; omega)), fun _ => rfl⟩) (fun h => Ends.chk ?_ (Ends.ret ?_))
      · show room (l.length + 1) 32 = true
        rw [room_t]; omega
      · rw [ieq_f] at h
        have e2 : wr .i64 (iadd i y) = i + y := by simp only [iadd]; exact wr_i64 (by omega) (by omega)
        rw [e2]
        refine ⟨⟨rfl, mem_snoc hl ⟨by simp [ByteArray.size], hy.2.2.1, hy.2.2.2⟩, ?_, by (first | omega | (dsimp only at *; omega)), by (first | omega | (dsimp only at *; omega))⟩, by (first | omega | (dsimp only at *; omega))⟩
        exact len_snoc l _ _ (by (first | omega | (dsimp only at *; omega)))
    · refine Ends.bind (sign_ends t (by omega) (by omega)) fun y hy => ?_
      obtain ⟨y, u⟩ := y
      dsimp only at *
      refine Ends.bif (fun h => Ends.ret ⟨hl, by (first | omega | (dsimp only at *; omega)), fun _ => rfl⟩) (fun h => Ends.chk (by (first | assumption | rfl | (simp only [evs] at * <;> (try simp (disch := omega) only [wr_i64] at *) <;> omega) | (simp (disch := omega) only [wr_i64] at * <;> omega) | omega)) (Ends.chk ?_ (Ends.ret ?_)))
      · show room (l.length + 1) 32 = true
        rw [room_t]; omega
      · rw [ieq_f] at h
        have e2 : wr .i64 (iadd i y) = i + y := by simp only [iadd]; exact wr_i64 (by omega) (by omega)
        rw [e2]
        refine ⟨⟨rfl, mem_snoc hl (tok 3 0 y hy.1 hy.2 (by simp) (by simp)), ?_, by (first | omega | (dsimp only at *; omega)), by (first | omega | (dsimp only at *; omega))⟩, by (first | omega | (dsimp only at *; omega))⟩
        exact len_snoc l _ _ (by (first | omega | (dsimp only at *; omega)))
  · refine Ends.bif (fun h => Ends.ret ⟨hz.1, hz.2.1⟩) (fun h => Ends.ret ?_)
    have hz1 : z.1 ≠ 0 := fun e => by rw [e] at h; cases h
    rw [hz.2.2 hz1]
    exact ⟨by simp, by simp⟩
theorem Digits_ends (n : Int) (h0 : 0 ≤ n) (h1 : n ≤ 9223372036854775807) : Ends (fun k => ref16_Digitso k n) (fun r => r.1.size ≤ 20 ∧ 0 < r.1.size) := by
  unfold ref16_Digitso
  have h19 : n < (10 : Int) ^ 19 := by
    have : (10 : Int) ^ 19 = 10000000000000000000 := by decide
    rw [this]; omega
  have cut : ∀ m : Int, 0 ≤ m → m < 10 → (scut (⟨#[48, 49, 50, 51, 52, 53, 54, 55, 56, 57]⟩ : ByteArray) m (m + 1)).size = 1 := fun m h3 h4 => by
    rw [size_scut _ h3 (by omega) (by show m + 1 ≤ 10; omega)]; omega
  refine Ends.bind (R := fun z => 0 ≤ z.2.1.1 ∧ z.2.1.1 < 10 ∧ z.2.1.2.2.1.size ≤ 18) (Ends.loop (I := fun x => ∃ k : Nat, x.1.1 < 10 ^ k ∧ x.1.2.2.1.size + k ≤ 19 ∧ 0 ≤ x.1.1 ∧ x.1.1 ≤ 9223372036854775807 ∧ 1 ≤ k) (μ := fun x => x.1.1.toNat) ⟨19, h19, by simp [ByteArray.size], h0, h1, by simp⟩ fun x hx => ?_) fun z hz => ?_
  · obtain ⟨⟨a, b, c, _⟩, _⟩ := x
    obtain ⟨k, h2, h3, h4, h5, h6⟩ := hx
    dsimp only at *
    simp only [ref16_Digits_L2f, ref16_Digits_L2]
    refine Ends.bif (fun h => ?_) (fun h => Ends.ret ?_)
    · rw [ile_t] at h
      have hr : wrem a 10 = a % 10 := wrem_pos h4 (by omega)
      have hq : wquo .i64 a 10 = a / 10 := wquo_i64 h4 h5 (by omega)
      have e1 : wr .i64 (iadd (wrem a 10) 1) = a % 10 + 1 := by rw [hr]; simp only [iadd]; exact wr_i64 (by omega) (by omega)
      rw [e1, hr, hq]
      have hs := cut (a % 10) (by omega) (by omega)
      refine Ends.chk (bounds_t.2 ⟨by omega, by omega, by show a % 10 + 1 ≤ 10; omega⟩) (Ends.chk (sroom_t.2 (by omega)) (Ends.ret ?_))
      refine ⟨⟨k - 1, ?_, ?_, by (first | omega | (dsimp only at *; omega)), by (first | omega | (dsimp only at *; omega)), ?_⟩, by (first | omega | (dsimp only at *; omega))⟩
      · obtain ⟨j, rfl⟩ : ∃ j, k = j + 1 := ⟨k - 1, by omega⟩
        rw [Int.pow_succ] at h2
        simp only [Nat.add_sub_cancel]
        generalize (10 : Int) ^ j = p at *
        omega
      · simp only [size_scat]; omega
      · rcases Nat.lt_or_ge 1 k with h7 | h7
        · omega
        · have : k = 1 := by omega
          subst this
          simp at h2
          omega
    · rw [ile_f] at h
      exact ⟨h4, h, by (first | omega | (dsimp only at *; omega))⟩
  · obtain ⟨h2, h3, h4⟩ := hz
    have e1 : wr .i64 (iadd z.2.1.1 1) = z.2.1.1 + 1 := by simp only [iadd]; exact wr_i64 (by omega) (by omega)
    rw [e1]
    have hs := cut z.2.1.1 h2 h3
    refine Ends.chk (bounds_t.2 ⟨by omega, by omega, by show z.2.1.1 + 1 ≤ 10; omega⟩) (Ends.chk (sroom_t.2 (by omega)) (Ends.ret ?_))
    simp only [size_scat]; omega
end Go.Ev.Tryz
namespace Go.Ev.Tryz
open Go Go.Ev
theorem gx (e : GExpr) : GExpr.mk e.op e.n e.name e.args = e := by cases e; rfl
def FormOK (e : GExpr) : Prop := (e.op = 1 ∧ 0 ≤ e.n ∧ e.n < 4294967296) ∨ (e.op = 2 ∧ e.name.size ≤ 32) ∨ ((e.op = 3 ∨ e.op = 4) ∧ e.args.length = 1) ∨ (5 ≤ e.op ∧ e.op ≤ 11 ∧ e.args.length = 2)
theorem form_ends (e : GExpr) : Ends (fun n => ref17_formo n e) (fun r => r.1 = true → FormOK e) := by
  unfold ref17_formo
  have hx : iof (@xlen .expr e.args) = (e.args.length : Int) := rfl
  rw [hx]
  refine Ends.bif (fun h1 => Ends.ret fun h => ?_) (fun h1 => Ends.bif (fun h2 => ?_) (fun h2 => Ends.bif (fun h3 => Ends.ret fun h => ?_) (fun h3 => Ends.ret fun h => ?_)))
  · simp only [evs] at h1 h
    exact .inl ⟨h1, h.1.2, h.2⟩
  · refine Ends.bind (R := fun y => y.1 = true → e.name.size ≤ 32 ∨ (bif ieq (e.args.length : Int) 0 then ieq e.n 0 else false) = false) (Ends.bif (fun h => (Name_ends e.name).mono fun r hr h' => .inl (hr h').2) (fun h => Ends.ret fun _ => .inr h)) fun y hy => Ends.ret fun h => ?_
    simp only [evs] at h2 h hy
    rcases hy h.2 with h5 | h5
    · exact .inr (.inl ⟨h2, h5⟩)
    · omega
  · simp only [evs] at h3 h
    exact .inr (.inr (.inl ⟨h3, by omega⟩))
  · simp only [evs] at h
    exact .inr (.inr (.inr ⟨h.1.1.1.1, h.1.1.1.2, by omega⟩))
def MayE : Nat → GExpr → Prop
  | 0, _ => False
  | d + 1, e => FormOK e ∧ ∀ x ∈ e.args, MayE d x
theorem xget_mem {t : Ty} {xs : List (T t)} {i : Int} (h : inside i (iof (xlen xs)) = true) : xget xs i.toNat ∈ xs := by
  rw [inside_t] at h
  have hl : i.toNat < xs.length := by
    have h2 : i < (xs.length : Int) := h.2
    omega
  unfold xget
  simp only [List.getD, List.getElem?_eq_getElem hl, Option.getD_some]
  exact List.getElem_mem hl
theorem take_step {t : Ty} {ar : List (T t)} {k : Nat} (h : k < ar.length) {u : T t} (hu : u ∈ ar.take (k + 1)) : u ∈ ar.take k ∨ u = xget ar k := by
  rw [List.take_add_one, List.mem_append] at hu
  rcases hu with hu | hu
  · exact .inl hu
  · rw [List.getElem?_eq_getElem h] at hu
    simp at hu
    right
    unfold xget
    simp [List.getD, List.getElem?_eq_getElem h, hu]
theorem parts_ends : ∀ (d : Nat) (e : GExpr) (deep left : Int), deep.toNat ≤ d → deep ≤ 16 → 0 ≤ left → left ≤ 1000 → WfE e → Ends (fun n => ref17_partso n e deep left) (fun r => -1 ≤ r.1 ∧ r.1 ≤ 1000 ∧ (0 ≤ r.1 → MayE deep.toNat e)) := by
  intro d
  induction d with
  | zero =>
    intro e deep left hd h16 hl0 hl1 hw
    refine Ends.succ (g := fun n => ref17_partsB n (ref17_partso n) e deep left) (fun n => rfl) ?_
    unfold ref17_partsB
    have hdeep : ilt deep 1 = true := ilt_t.2 (by omega)
    simp only [hdeep, cond_true, bNot, Bool.not_true, cond_false]
    refine Ends.bind (R := fun _ => True) (Ends.ret trivial) fun _ _ => Ends.ret ⟨by simp, by simp, fun h => by simp at h⟩
  | succ d ih =>
    intro e deep left hd h16 hl0 hl1 hw
    refine Ends.succ (g := fun n => ref17_partsB n (ref17_partso n) e deep left) (fun n => rfl) ?_
    unfold ref17_partsB
    rw [gx]
    have e1 : wr .i64 (isub left 1) = left - 1 := by simp only [isub]; exact wr_i64 (by omega) (by omega)
    rw [e1]
    refine Ends.bind (R := fun y => (bif ilt deep 1 then true else ilt (left - 1) 0) = false → y.1 = true → FormOK e) (Ends.bif (fun h => (form_ends e).mono fun r hr _ => hr) (fun h => Ends.ret fun h' => ?_)) fun y hy => ?_
    · rw [bNot_f] at h; rw [h] at h'; cases h'
    · refine Ends.bif (fun h => Ends.ret ⟨by simp, by simp, fun h => by simp at h⟩) (fun h => ?_)
      rw [bor_f, bNot_f] at h
      have hform := hy h.1 h.2
      have hc : 1 ≤ deep ∧ 0 ≤ left - 1 := by have := h.1; (first | assumption | rfl | (simp only [evs] at * <;> (try simp (disch := omega) only [wr_i64] at *) <;> omega) | (simp (disch := omega) only [wr_i64] at * <;> omega) | omega)
      cases hw with
      | mk op en name args w1 w2 w3 w4 w5 =>
      refine Ends.bind (R := fun z => -1 ≤ z.2.1.2.1 ∧ z.2.1.2.1 ≤ 1000 ∧ (0 ≤ z.2.1.2.1 → ∀ x ∈ args, MayE (deep.toNat - 1) x)) (Ends.loop (I := fun x => x.1.1 = deep ∧ -1 ≤ x.1.2.1 ∧ x.1.2.1 ≤ 1000 ∧ x.2.1.2.2.2.1 = args ∧ 0 ≤ x.1.2.2.2.2.1 ∧ x.1.2.2.2.2.1 ≤ (args.length : Int) ∧ (0 ≤ x.1.2.1 → ∀ y ∈ args.take x.1.2.2.2.2.1.toNat, MayE (deep.toNat - 1) y)) (μ := fun x => ((args.length : Int) - x.1.2.2.2.2.1).toNat) ⟨rfl, by (first | omega | (dsimp only at *; omega)), by (first | omega | (dsimp only at *; omega)), rfl, by simp, by simp, fun _ y hy => by simp at hy⟩ fun x hx => ?_) fun z hz => Ends.ret ⟨hz.1, hz.2.1, fun h0 => ?_⟩
      · obtain ⟨⟨dp, lf, x3, x4, i, _⟩, ⟨⟨o1, o2, o3, ar, _⟩, _⟩⟩ := x
        obtain ⟨rfl, g1, g2, rfl, g4, g5, g6⟩ := hx
        dsimp only at *
        simp only [ref17_parts_L5f, ref17_parts_L5]
        refine Ends.bif (fun h => ?_) (fun h => Ends.ret ⟨g1, g2, fun h0 => ?_⟩)
        · have hi : i < (ar.length : Int) ∧ 0 ≤ lf := by
            simp only [band_t, ilt_t, ile_t] at h; exact h
          have hin : inside i (iof (@xlen .expr ar)) = true := inside_t.2 ⟨g4, hi.1⟩
          refine Ends.chk hin ?_
          have hm := xget_mem hin
          rw [gx (@xget .expr ar i.toNat)]
          have e2 : wr .i64 (isub dp 1) = dp - 1 := by simp only [isub]; exact wr_i64 (by omega) (by omega)
          have e3 : wr .i64 (iadd i 1) = i + 1 := by simp only [iadd]; exact wr_i64 (by omega) (by unfold maxLen at w4; omega)
          rw [e2, e3]
          refine Ends.bind (ih (@xget .expr ar i.toNat) (dp - 1) lf (by omega) (by omega) hi.2 g2 (w5 _ hm)) fun y hy => Ends.ret ⟨⟨rfl, hy.1, hy.2.1, rfl, by (first | omega | (dsimp only at *; omega)), by (first | omega | (dsimp only at *; omega)), fun h0 => ?_⟩, by (first | omega | (dsimp only at *; omega))⟩
          intro u hu
          dsimp only at hu
          have et : (i + 1).toNat = i.toNat + 1 := by omega
          rw [et] at hu
          rcases take_step (t := .expr) (ar := ar) (show i.toNat < ar.length by omega) hu with hu | hu
          · exact g6 hi.2 u hu
          · rw [hu]
            have := hy.2.2 h0
            have e4 : (dp - 1).toNat = dp.toNat - 1 := by omega
            rw [e4] at this
            exact this
        · have hi : ¬ (i < (ar.length : Int)) := by
            simp only [band_f, ilt_f, ile_f] at h
            dsimp only at h0
            rcases h with h | h
            · have h' : (ar.length : Int) ≤ i := h
              omega
            · omega
          have := g6 h0
          rw [List.take_of_length_le (by omega)] at this
          exact this
      · have hdd : deep.toNat = (deep.toNat - 1) + 1 := by omega
        rw [hdd]
        exact ⟨hform, hz.2.2 h0⟩
theorem May_ends (e : GExpr) (hw : WfE e) : Ends (fun n => ref17_Mayo n e) (fun r => r.1 = true → MayE 16 e) := by
  unfold ref17_Mayo
  rw [gx]
  refine Ends.bind (parts_ends 16 e 16 1000 (by simp) (by simp) (by simp) (by simp) hw) fun y hy => Ends.ret fun h => ?_
  rw [ile_t] at h
  exact hy.2.2 h
theorem wfE_at {e : GExpr} (h : WfE e) : e.args.length ≤ maxLen ∧ e.name.size ≤ maxLen ∧ ∀ x ∈ e.args, WfE x := by
  cases h with
  | mk op en name args w1 w2 w3 w4 w5 => exact ⟨w4, w3, w5⟩
def most (d : Nat) : Nat := 100 * 3 ^ d
theorem most_succ (d : Nat) : most (d + 1) = 3 * most d := by unfold most; rw [Nat.pow_succ]; omega
theorem most_100 (d : Nat) : 100 ≤ most d := by
  unfold most
  have : 0 < 3 ^ d := Nat.pos_of_ne_zero (by simp)
  omega
theorem sign_size (o : Int) : (ref17_sign o).size ≤ 2 := by
  unfold ref17_sign ref17_signo
  cases ieq o 9 <;> cases ieq o 8 <;> cases ieq o 10 <;> cases ieq o 11 <;> cases ieq o 5 <;> cases ieq o 6 <;> decide
theorem level_lo (o : Int) : 1 ≤ ref17_level o ∧ ref17_level o ≤ 6 := by
  unfold ref17_level ref17_levelo
  cases ieq o 9 <;> cases ieq o 8 <;> cases ieq o 10 <;> cases ieq o 11 <;> cases ieq o 5 <;> cases ieq o 6 <;> cases ieq o 7 <;> decide
theorem part_of {e : GExpr} {least : Int} {b : Nat} (h : Ends (fun n => ref17_texto n e) (fun r => r.1.size ≤ b)) (hb : b ≤ 1000000000000) : Ends (fun n => ref17_parto n e least) (fun r => r.1.size ≤ b + 2) := by
  refine Ends.succ (g := fun n => ref17_partB n (ref17_texto n) (ref17_parto n) e least) (fun n => rfl) ?_
  unfold ref17_partB
  rw [gx]
  refine Ends.bif (fun _ => Ends.bind h fun y hy => ?_) (fun _ => Ends.bind h fun y hy => Ends.ret ?_)
  · have e1 : (⟨#[40]⟩ : ByteArray).size = 1 := rfl
    have e2 : (⟨#[41]⟩ : ByteArray).size = 1 := rfl
    refine Ends.chk (sroom_t.2 (by omega)) (Ends.chk (sroom_t.2 (by rw [size_scat]; omega)) (Ends.ret ?_))
    simp only [size_scat]; omega
  · dsimp only; omega
theorem text_ends : ∀ (d : Nat) (e : GExpr), d ≤ 16 → MayE d e → WfE e → Ends (fun n => ref17_texto n e) (fun r => r.1.size ≤ most d) := by
  intro d
  induction d with
  | zero => intro e _ h; exact h.elim
  | succ d ih =>
    intro e hd hm hw
    obtain ⟨hf, ha⟩ := hm
    refine Ends.succ (g := fun n => ref17_textB n (ref17_texto n) (ref17_parto n) e) (fun n => rfl) ?_
    obtain ⟨w4, w3, w5⟩ := wfE_at hw
    have hb := most_succ d
    have hc := most_100 d
    have h16 : most (d + 1) ≤ 1000000000000 := by
      have : most (d + 1) ≤ most 16 := by
        unfold most
        exact Nat.mul_le_mul_left _ (Nat.pow_le_pow_right (by omega) hd)
      have e16 : most 16 = 4304672100 := by decide
      omega
    have hpart : ∀ (i least : Int), inside i (iof (@xlen .expr e.args)) = true → Ends (fun n => ref17_parto n (@xget .expr e.args i.toNat) least) (fun r => r.1.size ≤ most d + 2) := fun i least hin => by
      have hmem := xget_mem hin
      exact part_of (ih _ (by omega) (ha _ hmem) (w5 _ hmem)) (by omega)
    have hlen : iof (@xlen .expr e.args) = (e.args.length : Int) := rfl
    unfold ref17_textB
    unfold FormOK at hf
    refine Ends.bif (fun h1 => ?_) (fun h1 => Ends.bif (fun h2 => Ends.ret ?_) (fun h2 => Ends.bif (fun h3 => ?_) (fun h3 => Ends.bif (fun h4 => ?_) (fun h4 => ?_))))
    · rw [ieq_t] at h1
      have hn : 0 ≤ e.n ∧ e.n < 4294967296 := by omega
      refine Ends.bind (Digits_ends e.n hn.1 (by omega)) fun y hy => Ends.ret ?_
      have := hy.1
      dsimp only; omega
    · rw [ieq_t] at h2
      dsimp only; omega
    · rw [ieq_t] at h3
      have hin : inside 0 (iof (@xlen .expr e.args)) = true := inside_t.2 ⟨by simp, by rw [hlen]; omega⟩
      refine Ends.chk hin ?_
      dsimp only
      rw [gx (@xget .expr e.args 0)]
      refine Ends.bind (hpart 0 6 hin) fun y hy => ?_
      have e1 : (⟨#[45]⟩ : ByteArray).size = 1 := rfl
      refine Ends.chk (sroom_t.2 (by omega)) (Ends.ret ?_)
      simp only [size_scat]; omega
    · rw [ieq_t] at h4
      have hin : inside 0 (iof (@xlen .expr e.args)) = true := inside_t.2 ⟨by simp, by rw [hlen]; omega⟩
      refine Ends.chk hin ?_
      dsimp only
      rw [gx (@xget .expr e.args 0)]
      refine Ends.bind (hpart 0 6 hin) fun y hy => ?_
      have e1 : (⟨#[126]⟩ : ByteArray).size = 1 := rfl
      refine Ends.chk (sroom_t.2 (by omega)) (Ends.ret ?_)
      simp only [size_scat]; omega
    · rw [ieq_f] at h1 h2 h3 h4
      have hin : inside 0 (iof (@xlen .expr e.args)) = true := inside_t.2 ⟨by simp, by rw [hlen]; omega⟩
      have hin1 : inside 1 (iof (@xlen .expr e.args)) = true := inside_t.2 ⟨by simp, by rw [hlen]; omega⟩
      refine Ends.chk hin ?_
      dsimp only
      rw [gx (@xget .expr e.args 0)]
      refine Ends.bind (hpart 0 _ hin) fun y hy => ?_
      have e1 : (⟨#[32]⟩ : ByteArray).size = 1 := rfl
      have e2 := sign_size e.op
      refine Ends.chk (sroom_t.2 (by omega)) (Ends.chk (sroom_t.2 (by simp only [size_scat]; omega)) (Ends.chk (sroom_t.2 (by simp only [size_scat]; omega)) (Ends.chk hin1 ?_)))
      rw [gx (@xget .expr e.args 1)]
      refine Ends.bind (hpart 1 _ hin1) fun z hz => ?_
      refine Ends.chk (sroom_t.2 (by simp only [size_scat]; omega)) (Ends.ret ?_)
      simp only [size_scat]; omega
theorem Print_ends (e : GExpr) (hw : WfE e) : Ends (fun n => ref17_Printo n e) (fun r => r.1.size ≤ 4304672100) := by
  unfold ref17_Printo
  rw [gx]
  refine Ends.bind (May_ends e hw) fun y hy => Ends.bif (fun _ => Ends.ret (by simp [ByteArray.size])) (fun h => ?_)
  rw [bNot_f] at h
  refine Ends.bind (text_ends 16 e (Nat.le_refl _) (hy h) hw) fun z hz => Ends.ret ?_
  have e : most 16 = 4304672100 := by decide
  dsimp only; omega
end Go.Ev.Tryz
namespace Go.Ev.Tryz
open Go Go.Ev
abbrev RS := (List GTok) × Int × Bool × Unit
def tokAt (l : List GTok) (at_ : Int) : GTok := if 0 ≤ at_ ∧ at_ < (l.length : Int) then @xget .tok l at_.toNat else ⟨0, 0, ⟨#[]⟩⟩
theorem tokAt_in {l : List GTok} {i : Int} (h : 0 ≤ i ∧ i < (l.length : Int)) : tokAt l i = @xget .tok l i.toNat := if_pos h
theorem tokAt_out {l : List GTok} {i : Int} (h : ¬ (0 ≤ i ∧ i < (l.length : Int))) : tokAt l i = ⟨0, 0, ⟨#[]⟩⟩ := if_neg h
theorem T_eq (o : RS) : ref17_R_To () o = some (tokAt o.1 o.2.1, (o, ())) := by
  unfold ref17_R_To
  have hx : iof (@xlen .tok o.1) = (o.1.length : Int) := rfl
  rw [hx]
  by_cases h : 0 ≤ o.2.1 ∧ o.2.1 < (o.1.length : Int)
  · have h1 : (bif ilt o.2.1 0 then true else ile (o.1.length : Int) o.2.1) = false := by
      rw [bor_f, ilt_f, ile_f]; exact h
    rw [h1, tokAt_in h]
    have h2 : inside o.2.1 (o.1.length : Int) = true := inside_t.2 h
    simp only [cond_false, h2]
    rfl
  · have h1 : (bif ilt o.2.1 0 then true else ile (o.1.length : Int) o.2.1) = true := by
      rw [bor_t, ilt_t, ile_t]; omega
    rw [h1, tokAt_out h]
    rfl
def isAt (o : RS) (s : ByteArray) : Bool := bif (bif (bNot o.2.2.1) then (ieq (tokAt o.1 o.2.1).kind 3) else false) then (strEq (tokAt o.1 o.2.1).text s) else false
theorem Is_eq (s : ByteArray) (o : RS) : ref17_R_Iso () s o = some (isAt o s, (o, ())) := by
  unfold ref17_R_Iso
  rw [T_eq]
  rfl
theorem isAt_lt {o : RS} {s : ByteArray} (h : isAt o s = true) : 0 ≤ o.2.1 ∧ o.2.1 < (o.1.length : Int) ∧ o.2.2.1 = false := by
  unfold isAt at h
  simp only [band_t, bNot_t] at h
  have hin : 0 ≤ o.2.1 ∧ o.2.1 < (o.1.length : Int) := by
    by_cases hi : 0 ≤ o.2.1 ∧ o.2.1 < (o.1.length : Int)
    · exact hi
    · have := h.1.2
      rw [tokAt_out hi] at this
      cases this
  exact ⟨hin.1, hin.2, h.1.1⟩
theorem Take_eq (s : ByteArray) (o : RS) : ref17_R_Takeo () s o = some (isAt o s, ((o.1, (bif isAt o s then wr .i64 (iadd o.2.1 1) else o.2.1), o.2.2.1, ()), ())) := by
  unfold ref17_R_Takeo
  rw [Is_eq]
  dsimp only [Option.bind]
  cases isAt o s <;> rfl
theorem Must_eq (s : ByteArray) (o : RS) : ref17_R_Musto () s o = some ((), ((o.1, (bif isAt o s then wr .i64 (iadd o.2.1 1) else o.2.1), (bif isAt o s then o.2.2.1 else true), ()), ())) := by
  unfold ref17_R_Musto
  rw [Take_eq]
  dsimp only [Option.bind]
  cases isAt o s <;> rfl
theorem op_ends (k : Int) (o : RS) : Ends (fun _ : Nat => ref17_R_opo () k o) (fun y => y.2 = (o, ()) ∧ 0 ≤ y.1 ∧ y.1 ≤ 11 ∧ (y.1 ≠ 0 → 0 ≤ o.2.1 ∧ o.2.1 < (o.1.length : Int) ∧ o.2.2.1 = false)) := by
  unfold ref17_R_opo
  have st : ∀ (c : Bool) (s : ByteArray), Ends (fun _ : Nat => (bif c then ref17_R_Iso () s (o.1, o.2.1, o.2.2.1, ()) else (some (dfS (.ty .b), dfObs [(.box [(.ty (.sl .tok)), (.ty (.i .i64)), (.ty .b)])])))) (fun y => (bif c then y.1 else false) = true → 0 ≤ o.2.1 ∧ o.2.1 < (o.1.length : Int) ∧ o.2.2.1 = false) := by
    intro c s
    cases c with
    | false => exact Ends.ret fun h => by cases h
    | true => exact Ends.of ⟨_, Is_eq s o, fun h => isAt_lt h⟩
  refine Ends.bind (st _ _) fun y1 h1 => Ends.bif (fun h => Ends.ret ⟨rfl, by simp, by simp, fun _ => h1 h⟩) fun _ => ?_
  refine Ends.bind (st _ _) fun y2 h2 => Ends.bif (fun h => Ends.ret ⟨rfl, by simp, by simp, fun _ => h2 h⟩) fun _ => ?_
  refine Ends.bind (st _ _) fun y3 h3 => Ends.bif (fun h => Ends.ret ⟨rfl, by simp, by simp, fun _ => h3 h⟩) fun _ => ?_
  refine Ends.bind (st _ _) fun y4 h4 => Ends.bif (fun h => Ends.ret ⟨rfl, by simp, by simp, fun _ => h4 h⟩) fun _ => ?_
  refine Ends.bind (st _ _) fun y5 h5 => Ends.bif (fun h => Ends.ret ⟨rfl, by simp, by simp, fun _ => h5 h⟩) fun _ => ?_
  refine Ends.bind (st _ _) fun y6 h6 => Ends.bif (fun h => Ends.ret ⟨rfl, by simp, by simp, fun _ => h6 h⟩) fun _ => ?_
  refine Ends.bind (st _ _) fun y7 h7 => Ends.bif (fun h => Ends.ret ⟨rfl, by simp, by simp, fun _ => h7 h⟩) fun _ => Ends.ret ⟨rfl, by simp, by simp, fun h => absurd rfl h⟩
def RPost (o : RS) (y : GExpr × (RS × Unit)) : Prop := WfE y.1 ∧ y.2.1.1 = o.1 ∧ o.2.1 ≤ y.2.1.2.1 ∧ y.2.1.2.1 ≤ 1000
def ROK (o : RS) : Prop := 0 ≤ o.2.1 ∧ o.2.1 ≤ 1000 ∧ o.1.length ≤ 256 ∧ ∀ t ∈ o.1, TokOK t
theorem wfE_mk {op en : Int} {name : ByteArray} {args : List GExpr} (h1 : 0 ≤ op) (h2 : op ≤ 11) (h3 : 0 ≤ en) (h4 : en < 4294967296) (h5 : name.size ≤ 256) (h6 : args.length ≤ 2) (h7 : ∀ e ∈ args, WfE e) : WfE (.mk op en name args) := by
  have e1 : IntKind.min .i64 = -9223372036854775808 := by decide
  have e2 : IntKind.max .i64 = 9223372036854775807 := by decide
  refine .mk op en name args ⟨by rw [e1]; omega, by rw [e2]; omega⟩ ⟨by rw [e1]; omega, by rw [e2]; omega⟩ (by unfold maxLen; omega) (by unfold maxLen; omega) h7
theorem tokAt_ok {o : RS} (h : ROK o) (i : Int) : TokOK (tokAt o.1 i) := by
  by_cases hi : 0 ≤ i ∧ i < (o.1.length : Int)
  · rw [tokAt_in hi]
    exact h.2.2.2 _ (@xget_mem .tok o.1 i (inside_t.2 hi))
  · rw [tokAt_out hi]
    exact ⟨by simp [ByteArray.size], by simp, by simp⟩
theorem reader_ends : ∀ (m : Nat),
    (∀ (o : RS), ROK o → 8 * ((o.1.length : Int) - o.2.1).toNat ≤ m → Ends (fun n => ref17_R_unaryo n () o) (RPost o)) ∧
    (∀ (k : Int) (o : RS), ROK o → 1 ≤ k → k ≤ 6 → 8 * ((o.1.length : Int) - o.2.1).toNat + (7 - k).toNat ≤ m → Ends (fun n => ref17_R_termo n () k o) (RPost o)) := by
  intro m
  induction m using Nat.strongRecOn with
  | _ m ih =>
  refine ⟨fun o ho hm => ?_, fun k o ho hk1 hk6 hm => ?_⟩
  · refine Ends.succ (g := fun n => ref17_R_unaryB n (ref17_R_termo n) (ref17_R_unaryo n) () o) (fun n => rfl) ?_
    unfold ref17_R_unaryB
    have e : (o.1, o.2.1, o.2.2.1, ()) = o := rfl
    have next : ∀ s, isAt o s = true → ROK (o.1, wr .i64 (iadd o.2.1 1), o.2.2.1, ()) ∧ wr .i64 (iadd o.2.1 1) = o.2.1 + 1 ∧ 8 * ((o.1.length : Int) - (o.2.1 + 1)).toNat + 8 ≤ m ∧ (o.1.length : Int) ≤ 256 ∧ o.2.1 < o.1.length := by
      intro s hs
      have h1 := isAt_lt hs
      have h2 := ho.2.2.1
      have e1 : wr .i64 (iadd o.2.1 1) = o.2.1 + 1 := by simp only [iadd]; exact wr_i64 (by omega) (by omega)
      refine ⟨⟨by rw [e1]; (first | omega | (dsimp only at *; omega)), by rw [e1]; (first | omega | (dsimp only at *; omega)), ho.2.2⟩, e1, by omega, by omega, h1.2.1⟩
    refine Ends.bind (R := fun y => y = (isAt o ⟨#[45]⟩, ((o.1, (bif isAt o ⟨#[45]⟩ then wr .i64 (iadd o.2.1 1) else o.2.1), o.2.2.1, ()), ()))) (Ends.of ⟨_, Take_eq _ o, rfl⟩) fun y1 hy1 => ?_
    subst hy1
    cases h1 : isAt o ⟨#[45]⟩ with
    | true =>
      obtain ⟨n1, n2, n3, n4, n5⟩ := next _ h1
      simp only [cond_true]
      rw [n2] at n1 ⊢
      refine Ends.bind ((ih (m - 8) (by omega)).1 (o.1, o.2.1 + 1, o.2.2.1, ()) n1 (by (first | omega | (dsimp only at *; omega)))) fun y hy => Ends.ret ⟨?_, hy.2.1, ?_, hy.2.2.2⟩
      · rw [gx]
        exact wfE_mk (by simp) (by simp) (by simp) (by simp) (by simp [ByteArray.size]) (by simp) fun e he => by simp at he; rw [he]; exact hy.1
      · have := hy.2.2.1; (first | omega | (dsimp only at *; omega))
    | false =>
      simp only [cond_false, e]
      refine Ends.bind (R := fun y => y = (isAt o ⟨#[126]⟩, ((o.1, (bif isAt o ⟨#[126]⟩ then wr .i64 (iadd o.2.1 1) else o.2.1), o.2.2.1, ()), ()))) (Ends.of ⟨_, Take_eq _ o, rfl⟩) fun y1 hy1 => ?_
      subst hy1
      cases h2 : isAt o ⟨#[126]⟩ with
      | true =>
        obtain ⟨n1, n2, n3, n4, n5⟩ := next _ h2
        simp only [cond_true]
        rw [n2] at n1 ⊢
        refine Ends.bind ((ih (m - 8) (by omega)).1 (o.1, o.2.1 + 1, o.2.2.1, ()) n1 (by (first | omega | (dsimp only at *; omega)))) fun y hy => Ends.ret ⟨?_, hy.2.1, ?_, hy.2.2.2⟩
        · rw [gx]
          exact wfE_mk (by simp) (by simp) (by simp) (by simp) (by simp [ByteArray.size]) (by simp) fun e he => by simp at he; rw [he]; exact hy.1
        · have := hy.2.2.1; (first | omega | (dsimp only at *; omega))
      | false =>
        simp only [cond_false, e]
        refine Ends.bind (R := fun y => y = (isAt o ⟨#[40]⟩, ((o.1, (bif isAt o ⟨#[40]⟩ then wr .i64 (iadd o.2.1 1) else o.2.1), o.2.2.1, ()), ()))) (Ends.of ⟨_, Take_eq _ o, rfl⟩) fun y1 hy1 => ?_
        subst hy1
        cases h3 : isAt o ⟨#[40]⟩ with
        | true =>
          obtain ⟨n1, n2, n3, n4, n5⟩ := next _ h3
          simp only [cond_true]
          rw [n2] at n1 ⊢
          refine Ends.bind ((ih (m - 1) (by omega)).2 1 (o.1, o.2.1 + 1, o.2.2.1, ()) n1 (by simp) (by simp) (by (first | omega | (dsimp only at *; omega)))) fun y hy => ?_
          have hat : 0 ≤ y.2.1.2.1 := by have := hy.2.2.1; have := n1.1; (first | omega | (dsimp only at *; omega))
          have hyl : y.2.1.1.length ≤ 256 := by rw [hy.2.1]; exact ho.2.2.1
          refine Ends.bind (R := fun z => z = ((), ((y.2.1.1, (bif isAt y.2.1 ⟨#[41]⟩ then wr .i64 (iadd y.2.1.2.1 1) else y.2.1.2.1), (bif isAt y.2.1 ⟨#[41]⟩ then y.2.1.2.2.1 else true), ()), ()))) (Ends.of ⟨_, Must_eq _ y.2.1, rfl⟩) fun z hz => Ends.ret ?_
          subst hz
          rw [gx]
          refine ⟨hy.1, hy.2.1, ?_, ?_⟩
          · have := hy.2.2.1
            cases h4 : isAt y.2.1 ⟨#[41]⟩ with
            | false => simp only [cond_false]; (first | omega | (dsimp only at *; omega))
            | true =>
              have e1 : wr .i64 (iadd y.2.1.2.1 1) = y.2.1.2.1 + 1 := by simp only [iadd]; have := hy.2.2.2; exact wr_i64 (by omega) (by omega)
              simp only [cond_true, e1]; (first | omega | (dsimp only at *; omega))
          · cases h4 : isAt y.2.1 ⟨#[41]⟩ with
            | false => exact hy.2.2.2
            | true =>
              have h5 := isAt_lt h4
              have e1 : wr .i64 (iadd y.2.1.2.1 1) = y.2.1.2.1 + 1 := by simp only [iadd]; have := hy.2.2.2; exact wr_i64 (by omega) (by omega)
              simp only [cond_true, e1]; omega
        | false =>
          simp only [cond_false, e]
          refine Ends.bind (R := fun y => y = (tokAt o.1 o.2.1, (o, ()))) (Ends.of ⟨_, T_eq o, rfl⟩) fun y8 hy8 => ?_
          subst hy8
          have htok := tokAt_ok ho o.2.1
          have adv : ∀ q : Int, q ≠ 0 → ieq (tokAt o.1 o.2.1).kind q = true → o.2.1 ≤ wr .i64 (iadd o.2.1 1) ∧ wr .i64 (iadd o.2.1 1) ≤ 1000 := by
            intro q hq0 hq
            have hin : 0 ≤ o.2.1 ∧ o.2.1 < (o.1.length : Int) := by
              by_cases hi : 0 ≤ o.2.1 ∧ o.2.1 < (o.1.length : Int)
              · exact hi
              · rw [tokAt_out hi, ieq_t] at hq
                exact absurd hq.symm hq0
            have h2 := ho.2.2.1
            have e1 : wr .i64 (iadd o.2.1 1) = o.2.1 + 1 := by simp only [iadd]; exact wr_i64 (by omega) (by omega)
            rw [e1]; omega
          refine Ends.bif (fun h => Ends.ret ?_) fun _ => ?_
          · simp only [band_t] at h
            obtain ⟨a1, a2⟩ := adv 2 (by simp) h.1.1.2
            exact ⟨wfE_mk (by simp) (by simp) htok.2.1 htok.2.2 (by simp [ByteArray.size]) (by simp) (by simp), rfl, a1, a2⟩
          · refine Ends.bind (R := fun _ => True) (Ends.bif (fun _ => (Name_ends _).mono fun _ _ => trivial) (fun _ => Ends.ret trivial)) fun y9 _ => Ends.bif (fun h => Ends.ret ?_) (fun _ => Ends.ret ?_)
            · simp only [band_t] at h
              obtain ⟨a1, a2⟩ := adv 1 (by simp) h.1.2
              exact ⟨wfE_mk (by simp) (by simp) (by simp) (by simp) htok.1 (by simp) (by simp), rfl, a1, a2⟩
            · exact ⟨wfE_mk (by simp) (by simp) (by simp) (by simp) (by simp [ByteArray.size]) (by simp) (by simp), rfl, by (first | omega | (dsimp only at *; omega)), ho.2.1⟩
  · refine Ends.succ (g := fun n => ref17_R_termB n (ref17_R_termo n) (ref17_R_unaryo n) () k o) (fun n => rfl) ?_
    unfold ref17_R_termB
    have e : (o.1, o.2.1, o.2.2.1, ()) = o := rfl
    refine Ends.bif (fun h => ?_) (fun h => ?_)
    · rw [ieq_t] at h
      refine Ends.bind ((ih (m - 1) (by omega)).1 o ho (by omega)) fun y hy => Ends.ret ?_
      rw [gx]
      exact hy
    · rw [ieq_f] at h
      have ek : wr .i64 (iadd k 1) = k + 1 := by simp only [iadd]; exact wr_i64 (by omega) (by omega)
      rw [ek]
      refine Ends.bind ((ih (m - 1) (by omega)).2 (k + 1) o ho (by omega) (by omega) (by omega)) fun y hy => ?_
      refine Ends.bind (R := fun z => WfE (GExpr.mk z.2.2.2.2.1.1 z.2.2.2.2.1.2.1 z.2.2.2.2.1.2.2.1 z.2.2.2.2.1.2.2.2.1) ∧ z.2.2.1.1 = o.1 ∧ o.2.1 ≤ z.2.2.1.2.1 ∧ z.2.2.1.2.1 ≤ 1000) (Ends.loop (I := fun x => x.1.2.1 = k ∧ WfE (GExpr.mk x.2.2.2.1.1 x.2.2.2.1.2.1 x.2.2.2.1.2.2.1 x.2.2.2.1.2.2.2.1) ∧ x.2.1.1 = o.1 ∧ o.2.1 ≤ x.2.1.2.1 ∧ x.2.1.2.1 ≤ 1000) (μ := fun x => ((1000 : Int) - x.2.1.2.1).toNat) ⟨rfl, by dsimp only; rw [gx]; exact hy.1, hy.2.1, hy.2.2.1, hy.2.2.2⟩ fun x hx => ?_) fun z hz => Ends.ret hz
      obtain ⟨⟨r0, k', s4, e5, _⟩, ⟨o0, o1, o2, _⟩⟩ := x
      obtain ⟨rfl, g1, g2, g3, g4⟩ := hx
      dsimp only at *
      simp only [ref17_R_term_L4f, ref17_R_term_L4]
      refine Ends.bif (fun h => ?_) (fun h => Ends.ret ⟨g1, g2, g3, g4⟩)
      refine Ends.bind (op_ends k' o0) fun w hw => Ends.bif (fun h2 => Ends.ret ⟨g1, g2, g3, g4⟩) (fun h2 => ?_)
      obtain ⟨w1, w2⟩ := w
      obtain ⟨rfl, p1, p2, p3⟩ := hw
      dsimp only at *
      rw [ieq_f] at h2
      obtain ⟨p4, p5, p6⟩ := p3 h2
      have hlen := ho.2.2.1
      rw [g2] at p5
      have e1 : wr .i64 (iadd o0.2.1 1) = o0.2.1 + 1 := by simp only [iadd]; exact wr_i64 (by omega) (by omega)
      have ek : wr .i64 (iadd k' 1) = k' + 1 := by simp only [iadd]; exact wr_i64 (by omega) (by omega)
      rw [e1, ek]
      have hok : ROK (o0.1, o0.2.1 + 1, o0.2.2.1, ()) := ⟨by (first | omega | (dsimp only at *; omega)), by (first | omega | (dsimp only at *; omega)), by rw [g2]; exact hlen, by rw [g2]; exact ho.2.2.2⟩
      refine Ends.bind ((ih (m - 1) (by omega)).2 (k' + 1) (o0.1, o0.2.1 + 1, o0.2.2.1, ()) hok (by omega) (by omega) (by rw [g2]; (first | omega | (dsimp only at *; omega)))) fun v hv => Ends.ret ⟨⟨rfl, ?_, ?_, ?_, hv.2.2.2⟩, ?_⟩
      · dsimp only
        rw [gx]
        exact wfE_mk p1 p2 (by simp) (by simp) (by simp [ByteArray.size]) (by simp) fun e he => by
          simp at he
          rcases he with rfl | rfl
          · exact g1
          · exact hv.1
      · have := hv.2.1; dsimp only at this ⊢; rw [this, g2]
      · have := hv.2.2.1; (first | omega | (dsimp only at *; omega))
      · have := hv.2.2.1; have := hv.2.2.2; (first | omega | (dsimp only at *; omega))
end Go.Ev.Tryz
namespace Go.Ev.Tryz
open Go Go.Ev
theorem wr_u64_nonneg (n : Int) : 0 ≤ wr .u64 n := by
  simp only [wr, IntKind.wrap, IntKind.signed, Bool.false_and, Bool.false_eq_true, if_false]
  exact Int.emod_nonneg _ (by decide)
theorem pick_size {l : List ByteArray} {b : Nat} (hl : l.all (fun x => Nat.ble x.size b) = true) {i : Int} (h : inside i (iof (@xlen .s l)) = true) : (@xget .s l i.toNat : ByteArray).size ≤ b := by
  have hm := @xget_mem .s l i h
  rw [List.all_eq_true] at hl
  exact Nat.le_of_ble_eq_true (hl _ hm)
theorem name06_ends (o : Int) : Ends (fun _ : Nat => ref06_Nameo o) (fun r => r.1.size ≤ 4) := by
  unfold ref06_Nameo
  refine Ends.bif (fun _ => Ends.ret (by simp [ByteArray.size])) (fun h => ?_)
  have hl : iof (@xlen .s ref06_names) = 46 := rfl
  have hin : inside o (iof (@xlen .s ref06_names)) = true := by
    rw [hl, inside_t]
    simp only [bor_f, ilt_f] at h
    omega
  exact Ends.chk hin (Ends.ret (pick_size (by rfl) hin))
theorem name04_ends (o : Int) : Ends (fun _ : Nat => ref04_Nameo o) (fun r => r.1.size ≤ 2) := by
  unfold ref04_Nameo
  refine Ends.bif (fun _ => Ends.ret (by simp [ByteArray.size])) (fun h => ?_)
  have hl : iof (@xlen .s ref04_names) = 14 := rfl
  have hin : inside o (iof (@xlen .s ref04_names)) = true := by
    rw [hl, inside_t]
    simp only [bor_f, ilt_f] at h
    omega
  exact Ends.chk hin (Ends.ret (pick_size (by rfl) hin))
theorem name05_ends (o : Int) : Ends (fun _ : Nat => ref05_Nameo o) (fun r => r.1.size ≤ 3) := by
  unfold ref05_Nameo
  refine Ends.bif (fun _ => Ends.ret (by simp [ByteArray.size])) (fun h => ?_)
  have hl : iof (@xlen .s ref05_names) = 19 := rfl
  have hin : inside o (iof (@xlen .s ref05_names)) = true := by
    rw [hl, inside_t]
    simp only [bor_f, ilt_f] at h
    omega
  exact Ends.chk hin (Ends.ret (pick_size (by rfl) hin))
theorem Has_ends (l r : Int) : Ends (fun _ : Nat => ref05_Haso l r) (fun _ => True) := by
  unfold ref05_Haso
  exact Ends.chk (ile_t.2 (wr_u64_nonneg r)) (Ends.ret trivial)
theorem inc_i64 {a : Int} (h : 0 ≤ a) (h' : a ≤ 1000000) : wr .i64 (iadd a 1) = a + 1 := by simp only [iadd]; exact wr_i64 (by omega) (by omega)
theorem Print05_inner (l r : Int) (s2 s3 : ByteArray) (h0 : 0 ≤ r) (h1 : r ≤ 15) : Ends (fun n => iter (ref05_Print_L10f n) n ((l, s2, s3, r, r, ()), ())) (fun z => z.2.1.1 = l ∧ z.2.1.2.2.1 = s3 ∧ z.2.1.2.2.2.1 = r ∧ r ≤ z.2.1.2.2.2.2.1 ∧ z.2.1.2.2.2.2.1 ≤ 15) := by
  refine Ends.loop (I := fun x => x.1.1 = l ∧ x.1.2.2.1 = s3 ∧ x.1.2.2.2.1 = r ∧ r ≤ x.1.2.2.2.2.1 ∧ x.1.2.2.2.2.1 ≤ 15) (μ := fun x => ((15 : Int) - x.1.2.2.2.2.1).toNat) ⟨rfl, rfl, rfl, by simp, h1⟩ fun x hx => ?_
  obtain ⟨⟨l', a, b, r', last, _⟩, _⟩ := x
  obtain ⟨rfl, rfl, rfl, g1, g2⟩ := hx
  dsimp only at *
  simp only [ref05_Print_L10f, ref05_Print_L10]
  refine Ends.bind (R := fun _ => True) (Ends.bif (fun _ => Has_ends _ _) (fun _ => Ends.ret trivial)) fun y _ => Ends.bif (fun h => ?_) (fun h => Ends.ret ⟨rfl, rfl, rfl, g1, g2⟩)
  simp only [band_t, ilt_t] at h
  rw [inc_i64 (by omega) (by omega)]
  exact Ends.ret ⟨⟨rfl, rfl, rfl, by (first | omega | (dsimp only at *; omega)), by (first | omega | (dsimp only at *; omega))⟩, by (first | omega | (dsimp only at *; omega))⟩
theorem Print05_ends (l : Int) : Ends (fun n => ref05_Printo n l) (fun r => r.1.size ≤ 200) := by
  unfold ref05_Printo
  have c1 : (⟨#[123]⟩ : ByteArray).size = 1 := rfl
  have c2 : (⟨#[125]⟩ : ByteArray).size = 1 := rfl
  have c3 : (⟨#[44, 32]⟩ : ByteArray).size = 2 := rfl
  have c4 : (⟨#[45]⟩ : ByteArray).size = 1 := rfl
  refine Ends.bind (R := fun z => z.2.1.2.2.1.size ≤ 180) (Ends.loop (I := fun x => x.1.1 = l ∧ 0 ≤ x.1.2.2.2.1 ∧ x.1.2.2.2.1 ≤ 16 ∧ (x.1.2.2.1.size : Int) ≤ 1 + 9 * x.1.2.2.2.1) (μ := fun x => ((16 : Int) - x.1.2.2.2.1).toNat) ⟨rfl, by simp, by simp, by simp [ByteArray.size]⟩ fun x hx => ?_) fun z hz => ?_
  · obtain ⟨⟨l', a, b, r, _⟩, _⟩ := x
    obtain ⟨rfl, g1, g2, g3⟩ := hx
    dsimp only at *
    simp only [ref05_Print_L3f, ref05_Print_L3]
    refine Ends.bif (fun h => ?_) (fun h => Ends.ret (by (first | omega | (dsimp only at *; omega))))
    rw [ilt_t] at h
    refine Ends.bind (Has_ends _ _) fun y _ => Ends.bif (fun _ => ?_) (fun _ => Ends.bif (fun _ => ?_) (fun _ => ?_))
    · rw [inc_i64 (by omega) (by omega)]
      exact Ends.ret ⟨⟨rfl, by (first | omega | (dsimp only at *; omega)), by (first | omega | (dsimp only at *; omega)), by (first | omega | (dsimp only at *; omega))⟩, by (first | omega | (dsimp only at *; omega))⟩
    · refine Ends.chk (sroom_t.2 (by omega)) (Ends.bind (name05_ends r) fun y hy => Ends.chk (sroom_t.2 (by rw [size_scat]; omega)) (Ends.bind (Print05_inner l' r a _ g1 (by omega)) fun z hz => ?_))
      obtain ⟨z1, ⟨⟨zl, za, zb, zr, zlast, _⟩, _⟩⟩ := z
      obtain ⟨rfl, rfl, rfl, p1, p2⟩ := hz
      dsimp only at *
      refine Ends.bif (fun h2 => Ends.bind (name05_ends _) fun w hw => Ends.chk (sroom_t.2 (by omega)) (Ends.chk (sroom_t.2 (by simp only [size_scat]; omega)) (Ends.ret ?_))) (fun h2 => Ends.ret ?_)
      · rw [ilt_t] at h2
        rw [inc_i64 (by omega) (by omega)]
        refine ⟨⟨rfl, by (first | omega | (dsimp only at *; omega)), by (first | omega | (dsimp only at *; omega)), ?_⟩, by (first | omega | (dsimp only at *; omega))⟩
        simp only [size_scat]; omega
      · rw [inc_i64 (by omega) (by omega)]
        refine ⟨⟨rfl, by (first | omega | (dsimp only at *; omega)), by (first | omega | (dsimp only at *; omega)), ?_⟩, by (first | omega | (dsimp only at *; omega))⟩
        simp only [size_scat]; omega
    · refine Ends.bind (name05_ends r) fun y hy => Ends.chk (sroom_t.2 (by omega)) (Ends.bind (Print05_inner l' r a _ g1 (by omega)) fun z hz => ?_)
      obtain ⟨z1, ⟨⟨zl, za, zb, zr, zlast, _⟩, _⟩⟩ := z
      obtain ⟨rfl, rfl, rfl, p1, p2⟩ := hz
      dsimp only at *
      refine Ends.bif (fun h2 => Ends.bind (name05_ends _) fun w hw => Ends.chk (sroom_t.2 (by omega)) (Ends.chk (sroom_t.2 (by simp only [size_scat]; omega)) (Ends.ret ?_))) (fun h2 => Ends.ret ?_)
      · rw [ilt_t] at h2
        rw [inc_i64 (by omega) (by omega)]
        refine ⟨⟨rfl, by (first | omega | (dsimp only at *; omega)), by (first | omega | (dsimp only at *; omega)), ?_⟩, by (first | omega | (dsimp only at *; omega))⟩
        simp only [size_scat]; omega
      · rw [inc_i64 (by omega) (by omega)]
        refine ⟨⟨rfl, by (first | omega | (dsimp only at *; omega)), by (first | omega | (dsimp only at *; omega)), ?_⟩, by (first | omega | (dsimp only at *; omega))⟩
        simp only [size_scat]; omega
  · refine Ends.chk (sroom_t.2 (by omega)) (Ends.ret ?_)
    simp only [size_scat]; omega
theorem Turn_lo (c : Int) (h0 : 0 ≤ c) (h1 : c ≤ 14) : 0 ≤ ref04_Turn c ∧ ref04_Turn c ≤ 14 := by
  unfold ref04_Turn ref04_Turno
  cases h : (bif ilt c 0 then true else ilt 13 c) with
  | true => simp only [cond_true, Option.map, Option.getD]; omega
  | false =>
    simp only [bor_f, ilt_f] at h
    simp only [cond_false]
    cases h2 : ieq (wrem c 2) 0 with
    | true =>
      rw [ieq_t, wrem_pos h0 (by omega)] at h2
      simp only [cond_true, Option.map, Option.getD, iadd]
      rw [wr_i64 (by omega) (by omega)]; omega
    | false =>
      rw [ieq_f, wrem_pos h0 (by omega)] at h2
      simp only [cond_false, Option.map, Option.getD, isub]
      rw [wr_i64 (by omega) (by omega)]; omega
def maskμ (m : Int) : Nat := if m = 8 then 0 else if m % 8 = 4 then 1 else if m % 4 = 2 then 2 else 3
theorem Conds_ends (c m : Int) : Ends (fun n => ref04_Condso n c m) (fun r => r.1.length ≤ 4 ∧ ∀ x ∈ r.1, 0 ≤ x ∧ x ≤ 14) := by
  unfold ref04_Condso
  refine Ends.bif (fun _ => Ends.ret ⟨by simp, by simp⟩) (fun h => ?_)
  simp only [bor_f, ilt_f] at h
  refine Ends.bind (R := fun z => (z.1 = 0 → z.2.1.2.2.2.1.length ≤ 4 ∧ ∀ x ∈ z.2.1.2.2.2.1, 0 ≤ x ∧ x ≤ 14) ∧ (z.1 ≠ 0 → z.2.1.2.2.1 = [])) (Ends.loop (I := fun x => x.1.1 = c ∧ 1 ≤ x.1.2.1 ∧ x.1.2.1 ≤ 15 ∧ (x.1.2.2.2.1.length + maskμ x.1.2.1 ≤ 4) ∧ (∀ y ∈ x.1.2.2.2.1, 0 ≤ y ∧ y ≤ 14)) (μ := fun x => maskμ x.1.2.1) ⟨rfl, h.1.2, h.2, by unfold maskμ; dsimp only [List.length]; split <;> (try split) <;> (try split) <;> omega, fun y hy => by simp at hy; omega⟩ fun x hx => ?_) fun z hz => Ends.bif (fun h => Ends.ret ?_) (fun h => Ends.ret ?_)
  · obtain ⟨⟨c', mk, s4, out, _⟩, _⟩ := x
    obtain ⟨rfl, g1, g2, g3, g4⟩ := hx
    dsimp only at *
    simp only [ref04_Conds_L4f, ref04_Conds_L4]
    have em : wr .i64 (imul (wrem mk 8) 2) = mk % 8 * 2 := by
      rw [wrem_pos (by omega) (by omega)]; simp only [imul]; exact wr_i64 (by omega) (by omega)
    have hμ : mk ≠ 8 → maskμ (mk % 8 * 2) < maskμ mk := by
      intro hne
      unfold maskμ
      split <;> (try split) <;> (try split) <;> (try split) <;> (try split) <;> omega
    refine Ends.bif (fun h1 => ?_) (fun h1 => Ends.ret ⟨fun _ => ⟨by (first | omega | (dsimp only at *; omega)), g4⟩, fun hn => absurd rfl hn⟩)
    rw [bNot_t, ieq_f] at h1
    have h2 := hμ h1
    rw [em]
    refine Ends.bif (fun _ => Ends.bif (fun _ => Ends.ret ⟨fun hn => (by cases hn), fun _ => rfl⟩) (fun _ => Ends.chk ?_ (Ends.ret ?_))) (fun _ => Ends.chk ?_ (Ends.ret ?_))
    · show room (out.length + 1) 8 = true
      rw [room_t]; omega
    · have ht := Turn_lo c' (by omega) (by omega)
      refine ⟨⟨rfl, by (first | omega | (dsimp only at *; omega)), by (first | omega | (dsimp only at *; omega)), ?_, mem_snoc g4 ht⟩, h2⟩
      show (out ++ [_]).length + maskμ (mk % 8 * 2) ≤ 4
      rw [List.length_append]; simp only [List.length_cons, List.length_nil]; omega
    · show room (out.length + 1) 8 = true
      rw [room_t]; omega
    · refine ⟨⟨rfl, by (first | omega | (dsimp only at *; omega)), by (first | omega | (dsimp only at *; omega)), ?_, mem_snoc g4 (by omega)⟩, h2⟩
      show (out ++ [_]).length + maskμ (mk % 8 * 2) ≤ 4
      rw [List.length_append]; simp only [List.length_cons, List.length_nil]; omega
  · exact hz.1 (Nat.eq_of_beq_eq_true h)
  · rw [hz.2 (fun e => by rw [e] at h; cases h)]
    exact ⟨by simp, by simp⟩
theorem Find04_loop (s : ByteArray) : Ends (fun n => iter (ref04_Find_L10f n) n ((s, (0 : Int), (0 : Int), ()), ())) (fun z => z.1 ≠ 0 → 0 ≤ z.2.1.2.1 ∧ z.2.1.2.1 ≤ 13) := by
  refine Ends.loop (I := fun x => 0 ≤ x.1.2.2.1 ∧ x.1.2.2.1 ≤ 14) (μ := fun x => ((14 : Int) - x.1.2.2.1).toNat) ⟨by simp, by simp⟩ fun x hx => ?_
  obtain ⟨⟨a, b, c, _⟩, _⟩ := x
  obtain ⟨g1, g2⟩ := hx
  dsimp only at *
  simp only [ref04_Find_L10f, ref04_Find_L10]
  refine Ends.bif (fun h => ?_) (fun h => Ends.ret fun hn => absurd rfl hn)
  rw [ile_t] at h
  have hl : iof (@xlen .s ref04_names) = 14 := rfl
  refine Ends.chk (by rw [hl, inside_t]; omega) (Ends.bif (fun _ => Ends.ret fun _ => ⟨g1, h⟩) (fun _ => ?_))
  rw [inc_i64 (by omega) (by omega)]
  exact Ends.ret ⟨⟨by (first | omega | (dsimp only at *; omega)), by (first | omega | (dsimp only at *; omega))⟩, by (first | omega | (dsimp only at *; omega))⟩
theorem Find04_ends (s : ByteArray) : Ends (fun n => ref04_Findo n s) (fun r => -1 ≤ r.1 ∧ r.1 ≤ 14) := by
  unfold ref04_Findo
  have lp : Ends (fun n => (iter (ref04_Find_L10f n) n ((s, (0 : Int), (0 : Int), ()), ())).bind fun z1 => bif (Nat.beq z1.1 0) then some (((-1) : Int), ()) else some (z1.2.1.2.1, ())) (fun r => -1 ≤ r.1 ∧ r.1 ≤ 14) := by
    refine Ends.bind (Find04_loop s) fun z hz => Ends.bif (fun h => Ends.ret ⟨by simp, by simp⟩) (fun h => Ends.ret ?_)
    have := hz (fun e => by rw [e] at h; cases h)
    exact ⟨by (first | omega | (dsimp only at *; omega)), by (first | omega | (dsimp only at *; omega))⟩
  refine Ends.bif (fun _ => Ends.ret ⟨by simp, by simp⟩) (fun _ => Ends.bif (fun _ => Ends.ret ⟨by simp, by simp⟩) (fun _ => Ends.bif (fun _ => Ends.bif (fun _ => Ends.ret ⟨by simp, by simp⟩) (fun _ => lp)) (fun _ => Ends.bif (fun _ => Ends.ret ⟨by simp, by simp⟩) (fun _ => lp))))
theorem Find05_ends (s : ByteArray) : Ends (fun n => ref05_Findo n s) (fun r => -1 ≤ r.1 ∧ r.1 ≤ 15) := by
  unfold ref05_Findo
  refine Ends.bind (R := fun z => z.1 ≠ 0 → 0 ≤ z.2.1.2.1 ∧ z.2.1.2.1 ≤ 15) (Ends.loop (I := fun x => x.1.2.2.1 = ref05_names ∧ 0 ≤ x.1.2.2.2.1 ∧ x.1.2.2.2.1 ≤ 19) (μ := fun x => ((19 : Int) - x.1.2.2.2.1).toNat) ⟨rfl, by simp, by simp⟩ fun x hx => ?_) fun z hz => Ends.bif (fun h => Ends.ret ⟨by simp, by simp⟩) (fun h => Ends.ret ?_)
  · obtain ⟨⟨a, b, l, i, _⟩, _⟩ := x
    obtain ⟨rfl, g1, g2⟩ := hx
    dsimp only at *
    simp only [ref05_Find_L3f, ref05_Find_L3]
    have hl : iof (@xlen .s ref05_names) = 19 := rfl
    rw [hl]
    refine Ends.bif (fun h => ?_) (fun h => Ends.ret fun hn => absurd rfl hn)
    rw [ilt_t] at h
    refine Ends.chk (inside_t.2 ⟨g1, h⟩) (Ends.bif (fun _ => Ends.bif (fun h2 => Ends.ret fun _ => ?_) (fun h2 => Ends.ret fun _ => ?_)) (fun _ => ?_))
    · rw [ilt_t] at h2
      have e : wr .i64 (isub i 3) = i - 3 := by simp only [isub]; exact wr_i64 (by omega) (by omega)
      dsimp only
      rw [e]; omega
    · rw [ilt_f] at h2
      exact ⟨g1, h2⟩
    · rw [inc_i64 (by omega) (by omega)]
      exact Ends.ret ⟨⟨rfl, by (first | omega | (dsimp only at *; omega)), by (first | omega | (dsimp only at *; omega))⟩, by (first | omega | (dsimp only at *; omega))⟩
  · have := hz (fun e => by rw [e] at h; cases h)
    exact ⟨by (first | omega | (dsimp only at *; omega)), by (first | omega | (dsimp only at *; omega))⟩
theorem Mask_ends (c : Int) (l : List Bool) : Ends (fun n => ref04_Masko n c l) (fun r => inK .i64 r.1) := by
  unfold ref04_Masko
  have i0 : inK .i64 0 := by unfold inK; decide
  refine Ends.bif (fun _ => Ends.ret i0) (fun h => ?_)
  have hx : iof (@xlen .b l) = (l.length : Int) := rfl
  rw [hx] at h
  simp only [bor_f, ilt_f] at h
  refine Ends.bind (R := fun z => (z.1 ≠ 0 → z.2.1.2.2.1 = 0)) (Ends.loop (I := fun x => x.1.2.1 = l ∧ 0 ≤ x.1.2.2.2.2.2.1 ∧ x.1.2.2.2.2.2.1 ≤ (l.length : Int)) (μ := fun x => ((l.length : Int) - x.1.2.2.2.2.2.1).toNat) ⟨rfl, by simp, by simp⟩ fun x hx => ?_) fun z hz => Ends.bif (fun h => Ends.ret ?_) (fun h => Ends.ret ?_)
  · obtain ⟨⟨c', l', s4, m, at_, i, _⟩, _⟩ := x
    obtain ⟨rfl, g1, g2⟩ := hx
    dsimp only at *
    simp only [ref04_Mask_L5f, ref04_Mask_L5]
    refine Ends.bif (fun h1 => ?_) (fun h1 => Ends.ret fun hn => absurd rfl hn)
    have h1' : i < (l'.length : Int) := ilt_t.1 h1
    refine Ends.chk (inside_t.2 ⟨g1, h1'⟩) ?_
    rw [inc_i64 (by omega) (by omega)]
    refine Ends.bif (fun _ => Ends.bif (fun _ => Ends.ret fun _ => rfl) (fun _ => Ends.ret ⟨⟨rfl, by (first | omega | (dsimp only at *; omega)), by (first | omega | (dsimp only at *; omega))⟩, by (first | omega | (dsimp only at *; omega))⟩)) (fun _ => Ends.ret ⟨⟨rfl, by (first | omega | (dsimp only at *; omega)), by (first | omega | (dsimp only at *; omega))⟩, by (first | omega | (dsimp only at *; omega))⟩)
  · show inK .i64 (wr .i64 _)
    exact wr_in _
  · rw [hz (fun e => by rw [e] at h; cases h)]
    exact i0
end Go.Ev.Tryz
