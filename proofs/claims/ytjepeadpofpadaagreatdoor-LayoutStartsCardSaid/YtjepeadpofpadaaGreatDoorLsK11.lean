/- Lists of registers: facts about numbers of sixteen bits.  -/
import Derived.Test.YtjepeadpofpadaaGreatDoorLsK10
set_option linter.unusedSimpArgs false
set_option linter.unusedVariables false
set_option linter.unusedSectionVars false
namespace Go.Ev.Tryz
open Go Go.Ev
set_option maxHeartbeats 4000000
def g1 (x : Int) : Int := wr .u64 (iadd (wand .u64 (wshr .u64 x 1) 6148914691236517205) (wand .u64 x 6148914691236517205))
def g2 (x : Int) : Int := wr .u64 (iadd (wand .u64 (wshr .u64 x 2) 3689348814741910323) (wand .u64 x 3689348814741910323))
def g3 (x : Int) : Int := wand .u64 (wr .u64 (iadd (wshr .u64 x 4) x)) 1085102592571150095
def g4 (x : Int) : Int := wr .u64 (iadd x (wshr .u64 x 8))
def g5 (x : Int) : Int := wr .u64 (iadd x (wshr .u64 x 16))
def g6 (x : Int) : Int := wr .u64 (iadd x (wshr .u64 x 32))
def g7 (x : Int) : Int := wand .i64 (wr .i64 x) 127
theorem ones_eq (x : Int) : math_bits_OnesCount x = g7 (g6 (g5 (g4 (g3 (g2 (g1 x)))))) := by kernel_rfl
theorem wr_u (n : Nat) : wr .u64 (n : Int) = ((n % 18446744073709551616 : Nat) : Int) := by
  have e1 : ((2 : Int) ^ 64) = 18446744073709551616 := by decide
  simp only [wr, IntKind.wrap, IntKind.bits, IntKind.signed, e1, Bool.false_and, Bool.false_eq_true, if_false]
  omega
theorem wand_u (a c : Nat) (ha : a < 18446744073709551616) (hc : c < 18446744073709551616) : wand .u64 (a : Int) (c : Int) = ((Nat.land a c : Nat) : Int) := by
  have e : (BitVec.ofInt 64 (a : Int) &&& BitVec.ofInt 64 (c : Int)).toNat = Nat.land a c := by
    rw [BitVec.ofInt_natCast, BitVec.ofInt_natCast, BitVec.toNat_and, BitVec.toNat_ofNat, BitVec.toNat_ofNat, Nat.mod_eq_of_lt ha, Nat.mod_eq_of_lt hc]; rfl
  show wr .u64 ((BitVec.ofInt 64 (a : Int) &&& BitVec.ofInt 64 (c : Int)).toNat : Int) = _
  have hl : Nat.land a c ≤ a := Nat.and_le_left
  rw [e, wr_u, Nat.mod_eq_of_lt (by omega)]
theorem wand_s (a c : Nat) (ha : a < 9223372036854775808) (hc : c < 9223372036854775808) : wand .i64 (a : Int) (c : Int) = ((Nat.land a c : Nat) : Int) := by
  have e : (BitVec.ofInt 64 (a : Int) &&& BitVec.ofInt 64 (c : Int)).toNat = Nat.land a c := by
    rw [BitVec.ofInt_natCast, BitVec.ofInt_natCast, BitVec.toNat_and, BitVec.toNat_ofNat, BitVec.toNat_ofNat, Nat.mod_eq_of_lt (by omega), Nat.mod_eq_of_lt (by omega)]; rfl
  have hl : Nat.land a c ≤ a := Nat.and_le_left
  show wr .i64 ((BitVec.ofInt 64 (a : Int) &&& BitVec.ofInt 64 (c : Int)).toNat : Int) = _
  rw [e, wr_i64 (by omega) (by omega)]
theorem fdiv_n (a n : Nat) (hn : 0 < n) : Int.fdiv (a : Int) (n : Int) = ((a / n : Nat) : Int) := by
  rw [Int.fdiv_eq_ediv_of_nonneg _ (by omega)]; rfl
def h1 (m : Nat) : Nat := (Nat.land (m / 2) 6148914691236517205 + Nat.land m 6148914691236517205) % 18446744073709551616
def h2 (m : Nat) : Nat := (Nat.land (m / 4) 3689348814741910323 + Nat.land m 3689348814741910323) % 18446744073709551616
def h3 (m : Nat) : Nat := Nat.land ((m / 16 + m) % 18446744073709551616) 1085102592571150095
def h4 (m : Nat) : Nat := (m + m / 256) % 18446744073709551616
def h5 (m : Nat) : Nat := (m + m / 65536) % 18446744073709551616
def h6 (m : Nat) : Nat := (m + m / 4294967296) % 18446744073709551616
def h7 (m : Nat) : Nat := Nat.land m 127
theorem g1_n (m : Nat) (h : m < 18446744073709551616) : g1 m = (h1 m : Nat) := by
  unfold g1 h1
  rw [show wshr .u64 (m : Int) 1 = ((m / 2 : Nat) : Int) from fdiv_n m 2 (by decide)]
  rw [show (6148914691236517205 : Int) = ((6148914691236517205 : Nat) : Int) from rfl, wand_u _ _ (by omega) (by decide), wand_u _ _ h (by decide), ← wr_u]; rfl
theorem g2_n (m : Nat) (h : m < 18446744073709551616) : g2 m = (h2 m : Nat) := by
  unfold g2 h2
  rw [show wshr .u64 (m : Int) 2 = ((m / 4 : Nat) : Int) from fdiv_n m 4 (by decide)]
  rw [show (3689348814741910323 : Int) = ((3689348814741910323 : Nat) : Int) from rfl, wand_u _ _ (by omega) (by decide), wand_u _ _ h (by decide), ← wr_u]; rfl
theorem g3_n (m : Nat) (h : m < 18446744073709551616) : g3 m = (h3 m : Nat) := by
  unfold g3 h3
  rw [show wshr .u64 (m : Int) 4 = ((m / 16 : Nat) : Int) from fdiv_n m 16 (by decide)]
  rw [show iadd ((m / 16 : Nat) : Int) (m : Int) = ((m / 16 + m : Nat) : Int) from rfl, wr_u]
  rw [show (1085102592571150095 : Int) = ((1085102592571150095 : Nat) : Int) from rfl, wand_u _ _ (Nat.mod_lt _ (by decide)) (by decide)]
theorem g4_n (m : Nat) : g4 m = (h4 m : Nat) := by
  unfold g4 h4
  rw [show wshr .u64 (m : Int) 8 = ((m / 256 : Nat) : Int) from fdiv_n m 256 (by decide), ← wr_u]; rfl
theorem g5_n (m : Nat) : g5 m = (h5 m : Nat) := by
  unfold g5 h5
  rw [show wshr .u64 (m : Int) 16 = ((m / 65536 : Nat) : Int) from fdiv_n m 65536 (by decide), ← wr_u]; rfl
theorem g6_n (m : Nat) : g6 m = (h6 m : Nat) := by
  unfold g6 h6
  rw [show wshr .u64 (m : Int) 32 = ((m / 4294967296 : Nat) : Int) from fdiv_n m 4294967296 (by decide), ← wr_u]; rfl
def popN (m : Nat) : Nat := h7 (h6 (h5 (h4 (h3 (h2 (h1 m))))))
theorem h6_lt (m : Nat) : h6 (h5 (h4 (h3 m))) < 9223372036854775808 := by
  have e : h3 m ≤ 1085102592571150095 := Nat.and_le_right
  generalize h3 m = x at e
  have a : h4 x ≤ x + x / 256 := Nat.mod_le _ _
  generalize h4 x = y at a
  have b : h5 y ≤ y + y / 65536 := Nat.mod_le _ _
  generalize h5 y = z at b
  have c : h6 z ≤ z + z / 4294967296 := Nat.mod_le _ _
  omega
theorem pop_n (m : Nat) (h : m < 65536) : math_bits_OnesCount (wr .u64 (m : Int)) = (popN m : Nat) := by
  have e1 : h1 m < 18446744073709551616 := Nat.mod_lt _ (by decide)
  have e2 : h2 (h1 m) < 18446744073709551616 := Nat.mod_lt _ (by decide)
  rw [ones_eq, wr_u, Nat.mod_eq_of_lt (by omega), g1_n _ (by omega), g2_n _ e1, g3_n _ e2, g4_n, g5_n, g6_n]
  have e3 := h6_lt (h2 (h1 m))
  unfold popN h7 g7
  generalize h6 (h5 (h4 (h3 (h2 (h1 m))))) = y at e3
  rw [wr_i64 (by omega) (by omega)]
  rw [show (127 : Int) = ((127 : Nat) : Int) from rfl, wand_s _ _ (by omega) (by decide)]
def bitsF : Nat → Nat → Nat
  | 0, _ => 0
  | k + 1, m => m % 2 + bitsF k (m / 2)
def leafE (m c : Nat) : Bool :=
  Nat.beq (popN m) c &&
  (Nat.beq (Nat.land m 24575) m == (Nat.beq (m / 8192 % 2) 0 && Nat.beq (m / 32768 % 2) 0)) &&
  (Nat.beq (Nat.land m 57343) m == Nat.beq (m / 8192 % 2) 0) &&
  (!Nat.beq (Nat.land m 24575) m || (Nat.beq (Nat.land m 16639) m == Nat.beq (Nat.land m 16128) 0)) &&
  (!Nat.beq (Nat.land m 57343) m || (Nat.beq (Nat.land m 33023) m == Nat.beq (Nat.land m 32512) 0))
def treeE : Nat → Nat → Nat → Bool
  | 0, b, c => leafE b c
  | k + 1, b, c => treeE k (2 * b) c && treeE k (2 * b + 1) (c + 1)
set_option maxRecDepth 100000 in
theorem tree16 : treeE 16 0 0 = true := by kernel_rfl
theorem bitsF_up (k m : Nat) (h : m < 2 ^ k) : bitsF (k + 1) m = bitsF k m := by
  induction k generalizing m with
  | zero => have : m = 0 := by simpa using h
            rw [this]; rfl
  | succ k ih =>
    show m % 2 + bitsF (k + 1) (m / 2) = m % 2 + bitsF k (m / 2)
    rw [ih (m / 2) (by rw [Nat.pow_succ] at h; omega)]
theorem tree_at : ∀ (k j b c : Nat), b < 2 ^ j → c = bitsF j b → treeE k b c = true → ∀ i, i < 2 ^ k → leafE (b * 2 ^ k + i) (bitsF (j + k) (b * 2 ^ k + i)) = true := by
  intro k
  induction k with
  | zero =>
    intro j b c hb hc h i hi
    have : i = 0 := by simpa using hi
    subst this
    simp only [Nat.pow_zero, Nat.mul_one, Nat.add_zero]
    rw [← hc]; exact h
  | succ k ih =>
    intro j b c hb hc h i hi
    simp only [treeE, Bool.and_eq_true] at h
    rw [Nat.pow_succ] at hi
    have e0 : bitsF (j + 1) (2 * b) = bitsF j b := by
      show (2 * b) % 2 + bitsF j (2 * b / 2) = _
      rw [show 2 * b / 2 = b by omega]; omega
    have e1 : bitsF (j + 1) (2 * b + 1) = bitsF j b + 1 := by
      show (2 * b + 1) % 2 + bitsF j ((2 * b + 1) / 2) = _
      rw [show (2 * b + 1) / 2 = b by omega]; omega
    have hp : b * 2 ^ (k + 1) = 2 * b * 2 ^ k := by rw [Nat.pow_succ]; rw [← Nat.mul_assoc, Nat.mul_right_comm, Nat.mul_comm b 2]
    rw [hp, show j + (k + 1) = (j + 1) + k by omega]
    by_cases hik : i < 2 ^ k
    · exact ih (j + 1) (2 * b) c (by rw [Nat.pow_succ]; omega) (by rw [e0]; exact hc) h.1 i hik
    · have := ih (j + 1) (2 * b + 1) (c + 1) (by rw [Nat.pow_succ]; omega) (by rw [e1, hc]) h.2 (i - 2 ^ k) (by omega)
      rw [show (2 * b + 1) * 2 ^ k + (i - 2 ^ k) = 2 * b * 2 ^ k + i by rw [Nat.add_mul]; omega] at this
      exact this
theorem leaf_at (m : Nat) (h : m < 65536) : leafE m (bitsF 16 m) = true := by
  have := tree_at 16 0 0 0 (by decide) rfl tree16 m h
  simpa using this
end Go.Ev.Tryz
namespace Go.Ev.Tryz
open Go Go.Ev
set_option maxHeartbeats 4000000
theorem wandn_0 (m c : Nat) (hm : m < 9223372036854775808) (hc : c < 9223372036854775808) : wandn .i64 (m : Int) (c : Int) = 0 ↔ Nat.land m c = m := by
  have hx : (BitVec.ofNat 64 m).toNat = m := by rw [BitVec.toNat_ofNat, Nat.mod_eq_of_lt (by omega)]
  have hy : (BitVec.ofNat 64 c).toNat = c := by rw [BitVec.toNat_ofNat, Nat.mod_eq_of_lt (by omega)]
  show wr .i64 ((BitVec.ofInt 64 (m : Int) &&& ~~~ BitVec.ofInt 64 (c : Int)).toNat : Int) = 0 ↔ _
  rw [BitVec.ofInt_natCast, BitVec.ofInt_natCast]
  generalize hX : BitVec.ofNat 64 m = x at hx
  generalize hY : BitVec.ofNat 64 c = y at hy
  have hle : (x &&& ~~~ y).toNat ≤ m := by rw [BitVec.toNat_and, hx]; exact Nat.and_le_left
  rw [wr_i64 (by omega) (by omega)]
  have hb : x &&& ~~~ y = 0#64 ↔ x &&& y = x := by
    constructor
    · intro h
      apply BitVec.eq_of_getLsbD_eq
      intro i hi
      have := congrArg (fun z => z.getLsbD i) h
      simp [hi] at this ⊢
      cases h1 : x.getLsbD i <;> simp_all
    · intro h
      apply BitVec.eq_of_getLsbD_eq
      intro i hi
      have := congrArg (fun z => z.getLsbD i) h
      simp [hi] at this ⊢
      cases h1 : x.getLsbD i <;> simp_all
  have e : (x &&& y).toNat = Nat.land m c := by rw [BitVec.toNat_and, hx, hy]; rfl
  constructor
  · intro h
    have h0 : x &&& ~~~ y = 0#64 := by apply BitVec.eq_of_toNat_eq; simpa using h
    rw [← e, hb.1 h0, hx]
  · intro h
    have h0 : x &&& y = x := by apply BitVec.eq_of_toNat_eq; rw [e, h, hx]
    rw [hb.2 h0]; rfl
def LS (l : Int) (c : Nat) : Prop := 0 < l ∧ l < 65536 ∧ Nat.land l.toNat c = l.toNat
theorem ls_iff (l : Int) (c : Nat) (hl : l ≤ 9223372036854775807) (hc : c < 65536) : (0 < l ∧ wandn .i64 l (c : Int) = 0) ↔ LS l c := by
  constructor
  · rintro ⟨h0, h1⟩
    have e : l = (l.toNat : Int) := (Int.toNat_of_nonneg (by omega)).symm
    rw [e, wandn_0 _ _ (by omega) (by omega)] at h1
    have : l.toNat ≤ c := by rw [← h1]; exact Nat.and_le_right
    exact ⟨h0, by omega, h1⟩
  · rintro ⟨h0, h1, h2⟩
    have e : l = (l.toNat : Int) := (Int.toNat_of_nonneg (by omega)).symm
    refine ⟨h0, ?_⟩
    rw [e, wandn_0 _ _ (by omega) (by omega)]
    exact h2
theorem leaf_facts (m : Nat) (h : m < 65536) : popN m = bitsF 16 m ∧ (Nat.land m 24575 = m ↔ (m / 8192 % 2 = 0 ∧ m / 32768 % 2 = 0)) ∧ (Nat.land m 57343 = m ↔ m / 8192 % 2 = 0) ∧ (Nat.land m 24575 = m → (Nat.land m 16639 = m ↔ Nat.land m 16128 = 0)) ∧ (Nat.land m 57343 = m → (Nat.land m 33023 = m ↔ Nat.land m 32512 = 0)) := by
  have := leaf_at m h
  unfold leafE at this
  simp only [Bool.and_eq_true, Nat.beq_eq, Bool.or_eq_true, Bool.not_eq_true', beq_iff_eq] at this
  obtain ⟨⟨⟨⟨a1, a2⟩, a3⟩, a4⟩, a5⟩ := this
  have nb : ∀ (x y : Nat), Nat.beq x y = true ↔ x = y := fun x y => Nat.beq_eq ▸ Iff.rfl
  refine ⟨a1, ?_, ?_, ?_, ?_⟩
  · rw [← nb, a2, Bool.and_eq_true, nb, nb]
  · rw [← nb, a3, nb]
  · intro h1
    rcases a4 with a4 | a4
    · rw [← nb, a4] at h1; cases h1
    · rw [← nb, a4, nb]
  · intro h1
    rcases a5 with a5 | a5
    · rw [← nb, a5] at h1; cases h1
    · rw [← nb, a5, nb]
def bitI (l r : Int) : Bool := ieq (wand .i64 (wshr .i64 l r) 1) 1
def okR (l more r : Int) : Prop := bitI l r = true → ((0 ≤ r ∧ r ≤ 12) ∨ r = 14) ∨ r = more
theorem wr_u_small (r : Int) (h0 : 0 ≤ r) (h1 : r ≤ 1000) : wr .u64 r = r := by
  have e : r = (r.toNat : Int) := (Int.toNat_of_nonneg h0).symm
  rw [e, wr_u, Nat.mod_eq_of_lt (by omega)]
theorem list06_loop (l more : Int) : Ends (fun n => ref06_listo n l more) (fun r => r.1 = true ↔ (0 < l ∧ l < 65536 ∧ ∀ q, 0 ≤ q → q < 16 → okR l more q)) := by
  unfold ref06_listo
  refine Ends.bind (R := fun z => (z.1 = 0 ∧ z.2.1.1 = l ∧ ∀ q, 0 ≤ q → q < 16 → okR l more q) ∨ (z.1 = 1 ∧ z.2.1.2.2.1 = false ∧ ∃ q, 0 ≤ q ∧ q < 16 ∧ ¬ okR l more q)) (Ends.loop (I := fun x => x.1.1 = l ∧ x.1.2.1 = more ∧ 0 ≤ x.1.2.2.2.1 ∧ x.1.2.2.2.1 ≤ 16 ∧ ∀ q, 0 ≤ q → q < x.1.2.2.2.1 → okR l more q) (μ := fun x => (16 - x.1.2.2.2.1).toNat) ⟨rfl, rfl, by simp, by simp, fun q h0 h1 => by dsimp only at h1; omega⟩ fun x hx => ?_) fun z hz => ?_
  · obtain ⟨⟨l', m', s, r, _⟩, _⟩ := x
    obtain ⟨g0, g1, g2, g3, g4⟩ := hx
    dsimp only at g0 g1 g2 g3 g4
    subst g0 g1
    simp only [ref06_list_L2f, ref06_list_L2]
    refine Ends.bif (fun h => ?_) (fun h => Ends.ret (.inl ⟨rfl, rfl, fun q h0 h1 => g4 q h0 (by rw [ilt_f] at h; omega)⟩))
    rw [ilt_t] at h
    rw [wr_u_small r g2 (by omega), inc_i64 (by omega) (by omega)]
    refine Ends.chk (ile_t.2 g2) (Ends.bif (fun h2 => Ends.ret (.inr ⟨rfl, rfl, r, g2, h, ?_⟩)) (fun h2 => Ends.ret ⟨⟨rfl, rfl, by (first | omega | (dsimp only at *; omega)), by (first | omega | (dsimp only at *; omega)), ?_⟩, by (first | omega | (dsimp only at *; omega))⟩))
    · simp only [band_t, bNot_t, plainR_f, ieq_f] at h2
      intro hk
      rcases hk h2.1.1 with h3 | h3
      · exact h2.1.2 h3
      · exact h2.2 h3
    · intro q h0 h1
      dsimp only at h1
      by_cases hq : q < r
      · exact g4 q h0 hq
      · have : q = r := by omega
        subst this
        intro hb
        rw [band_f, band_f, bNot_f, bNot_f, plainR_t, ieq_t] at h2
        rcases h2 with (h2 | h2) | h2
        · exact absurd hb (by show ¬ (ieq (wand .i64 (wshr .i64 l' q) 1) 1 = true); rw [h2]; simp)
        · exact .inl h2
        · exact .inr h2
  · rcases hz with hz | hz
    · rw [hz.1, hz.2.1]
      refine Ends.ret ?_
      simp only [band_t, ilt_t]
      exact ⟨fun h => ⟨h.1, h.2, hz.2.2⟩, fun h => ⟨h.1, h.2.1⟩⟩
    · rw [hz.1]
      obtain ⟨q, h0, h1, h2⟩ := hz.2.2
      refine Ends.ret ?_
      show z.2.1.2.2.1 = true ↔ _
      rw [hz.2.1]
      exact ⟨fun h => (by cases h), fun h => absurd (h.2.2 q h0 h1) h2⟩
theorem wand_one (x : Nat) (h : x < 9223372036854775808) : wand .i64 (x : Int) 1 = ((x % 2 : Nat) : Int) := by
  rw [show (1 : Int) = ((1 : Nat) : Int) from rfl, wand_s _ _ h (by decide)]
  have : Nat.land x 1 = x % 2 := Nat.and_one_is_mod x
  rw [this]
theorem bit13 (m : Nat) (h : m < 65536) : bitI (m : Int) 13 = true ↔ m / 8192 % 2 = 1 := by
  unfold bitI
  rw [show wshr .i64 (m : Int) 13 = ((m / 8192 : Nat) : Int) from fdiv_n m 8192 (by decide), wand_one _ (by omega), ieq_t]
  omega
theorem bit15 (m : Nat) (h : m < 65536) : bitI (m : Int) 15 = true ↔ m / 32768 % 2 = 1 := by
  unfold bitI
  rw [show wshr .i64 (m : Int) 15 = ((m / 32768 : Nat) : Int) from fdiv_n m 32768 (by decide), wand_one _ (by omega), ieq_t]
  omega
theorem list06_m1 (l : Int) : Ends (fun n => ref06_listo n l (-1)) (fun r => r.1 = true ↔ LS l 24575) := by
  refine (list06_loop l (-1)).mono fun r hr => hr.trans ?_
  unfold LS
  constructor
  · rintro ⟨h0, h1, h2⟩
    refine ⟨h0, h1, ?_⟩
    have e : l = (l.toNat : Int) := (Int.toNat_of_nonneg (by omega)).symm
    have b13 := bit13 l.toNat (by omega)
    have b15 := bit15 l.toNat (by omega)
    rw [← e] at b13 b15
    have k13 := h2 13 (by omega) (by omega)
    have k15 := h2 15 (by omega) (by omega)
    rw [(leaf_facts l.toNat (by omega)).2.1]
    unfold okR at k13 k15
    rw [b13] at k13; rw [b15] at k15
    omega
  · rintro ⟨h0, h1, h2⟩
    refine ⟨h0, h1, fun q q0 q1 => ?_⟩
    have e : l = (l.toNat : Int) := (Int.toNat_of_nonneg (by omega)).symm
    have b13 := bit13 l.toNat (by omega)
    have b15 := bit15 l.toNat (by omega)
    rw [← e] at b13 b15
    rw [(leaf_facts l.toNat (by omega)).2.1] at h2
    intro hb
    by_cases c13 : q = 13
    · subst c13; rw [b13] at hb; omega
    · by_cases c15 : q = 15
      · subst c15; rw [b15] at hb; omega
      · left; omega
theorem list06_15 (l : Int) : Ends (fun n => ref06_listo n l 15) (fun r => r.1 = true ↔ LS l 57343) := by
  refine (list06_loop l 15).mono fun r hr => hr.trans ?_
  unfold LS
  constructor
  · rintro ⟨h0, h1, h2⟩
    refine ⟨h0, h1, ?_⟩
    have e : l = (l.toNat : Int) := (Int.toNat_of_nonneg (by omega)).symm
    have b13 := bit13 l.toNat (by omega)
    rw [← e] at b13
    have k13 := h2 13 (by omega) (by omega)
    rw [(leaf_facts l.toNat (by omega)).2.2.1]
    unfold okR at k13
    rw [b13] at k13
    omega
  · rintro ⟨h0, h1, h2⟩
    refine ⟨h0, h1, fun q q0 q1 => ?_⟩
    have e : l = (l.toNat : Int) := (Int.toNat_of_nonneg (by omega)).symm
    have b13 := bit13 l.toNat (by omega)
    rw [← e] at b13
    rw [(leaf_facts l.toNat (by omega)).2.2.1] at h2
    intro hb
    by_cases c13 : q = 13
    · subst c13; rw [b13] at hb; omega
    · by_cases c15 : q = 15
      · right; exact c15
      · left; omega
theorem bits_half (m : Nat) (h : m < 65536) : bitsF 16 m = m % 2 + bitsF 16 (m / 2) := by
  have e : bitsF 16 (m / 2) = bitsF 15 (m / 2) := bitsF_up 15 (m / 2) (by omega)
  rw [e]; rfl
theorem bits_pos : ∀ (k m : Nat), 0 < m → m < 2 ^ k → 1 ≤ bitsF k m := by
  intro k
  induction k with
  | zero => intro m h0 h1; simp at h1; omega
  | succ k ih =>
    intro m h0 h1
    show 1 ≤ m % 2 + bitsF k (m / 2)
    rw [Nat.pow_succ] at h1
    by_cases h : m / 2 = 0
    · omega
    · have := ih (m / 2) (by omega) (by omega); omega
theorem bits_le (k m : Nat) : bitsF k m ≤ k := by
  induction k generalizing m with
  | zero => exact Nat.le_refl _
  | succ k ih => have := ih (m / 2); show m % 2 + bitsF k (m / 2) ≤ k + 1; omega
theorem count06_ends (l : Int) (h0 : 0 ≤ l) (h1 : l < 65536) : Ends (fun n => ref06_counto n l) (fun r => r.1 = (bitsF 16 l.toNat : Nat)) := by
  unfold ref06_counto
  refine Ends.bind (R := fun z => z.2.1.2.2.1 = (bitsF 16 l.toNat : Nat)) (Ends.loop (I := fun x => 0 ≤ x.1.1 ∧ x.1.1 < 65536 ∧ 0 ≤ x.1.2.2.1 ∧ x.1.2.2.1 + ((bitsF 16 x.1.1.toNat : Nat) : Int) = ((bitsF 16 l.toNat : Nat) : Int)) (μ := fun x => x.1.1.toNat) ⟨h0, h1, by simp, by simp⟩ fun x hx => ?_) fun z hz => Ends.ret hz
  obtain ⟨⟨m, s, c, _⟩, _⟩ := x
  obtain ⟨g0, g1, g2, g3⟩ := hx
  dsimp only at g0 g1 g2 g3
  simp only [ref06_count_L2f, ref06_count_L2]
  refine Ends.bif (fun h => ?_) (fun h => Ends.ret ?_)
  · rw [ilt_t] at h
    have hb := bits_le 16 l.toNat
    have e1 : wquo .i64 m 2 = m / 2 := wquo_i64 (by omega) (by omega) (by simp)
    have e2 : wrem m 2 = m % 2 := wrem_pos (by omega) (by simp)
    have e3 : wr .i64 (iadd c (wrem m 2)) = c + m % 2 := by simp only [iadd, e2]; exact wr_i64 (by omega) (by omega)
    rw [e1, e3]
    have hh := bits_half m.toNat (by omega)
    have e4 : (m / 2).toNat = m.toNat / 2 := by omega
    refine Ends.ret ⟨⟨by (first | omega | (dsimp only at *; omega)), by (first | omega | (dsimp only at *; omega)), by (first | omega | (dsimp only at *; omega)), ?_⟩, by (first | omega | (dsimp only at *; omega))⟩
    dsimp only
    rw [e4]
    omega
  · rw [ilt_f] at h
    have : m.toNat = 0 := by omega
    rw [this] at g3
    have e : bitsF 16 0 = 0 := by decide
    rw [e] at g3
    dsimp only
    omega
theorem ones_at (l : Int) (h0 : 0 ≤ l) (h1 : l < 65536) : math_bits_OnesCount (wr .u64 l) = (bitsF 16 l.toNat : Nat) := by
  have e : l = (l.toNat : Int) := (Int.toNat_of_nonneg h0).symm
  have := pop_n l.toNat (by omega)
  rw [← e] at this
  rw [this, (leaf_facts l.toNat (by omega)).1]
end Go.Ev.Tryz
