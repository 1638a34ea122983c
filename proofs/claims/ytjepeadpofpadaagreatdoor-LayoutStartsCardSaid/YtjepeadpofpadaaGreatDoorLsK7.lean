/- Lines, as the references have them: all ends.  -/
import Derived.Test.YtjepeadpofpadaaGreatDoorLsK6
import Derived.Test.YtjepeadpofpadaaGreatDoorLsM4
set_option linter.unusedSimpArgs false
set_option linter.unusedVariables false
set_option linter.unusedSectionVars false
namespace Go.Ev.Tryz
open Go Go.Ev
set_option maxHeartbeats 4000000
theorem lit0 : (ByteArray.mk #[]).size = 0 := rfl
theorem lit1 {a : UInt8} : (ByteArray.mk #[a]).size = 1 := rfl
theorem lit2 {a b : UInt8} : (ByteArray.mk #[a, b]).size = 2 := rfl
theorem lit3 {a b c : UInt8} : (ByteArray.mk #[a, b, c]).size = 3 := rfl
theorem lit5 {a b c d e : UInt8} : (ByteArray.mk #[a, b, c, d, e]).size = 5 := rfl
theorem lit6 {a b c d e f : UInt8} : (ByteArray.mk #[a, b, c, d, e, f]).size = 6 := rfl
theorem lit7 {a b c d e f g : UInt8} : (ByteArray.mk #[a, b, c, d, e, f, g]).size = 7 := rfl
theorem take_snoc {t : Ty} {l : List (T t)} {k : Nat} (h : k < l.length) : l.take (k + 1) = l.take k ++ [xget l k] := by
  rw [List.take_add_one, List.getElem?_eq_getElem h]
  unfold xget
  simp [List.getD, List.getElem?_eq_getElem h]
theorem app_congr {l m : List GExpr} {x y : GExpr} (h : l = m) (k : x = y) : l ++ [x] = m ++ [y] := by rw [h, k]
theorem gexpr_eq {a b : GExpr} (h1 : a.op = b.op) (h2 : a.n = b.n) (h3 : a.name = b.name) (h4 : a.args = b.args) : a = b := by
  cases a; cases b
  simp only [GExpr.op, GExpr.n, GExpr.name, GExpr.args] at *
  rw [h1, h2, h3, h4]
theorem Same17_ends (a : GExpr) (hw : WfE a) : ∀ b : GExpr, Ends (fun n => ref17_Sameo n a b) (fun r => r.1 = true → a = b) := by
  induction hw with
  | mk op en name args w1 w2 w3 w4 w5 ih =>
  intro b
  generalize ha : GExpr.mk op en name args = a
  have hargs : a.args = args := by rw [← ha]; rfl
  refine Ends.succ (g := fun n => ref17_SameB n (ref17_Sameo n) a b) (fun n => rfl) ?_
  unfold ref17_SameB
  refine Ends.bif (fun _ => Ends.ret fun h => by cases h) (fun h => ?_)
  simp only [bor_f, bNot_f, ieq_t, strEq_t] at h
  obtain ⟨⟨⟨e1, e2⟩, e3⟩, e4⟩ := h
  have e4' : a.args.length = b.args.length := by
    have : (a.args.length : Int) = (b.args.length : Int) := e4
    omega
  rw [hargs] at e4'
  refine Ends.bind (R := fun z => (z.1 = 0 → a.args = b.args) ∧ (z.1 ≠ 0 → z.2.1.2.2.1 = false)) (Ends.loop (I := fun x => x.2.1.2.2.2.1 = a.args ∧ x.2.2.1.2.2.2.1 = b.args ∧ 0 ≤ x.1.2.2.2.1 ∧ x.1.2.2.2.1 ≤ (args.length : Int) ∧ args.take x.1.2.2.2.1.toNat = b.args.take x.1.2.2.2.1.toNat) (μ := fun x => ((args.length : Int) - x.1.2.2.2.1).toNat) ⟨rfl, rfl, by simp, by simp, by simp⟩ fun x hx => ?_) fun z hz => Ends.bif (fun h => Ends.ret fun _ => gexpr_eq e1 e2 e3 (hz.1 (Nat.eq_of_beq_eq_true h))) (fun h => Ends.ret fun h2 => ?_)
  · obtain ⟨⟨x1, x2, x3, i, _⟩, ⟨⟨o1, o2, o3, ar, _⟩, ⟨p1, p2, p3, br, _⟩, _⟩⟩ := x
    obtain ⟨g0, g1, g2, g3, g4⟩ := hx
    dsimp only at g0 g1 g2 g3 g4
    subst g1
    rw [hargs] at g0
    subst g0
    simp only [ref17_Same_L4f, ref17_Same_L4]
    refine Ends.bif (fun h1 => ?_) (fun h1 => Ends.ret ⟨fun _ => ?_, fun hn => absurd rfl hn⟩)
    · have hi : i < (ar.length : Int) := ilt_t.1 h1
      have hin : inside i (iof (@xlen .expr ar)) = true := inside_t.2 ⟨g2, hi⟩
      have hinb : inside i (iof (@xlen .expr b.args)) = true := inside_t.2 ⟨g2, by show i < (b.args.length : Int); omega⟩
      refine Ends.chk hin (Ends.chk hinb ?_)
      rw [gx (@xget .expr ar i.toNat), gx (@xget .expr b.args i.toNat)]
      have e3 : wr .i64 (iadd i 1) = i + 1 := by simp only [iadd]; exact wr_i64 (by omega) (by unfold maxLen at w4; omega)
      rw [e3]
      refine Ends.bind (ih _ (xget_mem hin) (@xget .expr b.args i.toNat)) fun y hy => Ends.bif (fun _ => Ends.ret ⟨fun hn => (by cases hn), fun _ => rfl⟩) (fun h2 => Ends.ret ⟨⟨hargs.symm, rfl, by (first | omega | (dsimp only at *; omega)), by (first | omega | (dsimp only at *; omega)), ?_⟩, by (first | omega | (dsimp only at *; omega))⟩)
      rw [bNot_f] at h2
      have et : (i + 1).toNat = i.toNat + 1 := by omega
      dsimp only
      rw [et]
      have t1 := take_snoc (t := .expr) (l := ar) (k := i.toNat) (by show i.toNat < ar.length; omega)
      have t2 := take_snoc (t := .expr) (l := b.args) (k := i.toNat) (by show i.toNat < b.args.length; omega)
      have h5 : @xget .expr ar i.toNat = @xget .expr b.args i.toNat := hy h2
      exact Eq.trans t1 (Eq.trans (app_congr g4 h5) t2.symm)
    · have hi : (ar.length : Int) ≤ i := ilt_f.1 h1
      rw [List.take_of_length_le (by omega), List.take_of_length_le (by omega)] at g4
      rw [hargs]; exact g4
  · rw [hz.2 (fun e => by rw [e] at h; cases h)] at h2
    cases h2
theorem Same18_ends (a b : GLine) (hw : WfE a.expr) : Ends (fun n => ref18_Sameo n a b) (fun r => r.1 = true → a = b) := by
  unfold ref18_Sameo
  rw [gx, gx]
  refine Ends.bind (R := fun y => y.1 = true → a.expr = b.expr) (Ends.bif (fun _ => Same17_ends a.expr hw b.expr) (fun _ => Ends.ret fun h => by cases h)) fun y hy => Ends.ret fun h => ?_
  rw [band_t] at h
  have h1 := hy h.2
  have h2 := h.1
  simp only [band_t, bAnd_t, ieq_t, strEq_t, bEq, beq_iff_eq] at h2
  cases a with | mk al ak ai ac ar aw asz ae =>
  cases b with | mk bl bk bi bc br bw bsz be =>
  cases ai with | mk a1 a2 a3 a4 a5 a6 a7 a8 a9 =>
  cases bi with | mk b1 b2 b3 b4 b5 b6 b7 b8 b9 =>
  dsimp only at *
  obtain ⟨⟨⟨⟨⟨⟨rfl, rfl⟩, rfl, rfl, rfl, rfl, rfl, rfl, rfl, rfl, rfl, _⟩, rfl⟩, rfl⟩, rfl⟩, rfl⟩ := h2
  subst h1
  rfl
theorem last_ends (l : GLine) (hw : WfE l.expr) : Ends (fun n => ref18_lasto n l) (fun r => r.1.size ≤ 4304672101) := by
  unfold ref18_lasto
  rw [gx]
  (repeat' (first
    | (with_reducible refine Ends.ret ?_)
    | (with_reducible refine Ends.bif (fun _ => ?_) (fun _ => ?_))
    | ((with_reducible refine Ends.chk ?_ ?_); (rw [sroom_t]; (try simp only [size_scat, lit0, lit1, lit2, lit3, lit5, lit6, lit7] at *); omega))
    | ((with_reducible refine Ends.bind (name05_ends _) ?_); rintro y h1)
    | ((with_reducible refine Ends.bind (name04_ends _) ?_); rintro y h1)
    | ((with_reducible refine Ends.bind (Print05_ends _) ?_); rintro y h1)
    | ((with_reducible refine Ends.bind (Print_ends _ ?_) ?_); exact hw; rintro y h1)
    | ((with_reducible refine Ends.bind (last_ends _ ?_) ?_); exact hw; rintro y h1)))
  all_goals (dsimp only; (try simp only [size_scat, lit0, lit1, lit2, lit3] at *); omega)
theorem operandsP_ends (l : GLine) (hw : WfE l.expr) (hr : l.ref.size ≤ 300) : Ends (fun n => ref18_operandso n l) (fun r => r.1.size ≤ 4304672500) := by
  unfold ref18_operandso
  rw [gx]
  (repeat' (first
    | (with_reducible refine Ends.ret ?_)
    | (with_reducible refine Ends.bif (fun _ => ?_) (fun _ => ?_))
    | ((with_reducible refine Ends.chk ?_ ?_); (rw [sroom_t]; (try simp only [size_scat, lit0, lit1, lit2, lit3, lit5, lit6, lit7] at *); omega))
    | ((with_reducible refine Ends.bind (name05_ends _) ?_); rintro y h1)
    | ((with_reducible refine Ends.bind (name04_ends _) ?_); rintro y h1)
    | ((with_reducible refine Ends.bind (Print05_ends _) ?_); rintro y h1)
    | ((with_reducible refine Ends.bind (Print_ends _ ?_) ?_); exact hw; rintro y h1)
    | ((with_reducible refine Ends.bind (last_ends _ ?_) ?_); exact hw; rintro y h1)))
  all_goals (dsimp only; (try simp only [size_scat, lit0, lit1, lit2, lit3] at *); omega)
end Go.Ev.Tryz
namespace Go.Ev.Tryz
open Go Go.Ev
set_option maxHeartbeats 4000000
abbrev tupL (l : GLine) : LT := (l.label, l.kind, l.ins.op, l.ins.cond, l.ins.rd, l.ins.rn, l.ins.rm, l.ins.imm, l.ins.mode, l.ins.list, l.ins.s, l.cond, l.ref, l.wide, l.size, l.expr.op, l.expr.n, l.expr.name, l.expr.args, ())
theorem text_loop (l : GLine) (w : ByteArray) (c : List Int) (hw : w.size ≤ 4) (hc : c.length ≤ 4) : Ends (fun n => iter (ref18_text_L7f n) n (((), (⟨#[]⟩ : ByteArray), w, c, (1 : Int), ()), (tupL l, ()))) (fun z => z.2.2.1 = tupL l ∧ z.2.1.2.2.1.size ≤ 8) := by
  refine Ends.loop (I := fun x => x.2 = (tupL l, ()) ∧ x.1.2.2.2.1 = c ∧ 1 ≤ x.1.2.2.2.2.1 ∧ x.1.2.2.2.2.1 ≤ 5 ∧ ((x.1.2.2.1.size : Int) ≤ 3 + x.1.2.2.2.2.1)) (μ := fun x => (5 - x.1.2.2.2.2.1).toNat) ⟨rfl, rfl, by simp, by simp, by dsimp only; omega⟩ fun x hx => ?_
  obtain ⟨⟨x1, x2, s3, c', i, _⟩, o⟩ := x
  obtain ⟨rfl, rfl, g1, g2, g3⟩ := hx
  dsimp only at g1 g2 g3 hc
  simp only [ref18_text_L7f, ref18_text_L7]
  refine Ends.bif (fun h => ?_) (fun _ => Ends.ret ⟨rfl, by (first | omega | (dsimp only at *; omega))⟩)
  have hi : i < (c'.length : Int) := ilt_t.1 h
  rw [inc_i64 (by omega) (by omega)]
  refine Ends.chk (inside_t.2 ⟨by omega, hi⟩) (Ends.bif (fun _ => Ends.chk (by (rw [sroom_t]; (try simp only [size_scat, lit0, lit1, lit2, lit3, lit5, lit6, lit7] at *); omega)) (Ends.ret ⟨⟨rfl, rfl, by (first | omega | (dsimp only at *; omega)), by (first | omega | (dsimp only at *; omega)), ?_⟩, by (first | omega | (dsimp only at *; omega))⟩)) (fun _ => Ends.chk (by (rw [sroom_t]; (try simp only [size_scat, lit0, lit1, lit2, lit3, lit5, lit6, lit7] at *); omega)) (Ends.ret ⟨⟨rfl, rfl, by (first | omega | (dsimp only at *; omega)), by (first | omega | (dsimp only at *; omega)), ?_⟩, by (first | omega | (dsimp only at *; omega))⟩)))
  · simp only [size_scat, lit1]; omega
  · simp only [size_scat, lit1]; omega
end Go.Ev.Tryz
namespace Go.Ev.Tryz
open Go Go.Ev
set_option maxHeartbeats 4000000
theorem text18_ends (l : GLine) (hw : WfE l.expr) (hr : l.ref.size ≤ 300) : Ends (fun n => ref18_texto n l) (fun r => r.1.size ≤ 4304673000) := by
  unfold ref18_texto
  refine Ends.bif (fun _ => Ends.ret (by simp [ByteArray.size])) (fun _ => Ends.bind (name06_ends _) fun y1 h1 => Ends.bif (fun _ => ?_) (fun _ => ?_))
  · refine Ends.bind (Conds_ends _ _) ?_
    rintro y2 ⟨h2, h2'⟩
    refine Ends.bind (text_loop l y1.1 y2.1 h1 h2) ?_
    rintro ⟨z1, ⟨za, zb, zw, zr⟩, ⟨z3, z4⟩⟩ ⟨g1, g2⟩
    dsimp only at g1 g2
    subst g1
    have hl : (⟨(tupL l).1, (tupL l).2.1, (⟨(tupL l).2.2.1, (tupL l).2.2.2.1, (tupL l).2.2.2.2.1, (tupL l).2.2.2.2.2.1, (tupL l).2.2.2.2.2.2.1, (tupL l).2.2.2.2.2.2.2.1, (tupL l).2.2.2.2.2.2.2.2.1, (tupL l).2.2.2.2.2.2.2.2.2.1, (tupL l).2.2.2.2.2.2.2.2.2.2.1⟩ : GIns), (tupL l).2.2.2.2.2.2.2.2.2.2.2.1, (tupL l).2.2.2.2.2.2.2.2.2.2.2.2.1, (tupL l).2.2.2.2.2.2.2.2.2.2.2.2.2.1, (tupL l).2.2.2.2.2.2.2.2.2.2.2.2.2.2.1, (GExpr.mk (tupL l).2.2.2.2.2.2.2.2.2.2.2.2.2.2.2.1 (tupL l).2.2.2.2.2.2.2.2.2.2.2.2.2.2.2.2.1 (tupL l).2.2.2.2.2.2.2.2.2.2.2.2.2.2.2.2.2.1 (tupL l).2.2.2.2.2.2.2.2.2.2.2.2.2.2.2.2.2.2.1)⟩ : GLine) = l := by
      cases l with | mk al ak ai ac ar aw asz ae => cases ae; rfl
    have op := operandsP_ends l hw hr
    refine Ends.bif (fun _ => Ends.chk (by (rw [sroom_t]; (try simp only [size_scat, lit0, lit1, lit2, lit3, lit5, lit6, lit7] at *); omega)) (Ends.bind (name04_ends _) fun y4 h4 => Ends.chk (by (rw [sroom_t]; (try simp only [size_scat, lit0, lit1, lit2, lit3, lit5, lit6, lit7] at *); omega)) (Ends.bif (fun _ => Ends.chk (by (rw [sroom_t]; (try simp only [size_scat, lit0, lit1, lit2, lit3, lit5, lit6, lit7] at *); omega)) (Ends.bind (R := fun r => r.1.size ≤ 4304672500) (by rw [hl]; exact op) fun y5 h5 => ?_)) (fun _ => Ends.bind (R := fun r => r.1.size ≤ 4304672500) (by rw [hl]; exact op) fun y5 h5 => ?_)))) (fun _ => Ends.bind (name04_ends _) fun y4 h4 => Ends.chk (by (rw [sroom_t]; (try simp only [size_scat, lit0, lit1, lit2, lit3, lit5, lit6, lit7] at *); omega)) (Ends.bif (fun _ => Ends.chk (by (rw [sroom_t]; (try simp only [size_scat, lit0, lit1, lit2, lit3, lit5, lit6, lit7] at *); omega)) (Ends.bind (R := fun r => r.1.size ≤ 4304672500) (by rw [hl]; exact op) fun y5 h5 => ?_)) (fun _ => Ends.bind (R := fun r => r.1.size ≤ 4304672500) (by rw [hl]; exact op) fun y5 h5 => ?_)))
    all_goals (refine Ends.bif (fun _ => Ends.chk (by (rw [sroom_t]; (try simp only [size_scat, lit0, lit1, lit2, lit3, lit5, lit6, lit7] at *); omega)) (Ends.chk (by (rw [sroom_t]; (try simp only [size_scat, lit0, lit1, lit2, lit3, lit5, lit6, lit7] at *); omega)) (Ends.ret ?_))) (fun _ => Ends.ret ?_))
    all_goals (dsimp only; (try simp only [size_scat, lit0, lit1, lit2, lit3] at *); omega)
  · have op := operandsP_ends l hw hr
    refine Ends.bif (fun _ => Ends.chk (by (rw [sroom_t]; (try simp only [size_scat, lit0, lit1, lit2, lit3, lit5, lit6, lit7] at *); omega)) (Ends.bind (name04_ends _) fun y4 h4 => Ends.chk (by (rw [sroom_t]; (try simp only [size_scat, lit0, lit1, lit2, lit3, lit5, lit6, lit7] at *); omega)) (Ends.bif (fun _ => Ends.chk (by (rw [sroom_t]; (try simp only [size_scat, lit0, lit1, lit2, lit3, lit5, lit6, lit7] at *); omega)) (Ends.bind op fun y5 h5 => ?_)) (fun _ => Ends.bind op fun y5 h5 => ?_)))) (fun _ => Ends.bind (name04_ends _) fun y4 h4 => Ends.chk (by (rw [sroom_t]; (try simp only [size_scat, lit0, lit1, lit2, lit3, lit5, lit6, lit7] at *); omega)) (Ends.bif (fun _ => Ends.chk (by (rw [sroom_t]; (try simp only [size_scat, lit0, lit1, lit2, lit3, lit5, lit6, lit7] at *); omega)) (Ends.bind op fun y5 h5 => ?_)) (fun _ => Ends.bind op fun y5 h5 => ?_)))
    all_goals (refine Ends.bif (fun _ => Ends.chk (by (rw [sroom_t]; (try simp only [size_scat, lit0, lit1, lit2, lit3, lit5, lit6, lit7] at *); omega)) (Ends.chk (by (rw [sroom_t]; (try simp only [size_scat, lit0, lit1, lit2, lit3, lit5, lit6, lit7] at *); omega)) (Ends.ret ?_))) (fun _ => Ends.ret ?_))
    all_goals (dsimp only; (try simp only [size_scat, lit0, lit1, lit2, lit3] at *); omega)
theorem r8_of {l : List GTok} (h : (∀ t ∈ l, TokOK t) ∧ l.length ≤ 256) {i : Int} (h0 : 0 ≤ i) (h1 : i ≤ 1000) : R8 (l, i, 0, ()) := ⟨h0, h1, h.2, h.1⟩
theorem Print18_ends (l : GLine) (hw : WfE l.expr) (hr : l.ref.size ≤ 300) : Ends (fun n => ref18_Printo n l) (fun r => r.1.size ≤ 4304673000) := by
  unfold ref18_Printo
  refine Ends.bind (text18_ends l hw hr) fun y1 h1 => Ends.bind (Line_ends _) fun y2 h2 => Ends.bif (fun _ => Ends.ret (by simp [ByteArray.size])) (fun _ => Ends.bind (Read18_ends _ _ (r8_of h2 (by simp) (by simp))) fun y3 h3 => Ends.bind (R := fun _ => True) (Ends.bif (fun _ => (Same18_ends _ _ h3.1).mono fun _ _ => trivial) (fun _ => Ends.ret trivial)) fun y4 _ => Ends.bif (fun _ => Ends.ret (by simp [ByteArray.size])) (fun _ => Ends.ret h1))
theorem log_ends (m : Int) (h0 : m ≤ 9223372036854775807) : Ends (fun n => ref19_logo n m) (fun r => 0 ≤ r.1 ∧ r.1 ≤ 9223372036854775807) := by
  unfold ref19_logo
  refine Ends.bind (R := fun z => 0 ≤ z.2.1.2.2.1 ∧ z.2.1.2.2.1 ≤ 9223372036854775807) (Ends.loop (I := fun x => 0 ≤ x.1.2.2.1 ∧ x.1.1 ≤ 9223372036854775807 ∧ (x.1.2.2.1 = 0 ∨ (1 ≤ x.1.1 ∧ x.1.2.2.1 + x.1.1 ≤ 9223372036854775807))) (μ := fun x => x.1.1.toNat) ⟨by simp, h0, Or.inl rfl⟩ fun x hx => ?_) fun z hz => Ends.ret hz
  obtain ⟨⟨m, s, k, _⟩, _⟩ := x
  obtain ⟨g1, g2, g3⟩ := hx
  dsimp only at g1 g2 g3
  simp only [ref19_log_L2f, ref19_log_L2]
  refine Ends.bif (fun h => ?_) (fun h => Ends.ret ⟨by (first | omega | (dsimp only at *; omega)), by (first | omega | (dsimp only at *; omega))⟩)
  rw [ilt_t] at h
  have e1 : wquo .i64 m 2 = m / 2 := wquo_i64 (by omega) g2 (by simp)
  have e2 : wr .i64 (iadd k 1) = k + 1 := by simp only [iadd]; exact wr_i64 (by omega) (by omega)
  rw [e1, e2]
  exact Ends.ret ⟨⟨by (first | omega | (dsimp only at *; omega)), by (first | omega | (dsimp only at *; omega)), by dsimp only; omega⟩, by (first | omega | (dsimp only at *; omega))⟩
theorem size19_lo (s : ByteArray) : 0 ≤ ref19_size s ∧ ref19_size s ≤ 4 := by
  unfold ref19_size ref19_sizeo
  cases strEq s _ <;> cases strEq s _ <;> cases strEq s _ <;> (simp only [cond_true, cond_false, Option.map_some, Option.getD_some]; exact ⟨of_decide_eq_true rfl, of_decide_eq_true rfl⟩)
theorem text19_ends (l : GLine) (hl : WfLine l) (hr : l.ref.size ≤ 300) : Ends (fun n => ref19_texto n l) (fun r => r.1.size ≤ 4304674000) := by
  have hw := hl.expr
  have hs := hl.size.2
  have hs' : l.size ≤ 9223372036854775807 := hs
  have pr : Ends (fun n => ref18_Printo n (⟨(⟨#[]⟩ : ByteArray), l.kind, l.ins, l.cond, l.ref, l.wide, l.size, (GExpr.mk l.expr.op l.expr.n l.expr.name l.expr.args)⟩ : GLine)) (fun r => r.1.size ≤ 4304673000) := Print18_ends _ (wf_gx hw) hr
  have p17 : Ends (fun n => ref17_Printo n (GExpr.mk l.expr.op l.expr.n l.expr.name l.expr.args)) (fun r => r.1.size ≤ 4304672100) := Print_ends _ (wf_gx hw)
  have dg : Ends (fun n => ref16_Digitso n (imax l.size 0)) (fun r => r.1.size ≤ 20 ∧ 0 < r.1.size) := Digits_ends _ (by rw [imax_eq]; split <;> omega) (by rw [imax_eq]; split <;> omega)
  have rest : Ends (fun n => bif (ieq l.kind 3) then
        bif (ieq l.size 2) then
          bif (ieq l.size 1) then
            ((ref17_Printo n (GExpr.mk l.expr.op l.expr.n l.expr.name l.expr.args))).bind fun y2 =>
              chk (sroom (⟨#[46, 98, 121, 116, 101, 32]⟩ : ByteArray) y2.1) (
                some ((scat (⟨#[46, 98, 121, 116, 101, 32]⟩ : ByteArray) y2.1), ()))
          else
            ((ref17_Printo n (GExpr.mk l.expr.op l.expr.n l.expr.name l.expr.args))).bind fun y3 =>
              chk (sroom (⟨#[46, 104, 119, 111, 114, 100, 32]⟩ : ByteArray) y3.1) (
                some ((scat (⟨#[46, 104, 119, 111, 114, 100, 32]⟩ : ByteArray) y3.1), ()))
        else
          bif (ieq l.size 1) then
            ((ref17_Printo n (GExpr.mk l.expr.op l.expr.n l.expr.name l.expr.args))).bind fun y4 =>
              chk (sroom (⟨#[46, 98, 121, 116, 101, 32]⟩ : ByteArray) y4.1) (
                some ((scat (⟨#[46, 98, 121, 116, 101, 32]⟩ : ByteArray) y4.1), ()))
          else
            ((ref17_Printo n (GExpr.mk l.expr.op l.expr.n l.expr.name l.expr.args))).bind fun y5 =>
              chk (sroom (⟨#[46, 119, 111, 114, 100, 32]⟩ : ByteArray) y5.1) (
                some ((scat (⟨#[46, 119, 111, 114, 100, 32]⟩ : ByteArray) y5.1), ()))
      else
        bif (ieq l.kind 4) then
          ((ref19_logo n l.size)).bind fun y6 =>
            ((ref16_Digitso n y6.1)).bind fun y7 =>
              chk (sroom (⟨#[46, 97, 108, 105, 103, 110, 32]⟩ : ByteArray) y7.1) (
                some ((scat (⟨#[46, 97, 108, 105, 103, 110, 32]⟩ : ByteArray) y7.1), ()))
        else
          bif (ieq l.kind 5) then
            some ((⟨#[46, 108, 116, 111, 114, 103]⟩ : ByteArray), ())
          else
            bif (ieq l.kind 6) then
              chk (sroom (⟨#[46, 101, 113, 117, 32]⟩ : ByteArray) l.ref) (
                chk (sroom (scat (⟨#[46, 101, 113, 117, 32]⟩ : ByteArray) l.ref) (⟨#[44, 32]⟩ : ByteArray)) (
                  ((ref17_Printo n (GExpr.mk l.expr.op l.expr.n l.expr.name l.expr.args))).bind fun y8 =>
                    chk (sroom (scat (scat (⟨#[46, 101, 113, 117, 32]⟩ : ByteArray) l.ref) (⟨#[44, 32]⟩ : ByteArray)) y8.1) (
                      some ((scat (scat (scat (⟨#[46, 101, 113, 117, 32]⟩ : ByteArray) l.ref) (⟨#[44, 32]⟩ : ByteArray)) y8.1), ()))))
            else
              bif (ieq l.kind 7) then
                ((ref16_Digitso n (imax l.size 0))).bind fun y9 =>
                  chk (sroom (⟨#[46, 115, 112, 97, 99, 101, 32]⟩ : ByteArray) y9.1) (
                    some ((scat (⟨#[46, 115, 112, 97, 99, 101, 32]⟩ : ByteArray) y9.1), ()))
              else
                some ((⟨#[]⟩ : ByteArray), ())) (fun r => r.1.size ≤ 4304674000) := by
    refine Ends.bif (fun _ => Ends.bif (fun _ => Ends.bif (fun _ => Ends.bind p17 fun y h1 => ?_) (fun _ => Ends.bind p17 fun y h1 => ?_)) (fun _ => Ends.bif (fun _ => Ends.bind p17 fun y h1 => ?_) (fun _ => Ends.bind p17 fun y h1 => ?_))) (fun _ => Ends.bif (fun _ => Ends.bind (log_ends _ hs') fun y6 h6 => Ends.bind (Digits_ends _ h6.1 h6.2) fun y h1' => ?_) (fun _ => Ends.bif (fun _ => Ends.ret (by simp [lit6])) (fun _ => Ends.bif (fun _ => Ends.chk (by (rw [sroom_t]; (try simp only [size_scat, lit0, lit1, lit2, lit3, lit5, lit6, lit7] at *); omega)) (Ends.chk (by (rw [sroom_t]; (try simp only [size_scat, lit0, lit1, lit2, lit3, lit5, lit6, lit7] at *); omega)) (Ends.bind p17 fun y h1 => ?_))) (fun _ => Ends.bif (fun _ => Ends.bind dg fun y h1' => ?_) (fun _ => Ends.ret (by simp [lit0]))))))
    all_goals (first | have h1 := h1'.1 | skip)
    all_goals (refine Ends.chk (by (rw [sroom_t]; (try simp only [size_scat, lit0, lit1, lit2, lit3, lit5, lit6, lit7] at *); omega)) (Ends.ret ?_); dsimp only; simp only [size_scat, lit0, lit1, lit2, lit3, lit5, lit6, lit7]; omega)
  unfold ref19_texto
  refine Ends.bif (fun h => ?_) (fun _ => Ends.bif (fun _ => Ends.bind pr fun y h => Ends.ret (by dsimp only; omega)) (fun _ => rest))
  exact Ends.bif (fun _ => Ends.bind pr fun y h => Ends.ret (by dsimp only; omega)) (fun h2 => by rw [h] at h2; cases h2)
end Go.Ev.Tryz
namespace Go.Ev.Tryz
open Go Go.Ev
set_option maxHeartbeats 4000000
def LK (x : GLine) : Prop := WfE x.expr ∧ 0 ≤ x.size ∧ x.size ≤ 1048576
theorem lk0 : LK (⟨(⟨#[]⟩ : ByteArray), 0, (⟨0, 0, 0, 0, 0, 0, 0, 0, false⟩ : GIns), 0, (⟨#[]⟩ : ByteArray), false, 0, (GExpr.mk 0 0 (⟨#[]⟩ : ByteArray) ([] : List GExpr))⟩ : GLine) := ⟨w00, by simp, by simp⟩
theorem shl_small (x : Int) (h0 : 1 ≤ x) (h1 : x ≤ 8) : 0 ≤ wshl .i64 1 (wr .u64 (wrem x 16)) ∧ wshl .i64 1 (wr .u64 (wrem x 16)) ≤ 1048576 := by
  have h : x = 1 ∨ x = 2 ∨ x = 3 ∨ x = 4 ∨ x = 5 ∨ x = 6 ∨ x = 7 ∨ x = 8 := by omega
  rcases h with rfl | rfl | rfl | rfl | rfl | rfl | rfl | rfl <;> exact ⟨by decide, by decide⟩
theorem directive_ends (l : List GTok) (h : (∀ t ∈ l, TokOK t) ∧ l.length ≤ 256) (hne : 0 < l.length) : Ends (fun n => ref19_directiveo n l) (fun r => LK r.1.1) := by
  unfold ref19_directiveo
  have hx : iof (@xlen .tok l) = (l.length : Int) := rfl
  rw [hx]
  refine Ends.chk (inside_t.2 ⟨by simp, by omega⟩) ?_
  dsimp only
  refine Ends.bif (fun _ => ?_) (fun _ => Ends.bif (fun _ => Ends.bif (fun _ => Ends.ret lk0) (fun _ => Ends.ret ⟨w00, by simp, by simp⟩)) (fun _ => Ends.bif (fun _ => ?_) (fun _ => Ends.bif (fun _ => ?_) (fun _ => Ends.ret lk0))))
  · refine Ends.bind (Term_ends _ (r8_of h (by simp) (by simp))) ?_
    rintro y ⟨h1, h2, h3⟩
    have hs := size19_lo (@xget .tok l 0).text
    exact Ends.bif (fun _ => Ends.ret lk0) (fun _ => Ends.bif (fun _ => Ends.ret lk0) (fun _ => Ends.ret ⟨wf_gx h3, hs.1, by have := hs.2; dsimp only; omega⟩))
  · refine Ends.bind (Name18_ends _ (r8_of h (by simp) (by simp))) ?_
    rintro y ⟨h1, h2, h3⟩
    dsimp only at h2 h3
    have e1 : wr .i64 (iadd y.2.1.2.1 1) = y.2.1.2.1 + 1 := by simp only [iadd]; exact wr_i64 (by omega) (by omega)
    have hR : ∀ e : Int, R8 (y.2.1.1, wr .i64 (iadd y.2.1.2.1 1), e, ()) := fun e => by rw [e1]; exact ⟨by (first | omega | (dsimp only at *; omega)), by (first | omega | (dsimp only at *; omega)), h1.2.2⟩
    have fin : ∀ (s : ByteArray) (e : Int), Ends (fun n => (ref18_R_Termo n () (y.2.1.1, (wr .i64 (iadd y.2.1.2.1 1)), e, ())).bind fun y6 =>
                    bif (bif (ieq y6.2.1.2.2.1 0) then (bNot (ieq y6.2.1.2.1 (l.length : Int))) else false) then
                      some (((⟨(⟨#[]⟩ : ByteArray), 0, (⟨0, 0, 0, 0, 0, 0, 0, 0, false⟩ : GIns), 0, (⟨#[]⟩ : ByteArray), false, 0, (GExpr.mk 0 0 (⟨#[]⟩ : ByteArray) ([] : List GExpr))⟩ : GLine), true, (3 : Int), ()), ())
                    else
                      bif (bNot (ieq y6.2.1.2.2.1 0)) then
                        some (((⟨(⟨#[]⟩ : ByteArray), 0, (⟨0, 0, 0, 0, 0, 0, 0, 0, false⟩ : GIns), 0, (⟨#[]⟩ : ByteArray), false, 0, (GExpr.mk 0 0 (⟨#[]⟩ : ByteArray) ([] : List GExpr))⟩ : GLine), true, y6.2.1.2.2.1, ()), ())
                      else
                        some (((⟨(⟨#[]⟩ : ByteArray), 6, (⟨0, 0, 0, 0, 0, 0, 0, 0, false⟩ : GIns), 0, s, false, 0, (GExpr.mk y6.1.op y6.1.n y6.1.name y6.1.args)⟩ : GLine), true, (0 : Int), ()), ())) (fun r => LK r.1.1) := by
      intro s e
      refine Ends.bind (Term_ends _ (hR e)) ?_
      rintro z ⟨g1, g2, g3⟩
      exact Ends.bif (fun _ => Ends.ret lk0) (fun _ => Ends.bif (fun _ => Ends.ret lk0) (fun _ => Ends.ret ⟨wf_gx g3, by simp, by simp⟩))
    have k1 : ∀ c : Bool, bNot (bAnd (bNot (inside y.2.1.2.1 (l.length : Int))) (bAnd c (bNot (ile (l.length : Int) y.2.1.2.1)))) = true := fun c => by
      simp only [evs]; omega
    have k2 : ∀ c d : Bool, bNot (bAnd (bNot (inside y.2.1.2.1 (l.length : Int))) (bAnd c (bNot (bif (ile (l.length : Int) y.2.1.2.1) then true else d)))) = true := fun c d => by
      simp only [evs]; omega
    exact Ends.chk (k1 _) (Ends.chk (k2 _ _) (Ends.bif (fun _ => fin _ _) (fun _ => fin _ _)))
  · refine Ends.chk (by simp only [evs]; omega) (Ends.bif (fun _ => Ends.ret lk0) (fun h2 => ?_))
    simp only [evs] at h2
    have hin : inside 1 (l.length : Int) = true := inside_t.2 ⟨by simp, by omega⟩
    refine Ends.chk hin ?_
    have tk : TokOK (@xget .tok l 1) := h.1 _ (@xget_mem .tok l 1 hin)
    refine Ends.bif (fun _ => Ends.chk (ile_t.2 (wr_u64_nonneg _)) (Ends.bif (fun _ => Ends.ret lk0) (fun _ => Ends.bif (fun _ => Ends.ret lk0) (fun h3 => ?_)))) (fun _ => Ends.bif (fun _ => Ends.ret lk0) (fun _ => Ends.bif (fun _ => Ends.ret lk0) (fun h3 => ?_)))
    · simp only [evs] at h3
      have hs := shl_small _ h3.1 h3.2
      exact Ends.ret ⟨w00, hs.1, hs.2⟩
    · simp only [evs] at h3
      exact Ends.ret ⟨w00, tk.2.1, h3⟩
theorem One_ends (s : ByteArray) : Ends (fun n => ref19_Oneo n s) (fun r => LK r.1.1) := by
  unfold ref19_Oneo
  refine Ends.bind (Line_ends s) fun y1 h1 => Ends.bif (fun _ => Ends.ret lk0) (fun _ => ?_)
  generalize y1.1.1 = l at h1
  have hx : iof (@xlen .tok l) = (l.length : Int) := rfl
  have hxd : iof (@xlen .tok (@xdrop .tok l 2)) = ((l.drop 2).length : Int) := rfl
  have hl2 : ((l.drop 2).length : Int) = l.length - 2 ∨ ((l.drop 2).length : Int) = 0 := by rw [List.length_drop]; omega
  rw [hx, hxd]
  have hd : (∀ t ∈ l.drop 2, TokOK t) ∧ (l.drop 2).length ≤ 256 := ⟨fun t ht => h1.1 t (List.mem_of_mem_drop ht), by rw [List.length_drop]; omega⟩
  refine Ends.chk (by simp only [evs]; omega) (Ends.chk (by simp only [evs]; omega) (Ends.chk (by simp only [evs]; omega) (Ends.chk (by simp only [evs]; omega) ?_)))
  have lk : ∀ (lab : ByteArray) (y : GLine), LK y → LK (⟨lab, y.kind, y.ins, y.cond, y.ref, y.wide, y.size, (GExpr.mk y.expr.op y.expr.n y.expr.name y.expr.args)⟩ : GLine) := fun lab y hy => ⟨wf_gx hy.1, hy.2.1, hy.2.2⟩
  have lk18 : ∀ y : GLine, LOK y → LK y := fun y hy => ⟨hy.1, by rw [hy.2]; simp, by rw [hy.2]; simp⟩
  dsimp only
  refine Ends.bind (R := fun _ => True) (Ends.bif (fun _ => (Name_ends _).mono fun _ _ => trivial) (fun _ => Ends.ret trivial)) fun y6 _ => Ends.bif (fun h => ?_) (fun _ => Ends.bif (fun _ => Ends.ret lk0) (fun hne => ?_))
  · simp only [evs] at h
    refine Ends.chk (inside_t.2 ⟨by simp, by omega⟩) (Ends.chk (bounds_t.2 ⟨by simp, by omega, by omega⟩) (Ends.bif (fun _ => Ends.ret ⟨w00, by simp, by simp⟩) (fun hne => Ends.chk (by simp only [evs] at *; omega) (Ends.bif (fun _ => Ends.ret lk0) (fun _ => ?_)))))
    rw [ieq_f] at hne
    refine Ends.bind (directive_ends _ hd (by show 0 < (l.drop 2).length; omega)) fun y9 h9 => Ends.bif (fun _ => Ends.bind (Read18_ends _ _ (r8_of hd (by simp) (by simp))) fun y10 h10 => Ends.bif (fun _ => Ends.ret lk0) (fun _ => Ends.ret (lk _ _ (lk18 _ h10)))) (fun _ => Ends.bif (fun _ => Ends.ret lk0) (fun _ => Ends.ret (lk _ _ h9)))
  · rw [ieq_f] at hne
    refine Ends.chk (inside_t.2 ⟨by simp, by omega⟩) (Ends.bif (fun _ => Ends.ret lk0) (fun _ => ?_))
    refine Ends.bind (directive_ends _ h1 (by omega)) fun y9 h9 => Ends.bif (fun _ => Ends.bind (Read18_ends _ _ (r8_of h1 (by simp) (by simp))) fun y10 h10 => Ends.bif (fun _ => Ends.ret lk0) (fun _ => Ends.ret (lk _ _ (lk18 _ h10)))) (fun _ => Ends.bif (fun _ => Ends.ret lk0) (fun _ => Ends.ret (lk _ _ h9)))
theorem Line19_ends (l : GLine) (hl : WfLine l) (hr : l.ref.size ≤ 300) (hb : l.label.size ≤ 300) : Ends (fun n => ref19_Lineo n l) (fun r => r.1.2.1 = true → LK l) := by
  unfold ref19_Lineo
  have fin : ∀ (s t : ByteArray), Ends (fun n => (ref19_Oneo n s).bind fun y2 =>
            ((bif (ieq y2.1.2.1 0) then (ref18_Sameo n y2.1.1 l) else (some (dfS (.ty .b), dfObs [])))).bind fun y3 =>
              some ((t, (bif (ieq y2.1.2.1 0) then y3.1 else false), ()), ())) (fun r => r.1.2.1 = true → LK l) := by
    intro s t
    refine Ends.bind (One_ends s) fun y2 h2 => ?_
    cases hc : ieq y2.1.2.1 0 with
    | true => exact Ends.bind (Same18_ends _ _ h2.1) fun y3 h3 => Ends.ret fun h => by rw [← h3 h]; exact h2
    | false => exact Ends.bind (R := fun _ => True) (Ends.ret trivial) fun y3 _ => Ends.ret fun h => by cases h
  refine Ends.bind (text19_ends l hl hr) fun y1 h1 => Ends.bif (fun _ => Ends.bif (fun _ => Ends.chk (by (rw [sroom_t]; (try simp only [size_scat, lit0, lit1, lit2, lit3, lit5, lit6, lit7] at *); omega)) (fin _ _)) (fun _ => Ends.chk (by (rw [sroom_t]; (try simp only [size_scat, lit0, lit1, lit2, lit3, lit5, lit6, lit7] at *); omega)) (Ends.chk (by (rw [sroom_t]; (try simp only [size_scat, lit0, lit1, lit2, lit3, lit5, lit6, lit7] at *); omega)) (fin _ _)))) (fun _ => fin _ _)
end Go.Ev.Tryz
namespace Go.Ev.Tryz
open Go Go.Ev
set_option maxHeartbeats 4000000
theorem Few17_ends (e : GExpr) (hw : WfE e) : ∀ (deep left : Int), Ends (fun n => law17_Fewo n e deep left) (fun _ => True) := by
  induction hw with
  | mk op en name args w1 w2 w3 w4 w5 ih =>
  intro deep left
  refine Ends.succ (g := fun n => law17_FewB n (law17_Fewo n) (GExpr.mk op en name args) deep left) (fun n => rfl) ?_
  unfold law17_FewB
  refine Ends.bif (fun _ => Ends.ret trivial) (fun h => ?_)
  refine Ends.bind (R := fun _ => True) (Ends.loop (I := fun x => x.2.1.2.2.2.1 = args ∧ 0 ≤ x.1.2.2.2.2.1 ∧ x.1.2.2.2.2.1 ≤ (args.length : Int)) (μ := fun x => ((args.length : Int) - x.1.2.2.2.2.1).toNat) ⟨rfl, by simp, by simp⟩ fun x hx => ?_) fun z hz => Ends.ret trivial
  obtain ⟨⟨dp, lf, x3, x4, i, _⟩, ⟨⟨o1, o2, o3, ar, _⟩, _⟩⟩ := x
  obtain ⟨rfl, g4, g5⟩ := hx
  dsimp only at *
  simp only [law17_Few_L5f, law17_Few_L5]
  refine Ends.bif (fun h => ?_) (fun h => Ends.ret trivial)
  have hi : i < (ar.length : Int) := by
    simp only [band_t, ilt_t, ile_t] at h; exact h.1
  have hin : inside i (iof (@xlen .expr ar)) = true := inside_t.2 ⟨g4, hi⟩
  refine Ends.chk hin ?_
  have hm := xget_mem hin
  rw [gx (@xget .expr ar i.toNat)]
  have e3 : wr .i64 (iadd i 1) = i + 1 := by simp only [iadd]; exact wr_i64 (by omega) (by unfold maxLen at w4; omega)
  rw [e3]
  exact Ends.bind (ih (@xget .expr ar i.toNat) hm _ _) fun y _ => Ends.ret ⟨⟨rfl, by (first | omega | (dsimp only at *; omega)), by (first | omega | (dsimp only at *; omega))⟩, by (first | omega | (dsimp only at *; omega))⟩
def Small (x : GLine) : Prop := x.label.size ≤ 300 ∧ x.ref.size ≤ 300
theorem take_all {P : GLine → Prop} {l : List GLine} {i : Int} (h0 : 0 ≤ i) (hi : i < (l.length : Int)) (h : ∀ y ∈ l.take i.toNat, P y) (hx : P (@xget .line l i.toNat)) : ∀ y ∈ l.take (i + 1).toNat, P y := by
  intro u hu
  have et : (i + 1).toNat = i.toNat + 1 := by omega
  rw [et] at hu
  rcases take_step (t := .line) (ar := l) (show i.toNat < l.length by omega) hu with hu | hu
  · exact h u hu
  · rw [hu]; exact hx
theorem of_all {P : GLine → Prop} {l : List GLine} {i : Int} (hi : (l.length : Int) ≤ i) (h : ∀ y ∈ l.take i.toNat, P y) : ∀ y ∈ l, P y := by
  rw [List.take_of_length_le (by omega)] at h; exact h
theorem Few19_ends (l : List GLine) (hl : ∀ x ∈ l, WfLine x) : Ends (fun n => law19_Fewo n l) (fun r => (r.1 = 0 ∨ r.1 = 1) ∧ (r.1 = 1 → l.length ≤ 300 ∧ ∀ x ∈ l, Small x)) := by
  unfold law19_Fewo
  have hx : iof (@xlen .line l) = (l.length : Int) := rfl
  rw [hx]
  refine Ends.bif (fun _ => Ends.ret ⟨.inl rfl, fun h => by cases h⟩) (fun hn => ?_)
  rw [ilt_f] at hn
  refine Ends.bind (R := fun z => (z.1 = 0 ∧ ∀ x ∈ l, Small x) ∨ (z.1 = 1 ∧ z.2.1.2.1 = 0)) (Ends.loop (I := fun x => x.1.1 = l ∧ 0 ≤ x.1.2.2.1 ∧ x.1.2.2.1 ≤ (l.length : Int) ∧ ∀ y ∈ l.take x.1.2.2.1.toNat, Small y) (μ := fun x => ((l.length : Int) - x.1.2.2.1).toNat) ⟨rfl, by simp, by simp, by simp⟩ fun x hx => ?_) fun z hz => ?_
  · obtain ⟨⟨l', s, i, _⟩, _⟩ := x
    obtain ⟨rfl, g1, g2, g3⟩ := hx
    dsimp only at *
    simp only [law19_Few_L4f, law19_Few_L4]
    have hx : iof (@xlen .line l') = (l'.length : Int) := rfl
    rw [hx]
    refine Ends.bif (fun h => ?_) (fun h => Ends.ret (.inl ⟨rfl, of_all (by rw [ilt_f] at h; exact h) g3⟩))
    rw [ilt_t] at h
    have hin : inside i (l'.length : Int) = true := inside_t.2 ⟨g1, h⟩
    have hm : @xget .line l' i.toNat ∈ l' := @xget_mem .line l' i hin
    rw [inc_i64 (by omega) (by omega)]
    refine Ends.chk hin (Ends.bind (Few17_ends _ (wf_gx (hl _ hm).expr) _ _) fun y2 _ => Ends.chk (by simp only [evs]; omega) (Ends.chk (by simp only [evs]; omega) (Ends.bif (fun _ => Ends.ret (.inr ⟨rfl, rfl⟩)) (fun h2 => Ends.ret ⟨⟨rfl, by (first | omega | (dsimp only at *; omega)), by (first | omega | (dsimp only at *; omega)), ?_⟩, by (first | omega | (dsimp only at *; omega))⟩))))
    refine take_all g1 h g3 ?_
    simp only [evs] at h2
    exact ⟨by omega, by omega⟩
  · refine Ends.bif (fun h => Ends.ret ⟨.inr rfl, fun _ => ⟨by omega, ?_⟩⟩) (fun h => Ends.ret ?_)
    · rcases hz with hz | hz
      · exact hz.2
      · rw [hz.1] at h; cases h
    · rcases hz with hz | hz
      · rw [hz.1] at h; cases h
      · dsimp only
        rw [hz.2]
        exact ⟨.inl rfl, fun h => by cases h⟩
def MayL (l : List GLine) : Prop := l.length ≤ 60 ∧ ∀ x ∈ l, Small x ∧ 0 ≤ x.size ∧ x.size ≤ 1048576
theorem May_lo {x n : Int} (h : 0 ≤ x) (h' : x ≤ 1048576) (hn : 0 ≤ n) (hn' : n ≤ 1048576 * 60) : wr .i64 (iadd n x) = n + x := by simp only [iadd]; exact wr_i64 (by omega) (by omega)
theorem May23_ends (l : List GLine) (hl : ∀ x ∈ l, WfLine x) : Ends (fun n => law23_Mayo n l) (fun r => (r.1 = 0 ∨ r.1 = 1) ∧ (r.1 = 1 → MayL l)) := by
  unfold law23_Mayo
  have hx : iof (@xlen .line l) = (l.length : Int) := rfl
  rw [hx]
  refine Ends.bind (Few19_ends l hl) fun y1 h1 => Ends.bif (fun _ => Ends.ret ⟨.inl rfl, fun h => by cases h⟩) (fun hn => ?_)
  simp only [evs] at hn
  have h2 := h1.2 (by rcases h1.1 with h | h <;> omega)
  refine Ends.bind (R := fun z => (z.1 = 0 ∧ ∀ x ∈ l, LK x) ∨ (z.1 = 1 ∧ z.2.1.2.1 = 0)) (Ends.loop (I := fun x => x.1.1 = l ∧ 0 ≤ x.1.2.2.2.1 ∧ x.1.2.2.2.1 ≤ (l.length : Int) ∧ 0 ≤ x.1.2.2.1 ∧ x.1.2.2.1 ≤ 1048576 * x.1.2.2.2.1 ∧ ∀ y ∈ l.take x.1.2.2.2.1.toNat, LK y) (μ := fun x => ((l.length : Int) - x.1.2.2.2.1).toNat) ⟨rfl, by simp, by simp, by simp, by simp, by simp⟩ fun x hx => ?_) fun z hz => ?_
  · obtain ⟨⟨l', s, n, i, _⟩, _⟩ := x
    obtain ⟨rfl, g1, g2, g3, g4, g5⟩ := hx
    dsimp only at *
    simp only [law23_May_L5f, law23_May_L5]
    have hx : iof (@xlen .line l') = (l'.length : Int) := rfl
    rw [hx]
    refine Ends.bif (fun h => ?_) (fun h => Ends.ret (.inl ⟨rfl, of_all (by rw [ilt_f] at h; exact h) g5⟩))
    rw [ilt_t] at h
    have hin : inside i (l'.length : Int) = true := inside_t.2 ⟨g1, h⟩
    have hm : @xget .line l' i.toNat ∈ l' := @xget_mem .line l' i hin
    rw [inc_i64 (by omega) (by omega)]
    have hsm := h2.2 _ hm
    refine Ends.chk hin (Ends.bind (Line19_ends _ (hl _ hm) hsm.2 hsm.1) fun y3 h3 => Ends.bif (fun _ => Ends.ret (.inr ⟨rfl, rfl⟩)) (fun h4 => Ends.chk hin ?_))
    rw [bNot_f] at h4
    have h5 := h3 h4
    rw [May_lo h5.2.1 h5.2.2 g3 (by omega)]
    have h6 := h5.2.1
    have h7 := h5.2.2
    exact Ends.ret ⟨⟨rfl, by (first | omega | (dsimp only at *; omega)), by (first | omega | (dsimp only at *; omega)), by (first | omega | (dsimp only at *; omega)), by (first | omega | (dsimp only at *; omega)), take_all g1 h g5 h5⟩, by (first | omega | (dsimp only at *; omega))⟩
  · refine Ends.bif (fun h => Ends.bif (fun _ => Ends.ret ⟨.inl rfl, fun h => by cases h⟩) (fun _ => Ends.ret ⟨.inr rfl, fun _ => ⟨by omega, fun x hx => ?_⟩⟩)) (fun h => Ends.ret ?_)
    · rcases hz with hz | hz
      · exact ⟨h2.2 x hx, (hz.2 x hx).2⟩
      · rw [hz.1] at h; cases h
    · rcases hz with hz | hz
      · rw [hz.1] at h; cases h
      · dsimp only
        rw [hz.2]
        exact ⟨.inl rfl, fun h => by cases h⟩
end Go.Ev.Tryz
