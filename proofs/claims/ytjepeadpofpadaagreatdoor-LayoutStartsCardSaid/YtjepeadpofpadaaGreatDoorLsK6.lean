/- Lines of instructions, as the references have them: reading and printing end. -/
import Derived.Test.YtjepeadpofpadaaGreatDoorLsK5
import Derived.Test.YtjepeadpofpadaaGreatDoorLsM3
set_option linter.unusedSimpArgs false
set_option linter.unusedVariables false
set_option linter.unusedSectionVars false
namespace Go.Ev.Tryz
open Go Go.Ev
abbrev RS8 := (List GTok) × Int × Int × Unit
abbrev LT := ByteArray × Int × Int × Int × Int × Int × Int × Int × Int × Int × Bool × Int × ByteArray × Bool × Int × Int × Int × ByteArray × (List GExpr) × Unit
def R8 (o : RS8) : Prop := 0 ≤ o.2.1 ∧ o.2.1 ≤ 1000 ∧ o.1.length ≤ 256 ∧ ∀ t ∈ o.1, TokOK t
def PL (o : LT) : Prop := WfE (GExpr.mk o.2.2.2.2.2.2.2.2.2.2.2.2.2.2.2.1 o.2.2.2.2.2.2.2.2.2.2.2.2.2.2.2.2.1 o.2.2.2.2.2.2.2.2.2.2.2.2.2.2.2.2.2.1 o.2.2.2.2.2.2.2.2.2.2.2.2.2.2.2.2.2.2.1) ∧ o.2.2.2.2.2.2.2.2.2.2.2.2.2.2.1 = 0
theorem w00 : WfE (GExpr.mk 0 0 ⟨#[]⟩ []) := wfE_mk (by simp) (by simp) (by simp) (by simp) (by simp [ByteArray.size]) (by simp) (by simp)
theorem w10 : WfE (GExpr.mk 1 0 ⟨#[]⟩ []) := wfE_mk (by simp) (by simp) (by simp) (by simp) (by simp [ByteArray.size]) (by simp) (by simp)
theorem wf_gx {e : GExpr} (h : WfE e) : WfE (GExpr.mk e.op e.n e.name e.args) := by rw [gx]; exact h
theorem t18_eq (o : RS8) : ref18_R_to () o = some (tokAt o.1 o.2.1, (o, ())) := by
  unfold ref18_R_to
  have hx : iof (@xlen .tok o.1) = (o.1.length : Int) := rfl
  rw [hx]
  by_cases h : 0 ≤ o.2.1 ∧ o.2.1 < (o.1.length : Int)
  · have h1 : (bif ilt o.2.1 0 then true else ile (o.1.length : Int) o.2.1) = false := by
      rw [bor_f, ilt_f, ile_f]; exact h
    rw [h1, tokAt_in h]
    have h2 : inside o.2.1 (o.1.length : Int) = true := inside_t.2 h
    simp only [cond_false, h2]
    rfl
  · have h1 : (bif ilt o.2.1 0 then true else ile (o.1.length : Int) o.2.1) = true := by
      rw [bor_t, ilt_t, ile_t]; omega
    rw [h1, tokAt_out h]
    rfl
theorem t18_ends (o : RS8) : Ends (fun _ : Nat => ref18_R_to () o) (fun y => y = (tokAt o.1 o.2.1, (o, ()))) := Ends.of ⟨_, t18_eq o, rfl⟩
theorem tok8 {o : RS8} (h : R8 o) (i : Int) : TokOK (tokAt o.1 i) := by
  by_cases hi : 0 ≤ i ∧ i < (o.1.length : Int)
  · rw [tokAt_in hi]
    exact h.2.2.2 _ (@xget_mem .tok o.1 i (inside_t.2 hi))
  · rw [tokAt_out hi]
    exact ⟨by simp [ByteArray.size], by simp, by simp⟩
theorem adv8 {o : RS8} (h : R8 o) {q : Int} (hq0 : q ≠ 0) (hq : ieq (tokAt o.1 o.2.1).kind q = true) : wr .i64 (iadd o.2.1 1) = o.2.1 + 1 ∧ o.2.1 + 1 ≤ 1000 ∧ R8 (o.1, wr .i64 (iadd o.2.1 1), o.2.2.1, ()) := by
  have hin : 0 ≤ o.2.1 ∧ o.2.1 < (o.1.length : Int) := by
    by_cases hi : 0 ≤ o.2.1 ∧ o.2.1 < (o.1.length : Int)
    · exact hi
    · rw [tokAt_out hi, ieq_t] at hq
      exact absurd hq.symm hq0
  have h2 := h.2.2.1
  have e1 : wr .i64 (iadd o.2.1 1) = o.2.1 + 1 := by simp only [iadd]; exact wr_i64 (by omega) (by omega)
  refine ⟨e1, by omega, ?_⟩
  rw [e1]
  exact ⟨by (first | omega | (dsimp only at *; omega)), by (first | omega | (dsimp only at *; omega)), h.2.2⟩
theorem bad_ends (e : Int) (o : RS8) (h : R8 o) : Ends (fun _ : Nat => ref18_R_bado () e o) (fun y => R8 y.2.1 ∧ o.2.1 ≤ y.2.1.2.1) := by
  unfold ref18_R_bado
  exact Ends.bif (fun _ => Ends.ret ⟨h, Int.le_refl _⟩) (fun _ => Ends.ret ⟨h, Int.le_refl _⟩)
theorem bad_ends2 (o : RS8) (h : R8 o) : Ends (fun _ : Nat => ref18_R_bado () 3 o) (fun y => R8 y.2.1 ∧ o.2.1 ≤ y.2.1.2.1 ∧ y.2.1.2.2.1 ≠ 0) := by
  unfold ref18_R_bado
  exact Ends.bif (fun _ => Ends.ret ⟨h, Int.le_refl _, by simp⟩) (fun h2 => Ends.ret ⟨h, Int.le_refl _, ieq_f.1 h2⟩)
theorem is_ends (s : ByteArray) (o : RS8) : Ends (fun _ : Nat => ref18_R_iso () s o) (fun y => y.2 = (o, ()) ∧ (y.1 = true → ieq (tokAt o.1 o.2.1).kind 3 = true)) := by
  unfold ref18_R_iso
  refine Ends.bind (t18_ends o) fun y hy => ?_
  subst hy
  refine Ends.bind (R := fun _ => True) (Ends.bif (fun _ => (t18_ends o).mono fun _ _ => trivial) (fun _ => Ends.ret trivial)) fun y2 _ => Ends.ret ⟨rfl, fun h => ?_⟩
  simp only [band_t] at h
  exact h.1
theorem take_ends (s : ByteArray) (o : RS8) (h : R8 o) : Ends (fun _ : Nat => ref18_R_takeo () s o) (fun y => R8 y.2.1 ∧ o.2.1 ≤ y.2.1.2.1 ∧ (y.1 = true → o.2.1 + 1 ≤ y.2.1.2.1)) := by
  unfold ref18_R_takeo
  refine Ends.bind (R := fun y => (bNot (ieq o.2.2.1 0)) = false → y.1 = true → ieq (tokAt o.1 o.2.1).kind 3 = true) (Ends.bif (fun _ => (is_ends s o).mono fun y hy _ => hy.2) (fun h2 => Ends.ret fun h3 => ?_)) fun y hy => Ends.bif (fun _ => Ends.ret ⟨h, Int.le_refl _, fun h => by cases h⟩) (fun h2 => Ends.ret ?_)
  · rw [bNot_f] at h2; rw [h2] at h3; cases h3
  · rw [bor_f] at h2
    obtain ⟨a1, a2, a3⟩ := adv8 h (by simp) (hy h2.1 (bNot_f.1 h2.2))
    exact ⟨a3, by rw [a1]; (first | omega | (dsimp only at *; omega)), fun _ => by rw [a1]; (first | omega | (dsimp only at *; omega))⟩
theorem must_ends (s : ByteArray) (o : RS8) (h : R8 o) : Ends (fun _ : Nat => ref18_R_musto () s o) (fun y => R8 y.2.1 ∧ o.2.1 ≤ y.2.1.2.1) := by
  unfold ref18_R_musto
  refine Ends.bind (take_ends s o h) fun y hy => Ends.bif (fun _ => ?_) (fun _ => Ends.ret ⟨hy.1, hy.2.1⟩)
  exact Ends.bind (bad_ends 3 y.2.1 hy.1) fun z hz => Ends.ret ⟨hz.1, by have := hy.2.1; have := hz.2; (first | omega | (dsimp only at *; omega))⟩
theorem reg_ends (o : RS8) (h : R8 o) : Ends (fun n => ref18_R_rego n () o) (fun y => R8 y.2.1 ∧ o.2.1 ≤ y.2.1.2.1 ∧ 0 ≤ y.1 ∧ y.1 ≤ 15) := by
  unfold ref18_R_rego
  refine Ends.bind (t18_ends o) fun y hy => ?_
  subst hy
  refine Ends.bif (fun hk => Ends.bind (t18_ends o) fun y hy => ?_) (fun _ => Ends.bind (bad_ends 3 o h) fun z hz => Ends.ret ⟨hz.1, hz.2, by simp, by simp⟩)
  subst hy
  refine Ends.bind (Find05_ends _) fun y hy => Ends.bif (fun _ => Ends.bind (bad_ends 3 o h) fun z hz => Ends.ret ⟨hz.1, hz.2, by simp, by simp⟩) (fun h2 => Ends.ret ?_)
  obtain ⟨a1, a2, a3⟩ := adv8 h (by simp) hk
  rw [ilt_f] at h2
  exact ⟨a3, by rw [a1]; (first | omega | (dsimp only at *; omega)), h2, hy.2⟩
theorem Name18_ends (o : RS8) (h : R8 o) : Ends (fun n => ref18_R_Nameo n () o) (fun y => R8 y.2.1 ∧ o.2.1 ≤ y.2.1.2.1 ∧ y.2.1.2.1 ≤ o.2.1 + 1) := by
  unfold ref18_R_Nameo
  refine Ends.bind (t18_ends o) fun y hy => ?_
  subst hy
  refine Ends.bind (R := fun _ => True) (Ends.bif (fun _ => (Name_ends _).mono fun _ _ => trivial) (fun _ => Ends.ret trivial)) fun y2 _ => Ends.bif (fun _ => ?_) (fun h2 => Ends.ret ?_)
  · unfold ref18_R_bado
    exact Ends.bind (R := fun z => z.2.1.1 = o.1 ∧ z.2.1.2.1 = o.2.1) (Ends.bif (fun _ => Ends.ret ⟨rfl, rfl⟩) (fun _ => Ends.ret ⟨rfl, rfl⟩)) fun z hz => Ends.ret ⟨by unfold R8; dsimp only; rw [hz.1, hz.2]; exact h, by (first | omega | (dsimp only at *; omega)), by (first | omega | (dsimp only at *; omega))⟩
  · rw [bor_f, bNot_f] at h2
    obtain ⟨a1, a2, a3⟩ := adv8 h (by simp) h2.1
    exact ⟨a3, by rw [a1]; (first | omega | (dsimp only at *; omega)), by rw [a1]; (first | omega | (dsimp only at *; omega))⟩
theorem Deep_ends : ∀ (d : Nat) (e : GExpr) (k : Int), k.toNat ≤ d → k ≤ 16 → WfE e → Ends (fun n => ref17_Deepo n e k) (fun _ => True) := by
  intro d
  induction d with
  | zero =>
    intro e k hd _ hw
    refine Ends.succ (g := fun n => ref17_DeepB n (ref17_Deepo n) e k) (fun n => rfl) ?_
    unfold ref17_DeepB
    rw [ilt_t.2 (show k < 1 by omega)]
    exact Ends.ret trivial
  | succ d ih =>
    intro e k hd h16 hw
    refine Ends.succ (g := fun n => ref17_DeepB n (ref17_Deepo n) e k) (fun n => rfl) ?_
    unfold ref17_DeepB
    refine Ends.bif (fun _ => Ends.ret trivial) (fun h => ?_)
    rw [ilt_f] at h
    obtain ⟨w4, w3, w5⟩ := wfE_at hw
    refine Ends.bind (R := fun _ => True) (Ends.loop (I := fun x => x.1.1 = k ∧ x.2.1.2.2.2.1 = e.args ∧ 0 ≤ x.1.2.2.2.1 ∧ x.1.2.2.2.1 ≤ (e.args.length : Int)) (μ := fun x => ((e.args.length : Int) - x.1.2.2.2.1).toNat) ⟨rfl, rfl, by simp, by simp⟩ fun x hx => ?_) fun z _ => Ends.bif (fun _ => Ends.ret trivial) (fun _ => Ends.ret trivial)
    obtain ⟨⟨k', x2, x3, i, _⟩, ⟨⟨o1, o2, o3, ar, _⟩, _⟩⟩ := x
    obtain ⟨rfl, g1, g2, g3⟩ := hx
    dsimp only at g1 g2 g3
    subst g1
    simp only [ref17_Deep_L4f, ref17_Deep_L4]
    refine Ends.bif (fun h1 => ?_) (fun _ => Ends.ret trivial)
    have hi : i < (e.args.length : Int) := ilt_t.1 h1
    have hin : inside i (iof (@xlen .expr e.args)) = true := inside_t.2 ⟨g2, hi⟩
    refine Ends.chk hin ?_
    have hm := xget_mem hin
    rw [gx (@xget .expr e.args i.toNat)]
    have e2 : wr .i64 (isub k' 1) = k' - 1 := by simp only [isub]; dsimp only at *; exact wr_i64 (by omega) (by omega)
    have e3 : wr .i64 (iadd i 1) = i + 1 := by simp only [iadd]; exact wr_i64 (by omega) (by unfold maxLen at w4; omega)
    rw [e2, e3]
    refine Ends.bind (ih (@xget .expr e.args i.toNat) (k' - 1) (by dsimp only at *; omega) (by dsimp only at *; omega) (w5 _ hm)) fun y _ => Ends.bif (fun _ => Ends.ret trivial) (fun _ => Ends.ret ⟨⟨rfl, rfl, by (first | omega | (dsimp only at *; omega)), by (first | omega | (dsimp only at *; omega))⟩, by (first | omega | (dsimp only at *; omega))⟩)
theorem Read17_ends (l : List GTok) (i : Int) (h : R8 (l, i, 0, ())) : Ends (fun n => ref17_Reado n l i) (fun r => WfE r.1.1 ∧ (r.1.2.2.1 = 0 → i ≤ r.1.2.1 ∧ r.1.2.1 ≤ 1000)) := by
  unfold ref17_Reado
  have w0 : WfE (GExpr.mk 0 0 ⟨#[]⟩ []) := wfE_mk (by simp) (by simp) (by simp) (by simp) (by simp [ByteArray.size]) (by simp) (by simp)
  refine Ends.bind ((reader_ends 3000).2 1 (l, i, false, ()) h (by simp) (by simp) (by have := h.1; have := h.2.2.1; (first | omega | (dsimp only at *; omega)))) fun y hy => Ends.bif (fun _ => Ends.ret ⟨w0, fun h => by cases h⟩) (fun _ => ?_)
  rw [gx]
  exact Ends.bind (Deep_ends 16 y.1 16 (by simp) (by simp) hy.1) fun z _ => Ends.bif (fun _ => Ends.ret ⟨w0, fun h => by cases h⟩) (fun _ => Ends.ret ⟨hy.1, fun _ => ⟨hy.2.2.1, hy.2.2.2⟩⟩)
theorem Term_ends (o : RS8) (h : R8 o) : Ends (fun n => ref18_R_Termo n () o) (fun y => R8 y.2.1 ∧ o.2.1 ≤ y.2.1.2.1 ∧ WfE y.1) := by
  unfold ref18_R_Termo
  have w0 : WfE (GExpr.mk 0 0 ⟨#[]⟩ []) := wfE_mk (by simp) (by simp) (by simp) (by simp) (by simp [ByteArray.size]) (by simp) (by simp)
  refine Ends.bif (fun _ => Ends.ret ⟨h, Int.le_refl _, w0⟩) (fun _ => ?_)
  refine Ends.bind (Read17_ends o.1 o.2.1 h) fun y hy => Ends.bif (fun _ => Ends.bind (bad_ends _ o h) fun z hz => Ends.ret ⟨hz.1, hz.2, w0⟩) (fun h2 => Ends.ret ?_)
  rw [bNot_f, ieq_t] at h2
  obtain ⟨h3, h4⟩ := hy.2 h2
  exact ⟨⟨by have := h.1; (first | omega | (dsimp only at *; omega)), h4, h.2.2⟩, h3, wf_gx hy.1⟩
theorem last18_ends (o : RS8) (o1 : LT) (h : R8 o) (hPL : PL o1) : Ends (fun n => ref18_R_lasto n () () o o1) (fun y => R8 y.2.1 ∧ PL y.2.2.1) := by
  unfold ref18_R_lasto
  have h' : R8 (o.1, o.2.1, o.2.2.1, ()) := h
  (repeat' (first
    | (with_reducible refine Ends.ret ?_)
    | (with_reducible refine Ends.bif (fun _ => ?_) (fun _ => ?_))
    | ((with_reducible refine Ends.bind (reg_ends _ ?_) ?_); assumption; rintro y ⟨h1, h2, h3, h4⟩)
    | ((with_reducible refine Ends.bind (must_ends _ _ ?_) ?_); assumption; rintro y ⟨h1, h2⟩)
    | ((with_reducible refine Ends.bind (take_ends _ _ ?_) ?_); assumption; rintro y ⟨h1, h2, h3⟩)
    | ((with_reducible refine Ends.bind (bad_ends _ _ ?_) ?_); assumption; rintro y ⟨h1, h2⟩)
    | ((with_reducible refine Ends.bind (Term_ends _ ?_) ?_); assumption; rintro y ⟨h1, h2, h3⟩)
    | ((with_reducible refine Ends.bind (Name18_ends _ ?_) ?_); assumption; rintro y ⟨h1, h2, h3⟩)
    ))
  all_goals exact ⟨by assumption, by (first | assumption | exact ⟨hPL.1, hPL.2⟩ | exact ⟨wf_gx (by assumption), hPL.2⟩ | exact ⟨w00, hPL.2⟩ | exact ⟨w10, hPL.2⟩ | exact ⟨w00, rfl⟩)⟩
theorem access_ends (o : RS8) (o1 : LT) (h : R8 o) (hPL : PL o1) : Ends (fun n => ref18_R_accesso n () () o o1) (fun y => R8 y.2.1 ∧ PL y.2.2.1) := by
  unfold ref18_R_accesso
  have h' : R8 (o.1, o.2.1, o.2.2.1, ()) := h
  (repeat' (first
    | (with_reducible refine Ends.ret ?_)
    | (with_reducible refine Ends.bif (fun _ => ?_) (fun _ => ?_))
    | ((with_reducible refine Ends.bind (reg_ends _ ?_) ?_); assumption; rintro y ⟨h1, h2, h3, h4⟩)
    | ((with_reducible refine Ends.bind (must_ends _ _ ?_) ?_); assumption; rintro y ⟨h1, h2⟩)
    | ((with_reducible refine Ends.bind (take_ends _ _ ?_) ?_); assumption; rintro y ⟨h1, h2, h3⟩)
    | ((with_reducible refine Ends.bind (bad_ends _ _ ?_) ?_); assumption; rintro y ⟨h1, h2⟩)
    | ((with_reducible refine Ends.bind (Term_ends _ ?_) ?_); assumption; rintro y ⟨h1, h2, h3⟩)
    | ((with_reducible refine Ends.bind (Name18_ends _ ?_) ?_); assumption; rintro y ⟨h1, h2, h3⟩)
    ))
  · refine Ends.bind (last18_ends _ _ (by assumption) (by (first | assumption | exact ⟨hPL.1, hPL.2⟩ | exact ⟨wf_gx (by assumption), hPL.2⟩ | exact ⟨w00, hPL.2⟩ | exact ⟨w10, hPL.2⟩ | exact ⟨w00, rfl⟩))) ?_
    rintro y ⟨g1, g2⟩
    (repeat' (first
    | (with_reducible refine Ends.ret ?_)
    | (with_reducible refine Ends.bif (fun _ => ?_) (fun _ => ?_))
    | ((with_reducible refine Ends.bind (reg_ends _ ?_) ?_); assumption; rintro y ⟨h1, h2, h3, h4⟩)
    | ((with_reducible refine Ends.bind (must_ends _ _ ?_) ?_); assumption; rintro y ⟨h1, h2⟩)
    | ((with_reducible refine Ends.bind (take_ends _ _ ?_) ?_); assumption; rintro y ⟨h1, h2, h3⟩)
    | ((with_reducible refine Ends.bind (bad_ends _ _ ?_) ?_); assumption; rintro y ⟨h1, h2⟩)
    | ((with_reducible refine Ends.bind (Term_ends _ ?_) ?_); assumption; rintro y ⟨h1, h2, h3⟩)
    | ((with_reducible refine Ends.bind (Name18_ends _ ?_) ?_); assumption; rintro y ⟨h1, h2, h3⟩)
    ))
    all_goals exact ⟨by assumption, by (first | assumption | exact ⟨hPL.1, hPL.2⟩ | exact ⟨wf_gx (by assumption), hPL.2⟩ | exact ⟨w00, hPL.2⟩ | exact ⟨w10, hPL.2⟩ | exact ⟨w00, rfl⟩)⟩
  all_goals exact ⟨by assumption, by (first | assumption | exact ⟨hPL.1, hPL.2⟩ | exact ⟨wf_gx (by assumption), hPL.2⟩ | exact ⟨w00, hPL.2⟩ | exact ⟨w10, hPL.2⟩ | exact ⟨w00, rfl⟩)⟩
theorem reach_ends (o : RS8) (o1 : LT) (h : R8 o) (hPL : PL o1) : Ends (fun n => ref18_R_reacho n () () o o1) (fun y => R8 y.2.1 ∧ PL y.2.2.1) := by
  unfold ref18_R_reacho
  have h' : R8 (o.1, o.2.1, o.2.2.1, ()) := h
  (repeat' (first
    | (with_reducible refine Ends.ret ?_)
    | (with_reducible refine Ends.bif (fun _ => ?_) (fun _ => ?_))
    | ((with_reducible refine Ends.bind (reg_ends _ ?_) ?_); assumption; rintro y ⟨h1, h2, h3, h4⟩)
    | ((with_reducible refine Ends.bind (must_ends _ _ ?_) ?_); assumption; rintro y ⟨h1, h2⟩)
    | ((with_reducible refine Ends.bind (take_ends _ _ ?_) ?_); assumption; rintro y ⟨h1, h2, h3⟩)
    | ((with_reducible refine Ends.bind (bad_ends _ _ ?_) ?_); assumption; rintro y ⟨h1, h2⟩)
    | ((with_reducible refine Ends.bind (Term_ends _ ?_) ?_); assumption; rintro y ⟨h1, h2, h3⟩)
    | ((with_reducible refine Ends.bind (Name18_ends _ ?_) ?_); assumption; rintro y ⟨h1, h2, h3⟩)
    ))
  all_goals exact ⟨by assumption, by (first | assumption | exact ⟨hPL.1, hPL.2⟩ | exact ⟨wf_gx (by assumption), hPL.2⟩ | exact ⟨w00, hPL.2⟩ | exact ⟨w10, hPL.2⟩ | exact ⟨w00, rfl⟩)⟩
end Go.Ev.Tryz
namespace Go.Ev.Tryz
open Go Go.Ev
theorem list16_ends (s l was b a : Int) (o : RS8) (ha : 0 ≤ a) (hb : b ≤ 15) : Ends (fun n => iter (ref18_R_list_L16f n) n (((), s, l, was, b, a, ()), (o, ()))) (fun z => z.2.2 = (o, ())) := by
  refine Ends.loop (I := fun x => x.1.2.2.2.2.1 = b ∧ 0 ≤ x.1.2.2.2.2.2.1 ∧ x.2 = (o, ())) (μ := fun x => (16 - x.1.2.2.2.2.2.1).toNat) ⟨rfl, ha, rfl⟩ fun x hx => ?_
  obtain ⟨⟨x1, x2, x3, x4, x5, k, _⟩, ⟨oo, _⟩⟩ := x
  obtain ⟨rfl, g1, g2⟩ := hx
  have g3 : oo = o := congrArg Prod.fst g2
  subst g3
  dsimp only at g1 hb
  simp only [ref18_R_list_L16f, ref18_R_list_L16]
  refine Ends.bif (fun h => ?_) (fun h => Ends.ret rfl)
  rw [ile_t] at h
  have e : wr .i64 (iadd k 1) = k + 1 := inc_i64 (by omega) (by omega)
  rw [e]
  exact Ends.chk (ile_t.2 (wr_u64_nonneg k)) (Ends.ret ⟨⟨rfl, by (first | omega | (dsimp only at *; omega)), rfl⟩, by (first | omega | (dsimp only at *; omega))⟩)
theorem list_ends (o : RS8) (h : R8 o) : Ends (fun n => ref18_R_listo n () o) (fun y => R8 y.2.1 ∧ True) := by
  unfold ref18_R_listo
  refine Ends.bind (must_ends _ o h) fun y hy => ?_
  refine Ends.bind (R := fun z => R8 z.2.2.1) (Ends.loop (I := fun x => R8 x.2.1) (μ := fun x => if x.1.2.2.2.2.1 = true ∧ x.2.1.2.2.1 = 0 then (1001 - x.2.1.2.1).toNat else 0) hy.1 fun x hx => ?_) fun z hz => ?_
  · obtain ⟨⟨x1, s2, l3, was, more, _⟩, ⟨oo, _⟩⟩ := x
    dsimp only at hx
    simp only [ref18_R_list_L4f, ref18_R_list_L4]
    have hx' : R8 (oo.1, oo.2.1, oo.2.2.1, ()) := hx
    refine Ends.bif (fun h1 => ?_) (fun h1 => Ends.ret hx)
    rw [band_t, ieq_t] at h1
    have hμ : (if more = true ∧ oo.2.2.1 = 0 then (1001 - oo.2.1).toNat else 0) = (1001 - oo.2.1).toNat := if_pos h1
    have hlt : 0 < (1001 - oo.2.1).toNat := by have := hx.2.1; omega
    refine Ends.bind (reg_ends _ hx') ?_
    rintro y ⟨p1, p2, p3, p4⟩
    have fin : ∀ (s l w b a : Int) (o2 : RS8), R8 o2 → oo.2.1 ≤ o2.2.1 → 0 ≤ a → b ≤ 15 → Ends (fun n => (iter (ref18_R_list_L16f n) n (((), s, l, w, b, a, ()), (o2, ()))).bind fun z7 =>
        (ref18_R_takeo () (⟨#[44]⟩ : ByteArray) (z7.2.2.1.1, z7.2.2.1.2.1, z7.2.2.1.2.2.1, ())).bind fun y8 =>
          some ((none : Option Nat), (((), z7.2.1.2.1, z7.2.1.2.2.1, z7.2.1.2.2.2.1, y8.1, ()) : Unit × Int × Int × Int × Bool × Unit), (((y8.2.1.1, y8.2.1.2.1, y8.2.1.2.2.1, ()), ()) : RS8 × Unit)))
        (fun y => match y.1 with
          | none => R8 y.2.2.1 ∧ (if y.2.1.2.2.2.2.1 = true ∧ y.2.2.1.2.2.1 = 0 then (1001 - y.2.2.1.2.1).toNat else 0) < (if more = true ∧ oo.2.2.1 = 0 then (1001 - oo.2.1).toNat else 0)
          | some j => R8 y.2.2.1) := by
      intro s l w b a o2 q1 q2 q3 q4
      refine Ends.bind (list16_ends s l w b a o2 q3 q4) fun z hz => ?_
      rw [hz]
      refine Ends.bind (take_ends _ o2 q1) ?_
      rintro y ⟨r1, r2, r3⟩
      refine Ends.ret ⟨r1, ?_⟩
      rw [hμ]
      dsimp only
      split
      · rename_i hc
        have := r3 hc.1
        have := r1.2.1
        omega
      · exact hlt
    refine Ends.bind (take_ends _ _ (by assumption)) ?_
    rintro y3 ⟨p5, p6, p7⟩
    have p8 : oo.2.1 ≤ y3.2.1.2.1 := Int.le_trans p2 p6
    refine Ends.bif (fun _ => ?_) (fun _ => ?_)
    · refine Ends.bind (reg_ends _ (by assumption)) ?_
      rintro y4 ⟨p9, p10, p11, p12⟩
      have p13 : oo.2.1 ≤ y4.2.1.2.1 := Int.le_trans p8 p10
      refine Ends.bif (fun _ => ?_) (fun _ => ?_)
      · refine Ends.bind (bad_ends _ _ (by assumption)) ?_
        rintro y5 ⟨p14, p15⟩
        have p16 : oo.2.1 ≤ y5.2.1.2.1 := Int.le_trans p13 p15
        refine Ends.bif (fun _ => ?_) (fun _ => ?_)
        · refine Ends.bind (bad_ends _ _ (by assumption)) ?_
          rintro y6 ⟨p17, p18⟩
          exact fin _ _ _ _ _ y6.2.1 p17 (Int.le_trans p16 p18) p3 p12
        · exact fin _ _ _ _ _ y5.2.1 p14 p16 p3 p12
      · refine Ends.bif (fun _ => ?_) (fun _ => ?_)
        · refine Ends.bind (bad_ends _ _ (by assumption)) ?_
          rintro y5 ⟨p14, p15⟩
          exact fin _ _ _ _ _ y5.2.1 p14 (Int.le_trans p13 p15) p3 p12
        · exact fin _ _ _ _ _ y4.2.1 p9 p13 p3 p12
    · refine Ends.bif (fun _ => ?_) (fun _ => ?_)
      · refine Ends.bind (bad_ends _ _ (by assumption)) ?_
        rintro y5 ⟨p14, p15⟩
        exact fin _ _ _ _ _ y5.2.1 p14 (Int.le_trans p8 p15) p3 p4
      · exact fin _ _ _ _ _ y3.2.1 p5 p8 p3 p4
  · refine Ends.bind (must_ends _ _ hz) fun w hw => Ends.ret ⟨hw.1, trivial⟩
theorem loads_ends (o : RS8) (o1 : LT) (h : R8 o) (hPL : PL o1) : Ends (fun n => ref18_R_loadso n () () o o1) (fun y => R8 y.2.1 ∧ PL y.2.2.1) := by
  unfold ref18_R_loadso
  have h' : R8 (o.1, o.2.1, o.2.2.1, ()) := h
  refine Ends.bind (reg_ends _ h') ?_
  rintro y ⟨h1, h2, h3, h4⟩
  refine Ends.bind (must_ends _ _ (by assumption)) ?_
  rintro y ⟨h5, h6⟩
  refine Ends.bind (R := fun _ => True) (Ends.bif (fun _ => (is_ends _ _).mono fun _ _ => trivial) (fun _ => Ends.ret trivial)) fun y3 _ => ?_
  (repeat' (first
    | (with_reducible refine Ends.ret ?_)
    | (with_reducible refine Ends.bif (fun _ => ?_) (fun _ => ?_))
    | ((with_reducible refine Ends.bind (reg_ends _ ?_) ?_); assumption; rintro y ⟨h1, h2, h3, h4⟩)
    | ((with_reducible refine Ends.bind (must_ends _ _ ?_) ?_); assumption; rintro y ⟨h1, h2⟩)
    | ((with_reducible refine Ends.bind (take_ends _ _ ?_) ?_); assumption; rintro y ⟨h1, h2, h3⟩)
    | ((with_reducible refine Ends.bind (bad_ends _ _ ?_) ?_); assumption; rintro y ⟨h1, h2⟩)
    | ((with_reducible refine Ends.bind (Term_ends _ ?_) ?_); assumption; rintro y ⟨h1, h2, h3⟩)
    | ((with_reducible refine Ends.bind (Name18_ends _ ?_) ?_); assumption; rintro y ⟨h1, h2, h3⟩)
    | ((with_reducible refine Ends.bind (list_ends _ ?_) ?_); assumption; rintro y ⟨h1, h2⟩)
    | ((with_reducible refine Ends.bind (last18_ends _ _ ?_ ?_) ?_); assumption; (first | assumption | exact ⟨hPL.1, hPL.2⟩ | exact ⟨wf_gx (by assumption), hPL.2⟩ | exact ⟨w00, hPL.2⟩ | exact ⟨w10, hPL.2⟩ | exact ⟨w00, rfl⟩); rintro y ⟨h1, h2⟩)
    | ((with_reducible refine Ends.bind (access_ends _ _ ?_ ?_) ?_); assumption; (first | assumption | exact ⟨hPL.1, hPL.2⟩ | exact ⟨wf_gx (by assumption), hPL.2⟩ | exact ⟨w00, hPL.2⟩ | exact ⟨w10, hPL.2⟩ | exact ⟨w00, rfl⟩); rintro y ⟨h1, h2⟩)
    | ((with_reducible refine Ends.bind (reach_ends _ _ ?_ ?_) ?_); assumption; (first | assumption | exact ⟨hPL.1, hPL.2⟩ | exact ⟨wf_gx (by assumption), hPL.2⟩ | exact ⟨w00, hPL.2⟩ | exact ⟨w10, hPL.2⟩ | exact ⟨w00, rfl⟩); rintro y ⟨h1, h2⟩)
    ))
  all_goals exact ⟨by assumption, by (first | assumption | exact ⟨hPL.1, hPL.2⟩ | exact ⟨wf_gx (by assumption), hPL.2⟩ | exact ⟨w00, hPL.2⟩ | exact ⟨w10, hPL.2⟩ | exact ⟨w00, rfl⟩)⟩
theorem others_ends (o : RS8) (o1 : LT) (h : R8 o) (hPL : PL o1) : Ends (fun n => ref18_R_otherso n () () o o1) (fun y => R8 y.2.1 ∧ PL y.2.2.1) := by
  unfold ref18_R_otherso
  have h' : R8 (o.1, o.2.1, o.2.2.1, ()) := h
  (repeat' (first
    | (with_reducible refine Ends.ret ?_)
    | (with_reducible refine Ends.bif (fun _ => ?_) (fun _ => ?_))
    | ((with_reducible refine Ends.bind (reg_ends _ ?_) ?_); assumption; rintro y ⟨h1, h2, h3, h4⟩)
    | ((with_reducible refine Ends.bind (must_ends _ _ ?_) ?_); assumption; rintro y ⟨h1, h2⟩)
    | ((with_reducible refine Ends.bind (take_ends _ _ ?_) ?_); assumption; rintro y ⟨h1, h2, h3⟩)
    | ((with_reducible refine Ends.bind (bad_ends _ _ ?_) ?_); assumption; rintro y ⟨h1, h2⟩)
    | ((with_reducible refine Ends.bind (Term_ends _ ?_) ?_); assumption; rintro y ⟨h1, h2, h3⟩)
    | ((with_reducible refine Ends.bind (Name18_ends _ ?_) ?_); assumption; rintro y ⟨h1, h2, h3⟩)
    | ((with_reducible refine Ends.bind (list_ends _ ?_) ?_); assumption; rintro y ⟨h1, h2⟩)
    | ((with_reducible refine Ends.bind (last18_ends _ _ ?_ ?_) ?_); assumption; (first | assumption | exact ⟨hPL.1, hPL.2⟩ | exact ⟨wf_gx (by assumption), hPL.2⟩ | exact ⟨w00, hPL.2⟩ | exact ⟨w10, hPL.2⟩ | exact ⟨w00, rfl⟩); rintro y ⟨h1, h2⟩)
    | ((with_reducible refine Ends.bind (access_ends _ _ ?_ ?_) ?_); assumption; (first | assumption | exact ⟨hPL.1, hPL.2⟩ | exact ⟨wf_gx (by assumption), hPL.2⟩ | exact ⟨w00, hPL.2⟩ | exact ⟨w10, hPL.2⟩ | exact ⟨w00, rfl⟩); rintro y ⟨h1, h2⟩)
    | ((with_reducible refine Ends.bind (reach_ends _ _ ?_ ?_) ?_); assumption; (first | assumption | exact ⟨hPL.1, hPL.2⟩ | exact ⟨wf_gx (by assumption), hPL.2⟩ | exact ⟨w00, hPL.2⟩ | exact ⟨w10, hPL.2⟩ | exact ⟨w00, rfl⟩); rintro y ⟨h1, h2⟩)
    ))
  all_goals exact ⟨by assumption, by (first | assumption | exact ⟨hPL.1, hPL.2⟩ | exact ⟨wf_gx (by assumption), hPL.2⟩ | exact ⟨w00, hPL.2⟩ | exact ⟨w10, hPL.2⟩ | exact ⟨w00, rfl⟩)⟩
end Go.Ev.Tryz
namespace Go.Ev.Tryz
open Go Go.Ev
set_option maxHeartbeats 4000000
theorem operands_ends (o : RS8) (o1 : LT) (h : R8 o) (hPL : PL o1) : Ends (fun n => ref18_R_operandso n () () o o1) (fun y => R8 y.2.1 ∧ PL y.2.2.1) := by
  unfold ref18_R_operandso
  have h' : R8 (o.1, o.2.1, o.2.2.1, ()) := h
  (repeat' (first
    | (with_reducible refine Ends.ret ?_)
    | (with_reducible refine Ends.bif (fun _ => ?_) (fun _ => ?_))
    | ((with_reducible refine Ends.bind (reg_ends _ ?_) ?_); assumption; rintro y ⟨h1, h2, h3, h4⟩)
    | ((with_reducible refine Ends.bind (must_ends _ _ ?_) ?_); assumption; rintro y ⟨h1, h2⟩)
    | ((with_reducible refine Ends.bind (take_ends _ _ ?_) ?_); assumption; rintro y ⟨h1, h2, h3⟩)
    | ((with_reducible refine Ends.bind (bad_ends _ _ ?_) ?_); assumption; rintro y ⟨h1, h2⟩)
    | ((with_reducible refine Ends.bind (Term_ends _ ?_) ?_); assumption; rintro y ⟨h1, h2, h3⟩)
    | ((with_reducible refine Ends.bind (Name18_ends _ ?_) ?_); assumption; rintro y ⟨h1, h2, h3⟩)
    | ((with_reducible refine Ends.bind (list_ends _ ?_) ?_); assumption; rintro y ⟨h1, h2⟩)
    | ((with_reducible refine Ends.bind (last18_ends _ _ ?_ ?_) ?_); assumption; (first | assumption | exact ⟨hPL.1, hPL.2⟩ | exact ⟨wf_gx (by assumption), hPL.2⟩ | exact ⟨w00, hPL.2⟩ | exact ⟨w10, hPL.2⟩ | exact ⟨w00, rfl⟩); rintro y ⟨h1, h2⟩)
    | ((with_reducible refine Ends.bind (access_ends _ _ ?_ ?_) ?_); assumption; (first | assumption | exact ⟨hPL.1, hPL.2⟩ | exact ⟨wf_gx (by assumption), hPL.2⟩ | exact ⟨w00, hPL.2⟩ | exact ⟨w10, hPL.2⟩ | exact ⟨w00, rfl⟩); rintro y ⟨h1, h2⟩)
    | ((with_reducible refine Ends.bind (reach_ends _ _ ?_ ?_) ?_); assumption; (first | assumption | exact ⟨hPL.1, hPL.2⟩ | exact ⟨wf_gx (by assumption), hPL.2⟩ | exact ⟨w00, hPL.2⟩ | exact ⟨w10, hPL.2⟩ | exact ⟨w00, rfl⟩); rintro y ⟨h1, h2⟩)
    | ((with_reducible refine Ends.bind (loads_ends _ _ ?_ ?_) ?_); assumption; (first | assumption | exact ⟨hPL.1, hPL.2⟩ | exact ⟨wf_gx (by assumption), hPL.2⟩ | exact ⟨w00, hPL.2⟩ | exact ⟨w10, hPL.2⟩ | exact ⟨w00, rfl⟩); rintro y ⟨h1, h2⟩)
    | ((with_reducible refine Ends.bind (others_ends _ _ ?_ ?_) ?_); assumption; (first | assumption | exact ⟨hPL.1, hPL.2⟩ | exact ⟨wf_gx (by assumption), hPL.2⟩ | exact ⟨w00, hPL.2⟩ | exact ⟨w10, hPL.2⟩ | exact ⟨w00, rfl⟩); rintro y ⟨h1, h2⟩)))
  all_goals exact ⟨by assumption, by (first | assumption | exact ⟨hPL.1, hPL.2⟩ | exact ⟨wf_gx (by assumption), hPL.2⟩ | exact ⟨w00, hPL.2⟩ | exact ⟨w10, hPL.2⟩ | exact ⟨w00, rfl⟩)⟩
theorem it_ends (o : RS8) (o1 : LT) (more : List Bool) (h : R8 o) (hPL : PL o1) : Ends (fun n => ref18_R_ito n () () more o o1) (fun y => R8 y.2.1 ∧ PL y.2.2.1) := by
  unfold ref18_R_ito
  have h' : R8 (o.1, o.2.1, o.2.2.1, ()) := h
  refine Ends.bind (t18_ends o) fun y hy => ?_
  subst hy
  refine Ends.bind (R := fun _ => True) (Ends.bif (fun _ => (t18_ends o).mono fun _ _ => trivial) (fun _ => Ends.ret trivial)) fun y2 _ => Ends.bif (fun hk => ?_) (fun _ => ?_)
  · rw [band_t] at hk
    obtain ⟨a1, a2, a3⟩ := adv8 h (by simp) hk.1
    refine Ends.bind (t18_ends o) fun y hy => ?_
    subst hy
    refine Ends.bind (Find04_ends _) fun y4 h4 => Ends.bif (fun _ => ?_) (fun _ => ?_)
    · (repeat' (first
    | (with_reducible refine Ends.ret ?_)
    | (with_reducible refine Ends.bif (fun _ => ?_) (fun _ => ?_))
    | ((with_reducible refine Ends.bind (reg_ends _ ?_) ?_); assumption; rintro y ⟨h1, h2, h3, h4⟩)
    | ((with_reducible refine Ends.bind (must_ends _ _ ?_) ?_); assumption; rintro y ⟨h1, h2⟩)
    | ((with_reducible refine Ends.bind (take_ends _ _ ?_) ?_); assumption; rintro y ⟨h1, h2, h3⟩)
    | ((with_reducible refine Ends.bind (bad_ends _ _ ?_) ?_); assumption; rintro y ⟨h1, h2⟩)
    | ((with_reducible refine Ends.bind (Term_ends _ ?_) ?_); assumption; rintro y ⟨h1, h2, h3⟩)
    | ((with_reducible refine Ends.bind (Name18_ends _ ?_) ?_); assumption; rintro y ⟨h1, h2, h3⟩)
    | ((with_reducible refine Ends.bind (list_ends _ ?_) ?_); assumption; rintro y ⟨h1, h2⟩)
    | ((with_reducible refine Ends.bind (last18_ends _ _ ?_ ?_) ?_); assumption; (first | assumption | exact ⟨hPL.1, hPL.2⟩ | exact ⟨wf_gx (by assumption), hPL.2⟩ | exact ⟨w00, hPL.2⟩ | exact ⟨w10, hPL.2⟩ | exact ⟨w00, rfl⟩); rintro y ⟨h1, h2⟩)
    | ((with_reducible refine Ends.bind (access_ends _ _ ?_ ?_) ?_); assumption; (first | assumption | exact ⟨hPL.1, hPL.2⟩ | exact ⟨wf_gx (by assumption), hPL.2⟩ | exact ⟨w00, hPL.2⟩ | exact ⟨w10, hPL.2⟩ | exact ⟨w00, rfl⟩); rintro y ⟨h1, h2⟩)
    | ((with_reducible refine Ends.bind (reach_ends _ _ ?_ ?_) ?_); assumption; (first | assumption | exact ⟨hPL.1, hPL.2⟩ | exact ⟨wf_gx (by assumption), hPL.2⟩ | exact ⟨w00, hPL.2⟩ | exact ⟨w10, hPL.2⟩ | exact ⟨w00, rfl⟩); rintro y ⟨h1, h2⟩)
    | ((with_reducible refine Ends.bind (loads_ends _ _ ?_ ?_) ?_); assumption; (first | assumption | exact ⟨hPL.1, hPL.2⟩ | exact ⟨wf_gx (by assumption), hPL.2⟩ | exact ⟨w00, hPL.2⟩ | exact ⟨w10, hPL.2⟩ | exact ⟨w00, rfl⟩); rintro y ⟨h1, h2⟩)
    | ((with_reducible refine Ends.bind (others_ends _ _ ?_ ?_) ?_); assumption; (first | assumption | exact ⟨hPL.1, hPL.2⟩ | exact ⟨wf_gx (by assumption), hPL.2⟩ | exact ⟨w00, hPL.2⟩ | exact ⟨w10, hPL.2⟩ | exact ⟨w00, rfl⟩); rintro y ⟨h1, h2⟩)))
      all_goals exact ⟨by assumption, by (first | assumption | exact ⟨hPL.1, hPL.2⟩ | exact ⟨wf_gx (by assumption), hPL.2⟩ | exact ⟨w00, hPL.2⟩ | exact ⟨w10, hPL.2⟩ | exact ⟨w00, rfl⟩)⟩
    · refine Ends.bind (Mask_ends _ _) fun y6 h6 => ?_
      (repeat' (first
    | (with_reducible refine Ends.ret ?_)
    | (with_reducible refine Ends.bif (fun _ => ?_) (fun _ => ?_))
    | ((with_reducible refine Ends.bind (reg_ends _ ?_) ?_); assumption; rintro y ⟨h1, h2, h3, h4⟩)
    | ((with_reducible refine Ends.bind (must_ends _ _ ?_) ?_); assumption; rintro y ⟨h1, h2⟩)
    | ((with_reducible refine Ends.bind (take_ends _ _ ?_) ?_); assumption; rintro y ⟨h1, h2, h3⟩)
    | ((with_reducible refine Ends.bind (bad_ends _ _ ?_) ?_); assumption; rintro y ⟨h1, h2⟩)
    | ((with_reducible refine Ends.bind (Term_ends _ ?_) ?_); assumption; rintro y ⟨h1, h2, h3⟩)
    | ((with_reducible refine Ends.bind (Name18_ends _ ?_) ?_); assumption; rintro y ⟨h1, h2, h3⟩)
    | ((with_reducible refine Ends.bind (list_ends _ ?_) ?_); assumption; rintro y ⟨h1, h2⟩)
    | ((with_reducible refine Ends.bind (last18_ends _ _ ?_ ?_) ?_); assumption; (first | assumption | exact ⟨hPL.1, hPL.2⟩ | exact ⟨wf_gx (by assumption), hPL.2⟩ | exact ⟨w00, hPL.2⟩ | exact ⟨w10, hPL.2⟩ | exact ⟨w00, rfl⟩); rintro y ⟨h1, h2⟩)
    | ((with_reducible refine Ends.bind (access_ends _ _ ?_ ?_) ?_); assumption; (first | assumption | exact ⟨hPL.1, hPL.2⟩ | exact ⟨wf_gx (by assumption), hPL.2⟩ | exact ⟨w00, hPL.2⟩ | exact ⟨w10, hPL.2⟩ | exact ⟨w00, rfl⟩); rintro y ⟨h1, h2⟩)
    | ((with_reducible refine Ends.bind (reach_ends _ _ ?_ ?_) ?_); assumption; (first | assumption | exact ⟨hPL.1, hPL.2⟩ | exact ⟨wf_gx (by assumption), hPL.2⟩ | exact ⟨w00, hPL.2⟩ | exact ⟨w10, hPL.2⟩ | exact ⟨w00, rfl⟩); rintro y ⟨h1, h2⟩)
    | ((with_reducible refine Ends.bind (loads_ends _ _ ?_ ?_) ?_); assumption; (first | assumption | exact ⟨hPL.1, hPL.2⟩ | exact ⟨wf_gx (by assumption), hPL.2⟩ | exact ⟨w00, hPL.2⟩ | exact ⟨w10, hPL.2⟩ | exact ⟨w00, rfl⟩); rintro y ⟨h1, h2⟩)
    | ((with_reducible refine Ends.bind (others_ends _ _ ?_ ?_) ?_); assumption; (first | assumption | exact ⟨hPL.1, hPL.2⟩ | exact ⟨wf_gx (by assumption), hPL.2⟩ | exact ⟨w00, hPL.2⟩ | exact ⟨w10, hPL.2⟩ | exact ⟨w00, rfl⟩); rintro y ⟨h1, h2⟩)))
      all_goals exact ⟨by assumption, by (first | assumption | exact ⟨hPL.1, hPL.2⟩ | exact ⟨wf_gx (by assumption), hPL.2⟩ | exact ⟨w00, hPL.2⟩ | exact ⟨w10, hPL.2⟩ | exact ⟨w00, rfl⟩)⟩
  · (repeat' (first
    | (with_reducible refine Ends.ret ?_)
    | (with_reducible refine Ends.bif (fun _ => ?_) (fun _ => ?_))
    | ((with_reducible refine Ends.bind (reg_ends _ ?_) ?_); assumption; rintro y ⟨h1, h2, h3, h4⟩)
    | ((with_reducible refine Ends.bind (must_ends _ _ ?_) ?_); assumption; rintro y ⟨h1, h2⟩)
    | ((with_reducible refine Ends.bind (take_ends _ _ ?_) ?_); assumption; rintro y ⟨h1, h2, h3⟩)
    | ((with_reducible refine Ends.bind (bad_ends _ _ ?_) ?_); assumption; rintro y ⟨h1, h2⟩)
    | ((with_reducible refine Ends.bind (Term_ends _ ?_) ?_); assumption; rintro y ⟨h1, h2, h3⟩)
    | ((with_reducible refine Ends.bind (Name18_ends _ ?_) ?_); assumption; rintro y ⟨h1, h2, h3⟩)
    | ((with_reducible refine Ends.bind (list_ends _ ?_) ?_); assumption; rintro y ⟨h1, h2⟩)
    | ((with_reducible refine Ends.bind (last18_ends _ _ ?_ ?_) ?_); assumption; (first | assumption | exact ⟨hPL.1, hPL.2⟩ | exact ⟨wf_gx (by assumption), hPL.2⟩ | exact ⟨w00, hPL.2⟩ | exact ⟨w10, hPL.2⟩ | exact ⟨w00, rfl⟩); rintro y ⟨h1, h2⟩)
    | ((with_reducible refine Ends.bind (access_ends _ _ ?_ ?_) ?_); assumption; (first | assumption | exact ⟨hPL.1, hPL.2⟩ | exact ⟨wf_gx (by assumption), hPL.2⟩ | exact ⟨w00, hPL.2⟩ | exact ⟨w10, hPL.2⟩ | exact ⟨w00, rfl⟩); rintro y ⟨h1, h2⟩)
    | ((with_reducible refine Ends.bind (reach_ends _ _ ?_ ?_) ?_); assumption; (first | assumption | exact ⟨hPL.1, hPL.2⟩ | exact ⟨wf_gx (by assumption), hPL.2⟩ | exact ⟨w00, hPL.2⟩ | exact ⟨w10, hPL.2⟩ | exact ⟨w00, rfl⟩); rintro y ⟨h1, h2⟩)
    | ((with_reducible refine Ends.bind (loads_ends _ _ ?_ ?_) ?_); assumption; (first | assumption | exact ⟨hPL.1, hPL.2⟩ | exact ⟨wf_gx (by assumption), hPL.2⟩ | exact ⟨w00, hPL.2⟩ | exact ⟨w10, hPL.2⟩ | exact ⟨w00, rfl⟩); rintro y ⟨h1, h2⟩)
    | ((with_reducible refine Ends.bind (others_ends _ _ ?_ ?_) ?_); assumption; (first | assumption | exact ⟨hPL.1, hPL.2⟩ | exact ⟨wf_gx (by assumption), hPL.2⟩ | exact ⟨w00, hPL.2⟩ | exact ⟨w10, hPL.2⟩ | exact ⟨w00, rfl⟩); rintro y ⟨h1, h2⟩)))
    all_goals exact ⟨by assumption, by (first | assumption | exact ⟨hPL.1, hPL.2⟩ | exact ⟨wf_gx (by assumption), hPL.2⟩ | exact ⟨w00, hPL.2⟩ | exact ⟨w10, hPL.2⟩ | exact ⟨w00, rfl⟩)⟩
theorem block_ends (s : ByteArray) : Ends (fun n => ref18_blocko n s) (fun _ => True) := by
  unfold ref18_blocko
  refine Ends.chk (by (first | assumption | rfl | (simp only [evs] at * <;> (try simp (disch := omega) only [wr_i64] at *) <;> omega) | (simp (disch := omega) only [wr_i64] at * <;> omega) | omega)) (Ends.bif (fun _ => Ends.ret trivial) (fun h => ?_))
  have hs : 2 ≤ slen s ∧ slen s ≤ 5 := by
    rw [bor_f, bor_f, ilt_f, ilt_f] at h; exact h.1
  refine Ends.bind (R := fun _ => True) (Ends.loop (I := fun x => x.1.1 = s ∧ 0 ≤ x.1.2.2.2.2.1 ∧ x.1.2.2.2.2.1 ≤ slen s ∧ ((x.1.2.2.2.1.length : Int) ≤ x.1.2.2.2.2.1)) (μ := fun x => (slen s - x.1.2.2.2.2.1).toNat) ⟨rfl, by simp, hs.1, by simp⟩ fun x hx => ?_) fun z _ => Ends.bif (fun _ => Ends.ret trivial) (fun _ => Ends.ret trivial)
  obtain ⟨⟨a, b, c, l, i, _⟩, _⟩ := x
  obtain ⟨rfl, g1, g2, g3⟩ := hx
  dsimp only at *
  clear h
  simp only [ref18_block_L5f, ref18_block_L5]
  refine Ends.bif (fun h => ?_) (fun _ => Ends.ret trivial)
  rw [ilt_t] at h
  have hin : inside i (slen a) = true := inside_t.2 ⟨g1, h⟩
  rw [hin]
  refine Ends.chk rfl (Ends.chk (by simp [bNot, bAnd]) (Ends.bif (fun _ => Ends.ret trivial) (fun _ => Ends.chk rfl (Ends.chk ?_ (Ends.ret ?_)))))
  · show room (l.length + 1) 1 = true
    rw [room_t]; omega
  · rw [inc_i64 (by omega) (by omega)]
    refine ⟨⟨rfl, by (first | omega | (dsimp only at *; omega)), by (first | omega | (dsimp only at *; omega)), ?_⟩, by (first | omega | (dsimp only at *; omega))⟩
    show ((l ++ [_]).length : Int) ≤ i + 1
    rw [List.length_append]; simp only [List.length_cons, List.length_nil]; omega
theorem cond_ends (o : Int) (s : ByteArray) : Ends (fun n => ref18_condo n o s) (fun _ => True) := by
  unfold ref18_condo
  exact Ends.bif (fun _ => Ends.ret trivial) (fun _ => Ends.bind (Find04_ends s) fun _ _ => Ends.ret trivial)
theorem word_loop (s : ByteArray) (w : Bool) (hs : s.size ≤ 256) : Ends (fun n => iter (ref18_word_L6f n) n (((0 : Int), false, (0 : Int), false, false, w, s, (1 : Int), ()), ())) (fun _ => True) := by
  refine Ends.loop (I := fun x => x.1.2.2.2.2.2.2.1 = s ∧ 0 ≤ x.1.2.2.2.2.2.2.2.1 ∧ x.1.2.2.2.2.2.2.2.1 ≤ 46) (μ := fun x => ((46 : Int) - x.1.2.2.2.2.2.2.2.1).toNat) ⟨rfl, by simp, by simp⟩ fun x hx => ?_
  obtain ⟨⟨x1, x2, x3, x4, x5, x6, b, op, _⟩, _⟩ := x
  obtain ⟨rfl, g1, g2⟩ := hx
  dsimp only at *
  simp only [ref18_word_L6f, ref18_word_L6]
  refine Ends.bif (fun h => ?_) (fun _ => Ends.ret trivial)
  rw [ile_t] at h
  rw [inc_i64 (by omega) (by omega)]
  have next : (b = b ∧ 0 ≤ op + 1 ∧ op + 1 ≤ 46) ∧ ((46 : Int) - (op + 1)).toNat < ((46 : Int) - op).toNat := ⟨⟨rfl, by omega, by omega⟩, by omega⟩
  refine Ends.bind (name06_ends op) fun y hy => ?_
  obtain ⟨y, _⟩ := y
  dsimp only at hy
  have hb : bounds 0 (slen y) (slen b) = true ∨ slen b < slen y := by
    rw [bounds_t]; unfold slen; omega
  refine Ends.chk (by simp only [evs] at *; omega) (Ends.bif (fun _ => Ends.ret next) (fun h1 => Ends.bif (fun _ => Ends.ret next) (fun _ => ?_)))
  have hle : slen y ≤ slen b := by
    rw [bor_f, bor_f, ilt_f] at h1; exact h1.1.2
  have hc : slen (scut b (slen y) (slen b)) = slen b - slen y := slen_scut b (slen_nonneg y) hle (Int.le_refl _)
  refine Ends.chk (bounds_t.2 ⟨slen_nonneg y, hle, Int.le_refl _⟩) (Ends.bind (cond_ends _ _) fun z _ => Ends.bif (fun _ => Ends.ret trivial) (fun _ => ?_))
  generalize scut b (slen y) (slen b) = t at hc
  have ht : strEq t ⟨#[]⟩ = true ∨ 0 < slen t := by
    rw [strEq_e_t]; unfold slen; omega
  refine Ends.chk ?_ (Ends.bif (fun h2 => ?_) (fun _ => Ends.ret next))
  · rcases ht with ht | ht
    · rw [ht]; simp [bNot, bAnd]
    · rw [inside_t.2 ⟨Int.le_refl 0, ht⟩]; simp [bNot, bAnd]
  · have ht2 : 1 ≤ slen t := by
      rcases ht with ht | ht
      · rw [ht] at h2; simp [bNot] at h2
      · omega
    exact Ends.chk (bounds_t.2 ⟨by simp, ht2, Int.le_refl _⟩) (Ends.bind (cond_ends _ _) fun z _ => Ends.bif (fun _ => Ends.ret trivial) (fun _ => Ends.ret next))
theorem word_ends (s : ByteArray) (hs : s.size ≤ 256) : Ends (fun n => ref18_wordo n s) (fun _ => True) := by
  unfold ref18_wordo
  have e : wr .i64 (isub (slen s) 2) = slen s - 2 := by simp only [isub]; unfold slen; exact wr_i64 (by omega) (by omega)
  rw [e]
  have hb : bounds (slen s - 2) (slen s) (slen s) = true ∨ slen s ≤ 2 := by rw [bounds_t]; unfold slen; omega
  refine Ends.chk (by simp only [evs] at *; omega) (Ends.bif (fun h => ?_) (fun h => ?_))
  · rw [band_t, ilt_t] at h
    refine Ends.chk (bounds_t.2 ⟨by simp, by omega, by omega⟩) (Ends.bind (word_loop _ _ ?_) fun z _ => Ends.bif (fun _ => Ends.ret trivial) (fun _ => Ends.ret trivial))
    rw [size_scut s (by simp) (by omega) (by omega)]; unfold slen; omega
  · exact Ends.bind (word_loop _ _ hs) fun z _ => Ends.bif (fun _ => Ends.ret trivial) (fun _ => Ends.ret trivial)
def LOK (x : GLine) : Prop := WfE x.expr ∧ x.size = 0
theorem Read18_ends (l : List GTok) (i : Int) (h : R8 (l, i, 0, ())) : Ends (fun n => ref18_Reado n l i) (fun r => LOK r.1.1) := by
  unfold ref18_Reado
  have l0 : LOK (⟨(⟨#[]⟩ : ByteArray), 0, (⟨0, 0, 0, 0, 0, 0, 0, 0, false⟩ : GIns), 0, (⟨#[]⟩ : ByteArray), false, 0, (GExpr.mk 0 0 (⟨#[]⟩ : ByteArray) ([] : List GExpr))⟩ : GLine) := ⟨w00, rfl⟩
  refine Ends.bind (t18_ends (l, i, 0, ())) fun y hy => ?_
  subst hy
  refine Ends.bif (fun _ => Ends.ret l0) (fun hk => ?_)
  rw [bNot_f] at hk
  obtain ⟨a1, a2, a3⟩ := adv8 h (by simp) hk
  have htok := (tok8 h i).1
  have fin : ∀ (st : RS8) (lt : LT), R8 st → PL lt → Ends (fun _ : Nat => bif (bif (ieq st.2.2.1 0) then (bNot (ieq st.2.1 (iof (@xlen .tok l)))) else false) then
      (ref18_R_bado () (3 : Int) (st.1, st.2.1, st.2.2.1, ())).bind fun y4 =>
        bif (bNot (ieq y4.2.1.2.2.1 0)) then
          some (((⟨(⟨#[]⟩ : ByteArray), 0, (⟨0, 0, 0, 0, 0, 0, 0, 0, false⟩ : GIns), 0, (⟨#[]⟩ : ByteArray), false, 0, (GExpr.mk 0 0 (⟨#[]⟩ : ByteArray) ([] : List GExpr))⟩ : GLine), y4.2.1.2.2.1, ()), ())
        else
          some (((⟨lt.1, lt.2.1, (⟨lt.2.2.1, lt.2.2.2.1, lt.2.2.2.2.1, lt.2.2.2.2.2.1, lt.2.2.2.2.2.2.1, lt.2.2.2.2.2.2.2.1, lt.2.2.2.2.2.2.2.2.1, lt.2.2.2.2.2.2.2.2.2.1, lt.2.2.2.2.2.2.2.2.2.2.1⟩ : GIns), lt.2.2.2.2.2.2.2.2.2.2.2.1, lt.2.2.2.2.2.2.2.2.2.2.2.2.1, lt.2.2.2.2.2.2.2.2.2.2.2.2.2.1, lt.2.2.2.2.2.2.2.2.2.2.2.2.2.2.1, (GExpr.mk lt.2.2.2.2.2.2.2.2.2.2.2.2.2.2.2.1 lt.2.2.2.2.2.2.2.2.2.2.2.2.2.2.2.2.1 lt.2.2.2.2.2.2.2.2.2.2.2.2.2.2.2.2.2.1 lt.2.2.2.2.2.2.2.2.2.2.2.2.2.2.2.2.2.2.1)⟩ : GLine), (0 : Int), ()), ())
    else
      bif (bNot (ieq st.2.2.1 0)) then
        some (((⟨(⟨#[]⟩ : ByteArray), 0, (⟨0, 0, 0, 0, 0, 0, 0, 0, false⟩ : GIns), 0, (⟨#[]⟩ : ByteArray), false, 0, (GExpr.mk 0 0 (⟨#[]⟩ : ByteArray) ([] : List GExpr))⟩ : GLine), st.2.2.1, ()), ())
      else
        some (((⟨lt.1, lt.2.1, (⟨lt.2.2.1, lt.2.2.2.1, lt.2.2.2.2.1, lt.2.2.2.2.2.1, lt.2.2.2.2.2.2.1, lt.2.2.2.2.2.2.2.1, lt.2.2.2.2.2.2.2.2.1, lt.2.2.2.2.2.2.2.2.2.1, lt.2.2.2.2.2.2.2.2.2.2.1⟩ : GIns), lt.2.2.2.2.2.2.2.2.2.2.2.1, lt.2.2.2.2.2.2.2.2.2.2.2.2.1, lt.2.2.2.2.2.2.2.2.2.2.2.2.2.1, lt.2.2.2.2.2.2.2.2.2.2.2.2.2.2.1, (GExpr.mk lt.2.2.2.2.2.2.2.2.2.2.2.2.2.2.2.1 lt.2.2.2.2.2.2.2.2.2.2.2.2.2.2.2.2.1 lt.2.2.2.2.2.2.2.2.2.2.2.2.2.2.2.2.2.1 lt.2.2.2.2.2.2.2.2.2.2.2.2.2.2.2.2.2.2.1)⟩ : GLine), (0 : Int), ()), ()))
      (fun r => LOK r.1.1) := by
    intro st lt hst hlt
    refine Ends.bif (fun _ => Ends.bind (bad_ends _ st hst) fun y4 _ => Ends.bif (fun _ => Ends.ret l0) (fun _ => Ends.ret ⟨hlt.1, hlt.2⟩)) (fun _ => Ends.bif (fun _ => Ends.ret l0) (fun _ => Ends.ret ⟨hlt.1, hlt.2⟩))
  have p0 : PL ((⟨#[]⟩ : ByteArray), (1 : Int), (0 : Int), (0 : Int), (0 : Int), (0 : Int), (0 : Int), (0 : Int), (0 : Int), (0 : Int), false, (14 : Int), (⟨#[]⟩ : ByteArray), false, (0 : Int), (0 : Int), (0 : Int), (⟨#[]⟩ : ByteArray), ([] : List GExpr), ()) := ⟨w00, rfl⟩
  refine Ends.bind (block_ends _) fun y2 _ => Ends.bif (fun _ => ?_) (fun _ => ?_)
  · refine Ends.bind (it_ends _ _ _ a3 p0) ?_
    rintro y3 ⟨g1, g2⟩
    exact fin y3.2.1 y3.2.2.1 g1 g2
  · refine Ends.bind (word_ends _ htok) fun y5 _ => Ends.bif (fun _ => Ends.ret l0) (fun _ => Ends.bif (fun _ => ?_) (fun _ => ?_))
    · refine Ends.bind (operands_ends _ _ a3 ⟨w00, rfl⟩) ?_
      rintro y6 ⟨g1, g2⟩
      exact fin y6.2.1 y6.2.2.1 g1 g2
    · refine Ends.bind (operands_ends _ _ a3 ⟨w00, rfl⟩) ?_
      rintro y6 ⟨g1, g2⟩
      exact fin y6.2.1 y6.2.2.1 g1 g2
end Go.Ev.Tryz
