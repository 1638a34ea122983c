/- Blocks of instructions: which lines stand inside one.  -/
import Derived.Test.YtjepeadpofpadaaGreatDoorLsK7
import Derived.Test.YtjepeadpofpadaaGreatDoorLsM6
set_option linter.unusedSimpArgs false
set_option linter.unusedVariables false
set_option linter.unusedSectionVars false
namespace Go.Ev.Tryz
open Go Go.Ev
set_option maxHeartbeats 4000000
theorem awake_at (k : Nat) : law23_awakeo (k + 6) = some (true, ()) := by kernel_rfl
theorem awake_ends : Ends (fun n => law23_awakeo n) (fun r => r.1 = true) := ⟨(true, ()), rfl, 6, fun n hn => by
  obtain ⟨k, rfl⟩ : ∃ k, n = k + 6 := ⟨n - 6, by omega⟩
  exact awake_at k⟩
def Cd (c m : Int) : List Int := ((ref04_Condso 6 c m).map Prod.fst).getD []
def rows15 : List (Int × Int) := (List.range 15).flatMap fun (c : Nat) => (List.range 16).map fun (m : Nat) => ((c : Int), (m : Int))
def isL (x : Option (List Int × Unit)) (l : List Int) : Bool := match x with
  | none => false
  | some (r, _) => decide (r = l)
theorem isL_t {x : Option (List Int × Unit)} {l : List Int} (h : isL x l = true) : x = some (l, ()) := by
  match x with
  | none => cases h
  | some (r, ()) => rw [show r = l from of_decide_eq_true h]
theorem cd_rows (k : Nat) : rows15.all (fun p => isL (ref04_Condso (k + 6) p.1 p.2) (Cd p.1 p.2) && isL (conds_Condso (k + 6) p.1 p.2) (Cd p.1 p.2) && (Cd p.1 p.2).all (fun x => decide (0 ≤ x))) = true := by kernel_rfl
theorem rows15_mem {c m : Int} (h0 : 0 ≤ c) (h1 : c ≤ 14) (h2 : 0 ≤ m) (h3 : m ≤ 15) : (c, m) ∈ rows15 := by
  unfold rows15
  rw [List.mem_flatMap]
  refine ⟨c.toNat, List.mem_range.2 (by omega), List.mem_map.2 ⟨m.toNat, List.mem_range.2 (by omega), ?_⟩⟩
  rw [Int.toNat_of_nonneg h0, Int.toNat_of_nonneg h2]
theorem cd_at (c m : Int) (k : Nat) : ref04_Condso (k + 6) c m = some (Cd c m, ()) ∧ conds_Condso (k + 6) c m = some (Cd c m, ()) ∧ ∀ x ∈ Cd c m, 0 ≤ x := by
  by_cases h : 0 ≤ c ∧ c ≤ 14 ∧ 1 ≤ m ∧ m ≤ 15
  · have := List.all_eq_true.1 (cd_rows k) (c, m) (rows15_mem h.1 h.2.1 (by omega) h.2.2.2)
    simp only [Bool.and_eq_true] at this
    exact ⟨isL_t this.1.1, isL_t this.1.2, fun x hx => of_decide_eq_true (List.all_eq_true.1 this.2 x hx)⟩
  · have hb : (bif (bif (bif (ilt c 0) then true else (ilt 14 c)) then true else (ilt m 1)) then true else (ilt 15 m)) = true := by
      simp only [evs]; omega
    have e1 : ∀ n, ref04_Condso n c m = some ([], ()) := fun n => by unfold ref04_Condso; rw [hb]; rfl
    have e2 : ∀ n, conds_Condso n c m = some ([], ()) := fun n => by unfold conds_Condso; rw [hb]; rfl
    have e3 : Cd c m = [] := by unfold Cd; rw [e1]; rfl
    rw [e3]
    exact ⟨e1 _, e2 _, fun x hx => by cases hx⟩
theorem ends6 {α : Type} {f : Nat → Option α} {r : α} (h : ∀ k, f (k + 6) = some r) : Ends f (fun x => x = r) := ⟨r, rfl, 6, fun n hn => by
  obtain ⟨k, rfl⟩ : ∃ k, n = k + 6 := ⟨n - 6, by omega⟩
  exact h k⟩
theorem cd_ref (c m : Int) : Ends (fun n => ref04_Condso n c m) (fun r => r = (Cd c m, ())) := ends6 fun k => (cd_at c m k).1
theorem cd_isa (c m : Int) : Ends (fun n => conds_Condso n c m) (fun r => r = (Cd c m, ())) := ends6 fun k => (cd_at c m k).2.1
theorem cd_len (c m : Int) : (Cd c m).length ≤ 4 := by
  skip
  obtain ⟨r', h3, n0, h4⟩ := cd_ref c m
  obtain ⟨r2, h5, n1, h6⟩ := Conds_ends c m
  have e := (h4 (max n0 n1) (by omega)).symm.trans (h6 (max n0 n1) (by omega))
  injection e with e
  rw [← e, h3] at h5
  exact h5.1
def isIns (x : GLine) : Bool := bif ieq x.kind 1 then true else ieq x.kind 2
def begs (x : GLine) : Bool := bif ieq x.kind 1 then ieq x.ins.op 42 else false
def stp (lf : List Int) (x : GLine) : Int × List Int := bif bNot (isIns x) then (-1, lf) else match lf with
  | a :: t => (a, t)
  | [] => bif begs x then (-1, Cd x.ins.cond x.ins.imm) else (-1, [])
def run21 (l : List GLine) : Nat → List Int × List Int
  | 0 => ([], [])
  | i + 1 => ((run21 l i).1 ++ [(stp (run21 l i).2 (@xget .line l i)).1], (stp (run21 l i).2 (@xget .line l i)).2)
theorem stp_ok {lf : List Int} {x : GLine} (h : ∀ a ∈ lf, 0 ≤ a) (h4 : lf.length ≤ 4) : ((stp lf x).1 = -1 ∨ 0 ≤ (stp lf x).1) ∧ (∀ a ∈ (stp lf x).2, 0 ≤ a) ∧ (stp lf x).2.length ≤ 4 := by
  unfold stp
  cases bNot (isIns x) with
  | true => exact ⟨.inl rfl, h, h4⟩
  | false =>
    match lf with
    | a :: t => exact ⟨.inr (h a (List.mem_cons_self ..)), fun b hb => h b (List.mem_cons_of_mem _ hb), by simp only [List.length_cons] at h4; show t.length ≤ 4; omega⟩
    | [] =>
      cases begs x with
      | true => exact ⟨.inl rfl, (cd_at _ _ 0).2.2, cd_len _ _⟩
      | false => exact ⟨.inl rfl, h, h4⟩
theorem run21_ok (l : List GLine) (i : Nat) : (run21 l i).1.length = i ∧ (∀ a ∈ (run21 l i).1, a = -1 ∨ 0 ≤ a) ∧ (∀ a ∈ (run21 l i).2, 0 ≤ a) ∧ (run21 l i).2.length ≤ 4 := by
  induction i with
  | zero => exact ⟨rfl, by simp [run21], by simp [run21], by simp [run21]⟩
  | succ i ih =>
    have := stp_ok (x := @xget .line l i) ih.2.2.1 ih.2.2.2
    refine ⟨by simp [run21, ih.1], ?_, this.2.1, this.2.2⟩
    exact mem_snoc ih.2.1 this.1
theorem ref_ins (x : GLine) : ref21_ins x = isIns x := rfl
theorem ref_begs (x : GLine) : ref21_begins x = begs x := rfl
theorem blk_ins (x : GLine) : blocks_ins x = isIns x := rfl
theorem xlenI (l : List Int) : iof (@xlen (.i .i64) l) = (l.length : Int) := rfl
theorem xlenL (l : List GLine) : iof (@xlen .line l) = (l.length : Int) := rfl
theorem xlenB (l : List Bool) : iof (@xlen .b l) = (l.length : Int) := rfl
theorem toNat_succ {i : Int} (h : 0 ≤ i) : (i + 1).toNat = i.toNat + 1 := by omega
theorem conds21_ends (l : List GLine) (hl : l.length ≤ 100) : Ends (fun n => ref21_condso n l) (fun r => r.1 = (run21 l l.length).1) := by
  unfold ref21_condso
  refine Ends.bind (R := fun z => z.2.1.2.2.1 = (run21 l l.length).1) (Ends.loop (I := fun x => x.1.1 = l ∧ x.1.2.2.1 = (run21 l x.1.2.2.2.2.1.toNat).1 ∧ x.1.2.2.2.1 = (run21 l x.1.2.2.2.2.1.toNat).2 ∧ 0 ≤ x.1.2.2.2.2.1 ∧ x.1.2.2.2.2.1 ≤ (l.length : Int)) (μ := fun x => ((l.length : Int) - x.1.2.2.2.2.1).toNat) ⟨rfl, rfl, rfl, by simp, by simp⟩ fun x hx => ?_) fun z hz => Ends.ret hz
  obtain ⟨⟨l', s, out, lf, i, _⟩, _⟩ := x
  obtain ⟨rfl, g1, g2, g3, g4⟩ := hx
  dsimp only at g1 g2 g3 g4 hl
  simp only [ref21_conds_L4f, ref21_conds_L4, xlenL, xlenI]
  refine Ends.bif (fun h => ?_) (fun h => Ends.ret ?_)
  · rw [ilt_t] at h
    have hin : inside i (l'.length : Int) = true := inside_t.2 ⟨g3, h⟩
    have hok := run21_ok l' i.toNat
    rw [← g1, ← g2] at hok
    rw [inc_i64 (by omega) (by omega)]
    have room1 : ∀ c : Int, room (@xlen (.i .i64) out + @xlen (.i .i64) ([c] : List Int)) 8 = true := fun c => room_t.2 (by
      show (out.length + 1) * 8 ≤ _
      have := hok.1
      omega)
    have fin : ∀ (c : Int) (lf' : List Int), (c, lf') = stp lf (@xget .line l' i.toNat) → (((i + 1).toNat = i.toNat + 1) ∧ (@xapp (.i .i64) out [c] : List Int) = (run21 l' (i + 1).toNat).1 ∧ lf' = (run21 l' (i + 1).toNat).2) := fun c lf' e => by
      rw [toNat_succ g3]
      unfold run21
      rw [← g1, ← g2, ← e]
      exact ⟨rfl, rfl, rfl⟩
    refine Ends.chk hin ?_
    try dsimp only
    refine Ends.bif (fun h1 => Ends.chk (room1 _) (Ends.ret ?_)) (fun h1 => Ends.bif (fun h2 => ?_) (fun h2 => Ends.chk hin (Ends.bif (fun h3 => ?_) (fun h3 => Ends.chk (room1 _) (Ends.ret ?_)))))
    · have := fin (-1) lf (by unfold stp; rw [show bNot (isIns (@xget .line l' i.toNat)) = true from h1]; rfl)
      exact ⟨⟨rfl, this.2.1, this.2.2, by (first | omega | (dsimp only at *; omega)), by (first | omega | (dsimp only at *; omega))⟩, by (first | omega | (dsimp only at *; omega))⟩
    · rw [ilt_t] at h2
      match lf, h2, fin with
      | a :: t, h2, fin =>
        have := fin a t (by unfold stp; rw [show bNot (isIns (@xget .line l' i.toNat)) = false from h1]; rfl)
        refine Ends.chk (inside_t.2 ⟨by simp, h2⟩) (Ends.chk (bounds_t.2 ⟨by simp, by omega, by simp⟩) (Ends.chk (room1 _) (Ends.ret ⟨⟨rfl, this.2.1, this.2.2, by (first | omega | (dsimp only at *; omega)), by (first | omega | (dsimp only at *; omega))⟩, by (first | omega | (dsimp only at *; omega))⟩)))
    · rw [ilt_f] at h2
      have hlf : lf = [] := List.length_eq_zero_iff.1 (by omega)
      refine Ends.chk hin (Ends.chk hin (Ends.bind (cd_ref _ _) fun y hy => Ends.chk (room1 _) (Ends.ret ?_)))
      subst hy
      have := fin (-1) (Cd (@xget .line l' i.toNat).ins.cond (@xget .line l' i.toNat).ins.imm) (by unfold stp; rw [show bNot (isIns (@xget .line l' i.toNat)) = false from h1, hlf, show begs (@xget .line l' i.toNat) = true from h3]; rfl)
      exact ⟨⟨rfl, this.2.1, this.2.2, by (first | omega | (dsimp only at *; omega)), by (first | omega | (dsimp only at *; omega))⟩, by (first | omega | (dsimp only at *; omega))⟩
    · rw [ilt_f] at h2
      have hlf : lf = [] := List.length_eq_zero_iff.1 (by omega)
      have := fin (-1) lf (by unfold stp; rw [show bNot (isIns (@xget .line l' i.toNat)) = false from h1, hlf, show begs (@xget .line l' i.toNat) = false from h3]; rfl)
      exact ⟨⟨rfl, this.2.1, this.2.2, by (first | omega | (dsimp only at *; omega)), by (first | omega | (dsimp only at *; omega))⟩, by (first | omega | (dsimp only at *; omega))⟩
  · rw [ilt_f] at h
    have : i.toNat = l'.length := by omega
    rw [← this]; exact g1
def In21 (l : List GLine) : List Bool := (run21 l l.length).1.map fun c => decide (0 ≤ c)
theorem in21_len (l : List GLine) : (In21 l).length = l.length := by unfold In21; rw [List.length_map, (run21_ok l l.length).1]
theorem take_map_succ {f : Int → Bool} {c : List Int} {k : Nat} (h : k < c.length) : (c.map f).take (k + 1) = (c.map f).take k ++ [f (@xget (.i .i64) c k)] := by
  have t := take_snoc (t := .i .i64) (l := c) (k := k) h
  rw [← List.map_take, ← List.map_take]
  exact (congrArg (List.map f) t).trans (List.map_append ..)
theorem Inside21_ends (l : List GLine) (hl : l.length ≤ 100) : Ends (fun n => ref21_Insideo n l) (fun r => r.1 = In21 l) := by
  unfold ref21_Insideo
  refine Ends.bind (conds21_ends l hl) fun y hy => ?_
  have hlen := (run21_ok l l.length).1
  rw [← hy] at hlen
  refine Ends.bind (R := fun z => z.2.1.2.1 = In21 l) (Ends.loop (I := fun x => x.1.2.2.1 = y.1 ∧ x.1.2.1 = (y.1.map fun c => decide (0 ≤ c)).take x.1.2.2.2.1.toNat ∧ 0 ≤ x.1.2.2.2.1 ∧ x.1.2.2.2.1 ≤ (y.1.length : Int)) (μ := fun x => ((y.1.length : Int) - x.1.2.2.2.1).toNat) ⟨rfl, by simp, by simp, by simp⟩ fun x hx => ?_) fun z hz => Ends.ret hz
  obtain ⟨⟨s, out, c, i, _⟩, _⟩ := x
  obtain ⟨g0, g1, g3, g4⟩ := hx
  dsimp only at g0 g1 g3 g4
  simp only [ref21_Inside_L4f, ref21_Inside_L4, xlenI]
  rw [g0]
  refine Ends.bif (fun h => ?_) (fun h => Ends.ret ?_)
  · rw [ilt_t] at h
    refine Ends.chk (inside_t.2 ⟨g3, h⟩) (Ends.chk (room_t.2 ?_) ?_)
    · show (out.length + 1) * 1 ≤ _
      rw [g1, List.length_take, List.length_map]; omega
    · rw [inc_i64 (by omega) (by omega)]
      refine Ends.ret ⟨⟨rfl, ?_, by (first | omega | (dsimp only at *; omega)), by (first | omega | (dsimp only at *; omega))⟩, by (first | omega | (dsimp only at *; omega))⟩
      dsimp only
      rw [toNat_succ g3]
      have t := take_map_succ (f := fun c => decide (0 ≤ c)) (c := y.1) (k := i.toNat) (by omega)
      rw [← g1] at t
      exact t.symm
  · rw [ilt_f] at h
    dsimp only
    rw [List.take_of_length_le (by rw [List.length_map]; omega)] at g1
    unfold In21
    rw [g1, hy]
theorem set_take {t : Ty} {o : List (T t)} {k : Nat} {c : T t} (h : k < o.length) : (o.set k c).take (k + 1) = o.take k ++ [c] := by
  rw [List.take_add_one, List.getElem?_set_self h, List.take_set_of_le (Nat.le_refl _)]
  rfl
theorem set_set (t : Ty) (o : List (T t)) (k : Nat) (a b : T t) : @xset t (@xset t o k a) k b = @xset t o k b := by
  unfold xset; exact List.set_set ..
theorem len_set (t : Ty) (o : List (T t)) (k : Nat) (a : T t) : (@xset t o k a).length = o.length := by unfold xset; exact List.length_set ..
theorem len_rep (t : Ty) (k : Nat) : (xrep t k).length = k := by unfold xrep; exact List.length_replicate
theorem asked_ends (l : List GLine) (hl : l.length ≤ 100) : Ends (fun n => blocks_askedo n l) (fun r => r.1.1 = (run21 l l.length).1) := by
  unfold blocks_askedo
  simp only [xlenL]
  refine Ends.chk (by simp only [evs, true_and]; omega) ?_
  refine Ends.bind (R := fun z => z.2.2.1 = (run21 l l.length).1) (Ends.loop (I := fun x => x.1.2.2.2.2.1 = l ∧ x.1.2.2.2.2.2.1 = (l.length : Int) ∧ x.2.1.length = l.length ∧ x.2.1.take x.1.2.2.2.2.2.2.1.toNat = (run21 l x.1.2.2.2.2.2.2.1.toNat).1 ∧ x.1.2.2.2.1 = (run21 l x.1.2.2.2.2.2.2.1.toNat).2 ∧ 0 ≤ x.1.2.2.2.2.2.2.1 ∧ x.1.2.2.2.2.2.2.1 ≤ (l.length : Int)) (μ := fun x => ((l.length : Int) - x.1.2.2.2.2.2.2.1).toNat) ⟨rfl, rfl, len_rep (.i .i64) _, rfl, rfl, by simp, by simp⟩ fun x hx => ?_) fun z hz => Ends.ret hz
  obtain ⟨⟨s, s3, _, lf, l', ln, i, _⟩, ⟨o, _⟩⟩ := x
  obtain ⟨rfl, g00, g0, g1, g2, g3, g4⟩ := hx
  dsimp only at g0 g1 g2 g3 g4 hl g00
  subst g00
  simp only [blocks_asked_L4f, blocks_asked_L4, xlenL, xlenI, set_set]
  refine Ends.bif (fun h => ?_) (fun h => Ends.ret ?_)
  · rw [ilt_t] at h
    have hin : inside i (l'.length : Int) = true := inside_t.2 ⟨g3, h⟩
    have hino : inside i (o.length : Int) = true := inside_t.2 ⟨g3, by omega⟩
    rw [inc_i64 (by omega) (by omega)]
    have fin : ∀ (c : Int) (lf' : List Int), (c, lf') = stp lf (@xget .line l' i.toNat) → ((@xset (.i .i64) o i.toNat c).length = l'.length ∧ (@xset (.i .i64) o i.toNat c).take (i + 1).toNat = (run21 l' (i + 1).toNat).1 ∧ lf' = (run21 l' (i + 1).toNat).2) := fun c lf' e => by
      rw [toNat_succ g3]
      unfold run21
      rw [← g1, ← g2, ← e]
      exact ⟨(len_set (.i .i64) o _ _).trans g0, set_take (t := .i .i64) (o := o) (by show i.toNat < o.length; omega), rfl⟩
    refine Ends.chk hin ?_
    try dsimp only
    refine Ends.chk hino (Ends.bif (fun h1 => Ends.ret ?_) (fun h1 => Ends.bif (fun h2 => ?_) (fun h2 => Ends.bif (fun h3 => ?_) (fun h3 => Ends.ret ?_))))
    · have := fin (-1) lf (by unfold stp; rw [show bNot (isIns (@xget .line l' i.toNat)) = true from h1]; rfl)
      exact ⟨⟨rfl, rfl, this.1, this.2.1, this.2.2, by (first | omega | (dsimp only at *; omega)), by (first | omega | (dsimp only at *; omega))⟩, by (first | omega | (dsimp only at *; omega))⟩
    · rw [ilt_t] at h2
      match lf, h2, fin with
      | a :: t, h2, fin =>
        have := fin a t (by unfold stp; rw [show bNot (isIns (@xget .line l' i.toNat)) = false from h1]; rfl)
        have e2 : @xset (.i .i64) (@xset (.i .i64) o i.toNat ((-1) : Int)) i.toNat a = @xset (.i .i64) o i.toNat a := set_set (.i .i64) o i.toNat ((-1) : Int) a
        refine Ends.chk (inside_t.2 ⟨by simp, h2⟩) (Ends.chk (bounds_t.2 ⟨by simp, by omega, by simp⟩) (Ends.chk ?_ (Ends.ret ⟨⟨rfl, rfl, (congrArg List.length e2).trans this.1, (congrArg (List.take _) e2).trans this.2.1, this.2.2, by (first | omega | (dsimp only at *; omega)), by (first | omega | (dsimp only at *; omega))⟩, by (first | omega | (dsimp only at *; omega))⟩)))
        have := len_set (.i .i64) o i.toNat ((-1) : Int)
        have e3 : iof (@xlen (.i .i64) (@xset (.i .i64) o i.toNat ((-1) : Int))) = (o.length : Int) := congrArg (fun k : Nat => (k : Int)) this
        exact inside_t.2 ⟨g3, by rw [e3]; omega⟩
    · rw [ilt_f] at h2
      have hlf : lf = [] := List.length_eq_zero_iff.1 (by omega)
      refine Ends.bind (cd_isa _ _) fun y hy => Ends.ret ?_
      subst hy
      have := fin (-1) (Cd (@xget .line l' i.toNat).ins.cond (@xget .line l' i.toNat).ins.imm) (by unfold stp; rw [show bNot (isIns (@xget .line l' i.toNat)) = false from h1, hlf, show begs (@xget .line l' i.toNat) = true from h3]; rfl)
      exact ⟨⟨rfl, rfl, this.1, this.2.1, this.2.2, by (first | omega | (dsimp only at *; omega)), by (first | omega | (dsimp only at *; omega))⟩, by (first | omega | (dsimp only at *; omega))⟩
    · rw [ilt_f] at h2
      have hlf : lf = [] := List.length_eq_zero_iff.1 (by omega)
      have := fin (-1) lf (by unfold stp; rw [show bNot (isIns (@xget .line l' i.toNat)) = false from h1, hlf, show begs (@xget .line l' i.toNat) = false from h3]; rfl)
      exact ⟨⟨rfl, rfl, this.1, this.2.1, this.2.2, by (first | omega | (dsimp only at *; omega)), by (first | omega | (dsimp only at *; omega))⟩, by (first | omega | (dsimp only at *; omega))⟩
  · rw [ilt_f] at h
    have : i.toNat = l'.length := by omega
    rw [this, List.take_of_length_le (by omega)] at g1
    exact g1
theorem neg_lo (v : Int) (h : v = -1 ∨ 0 ≤ v) : bNot (ieq v (-1)) = decide (0 ≤ v) := by
  rcases h with rfl | h
  · rfl
  · rw [decide_eq_true h, bNot_t, ieq_f]; omega
theorem InsideB_ends (l : List GLine) (hl : l.length ≤ 100) : Ends (fun n => blocks_Insideo n l) (fun r => r.1 = In21 l) := by
  unfold blocks_Insideo
  refine Ends.bind (asked_ends l hl) fun y hy => ?_
  have hlen := (run21_ok l l.length).1
  have hel := (run21_ok l l.length).2.1
  rw [← hy] at hlen hel
  simp only [xlenL, xlenI]
  refine Ends.chk (by simp only [evs, true_and]; omega) ?_
  refine Ends.bind (R := fun z => z.2.2.1 = In21 l) (Ends.loop (I := fun x => x.1.2.1 = y.1.1 ∧ x.1.2.2.2.1 = (y.1.1.length : Int) ∧ x.2.1.length = l.length ∧ x.2.1.take x.1.2.2.2.2.1.toNat = (y.1.1.map fun c => decide (0 ≤ c)).take x.1.2.2.2.2.1.toNat ∧ 0 ≤ x.1.2.2.2.2.1 ∧ x.1.2.2.2.2.1 ≤ (l.length : Int)) (μ := fun x => ((l.length : Int) - x.1.2.2.2.2.1).toNat) ⟨rfl, rfl, len_rep .b _, rfl, by simp, by simp⟩ fun x hx => ?_) fun z hz => Ends.ret hz
  obtain ⟨⟨s, c, _, ln, i, _⟩, ⟨o, _⟩⟩ := x
  obtain ⟨g0, g0', g2, g1, g3, g4⟩ := hx
  dsimp only at g0 g0' g1 g2 g3 g4
  subst g0 g0'
  simp only [blocks_Inside_L4f, blocks_Inside_L4, xlenI, xlenB]
  refine Ends.bif (fun h => ?_) (fun h => Ends.ret ?_)
  · rw [ilt_t] at h
    have hin : inside i (y.1.1.length : Int) = true := inside_t.2 ⟨g3, h⟩
    refine Ends.chk hin (Ends.chk (inside_t.2 ⟨g3, by omega⟩) ?_)
    rw [inc_i64 (by omega) (by omega)]
    refine Ends.ret ⟨⟨rfl, rfl, (len_set .b o _ _).trans g2, ?_, by (first | omega | (dsimp only at *; omega)), by (first | omega | (dsimp only at *; omega))⟩, by (first | omega | (dsimp only at *; omega))⟩
    dsimp only
    rw [toNat_succ g3]
    have t := take_map_succ (f := fun c => decide (0 ≤ c)) (c := y.1.1) (k := i.toNat) (by omega)
    have t2 := set_take (t := .b) (o := o) (k := i.toNat) (c := bNot (ieq (@xget (.i .i64) y.1.1 i.toNat) (-1))) (by show i.toNat < o.length; omega)
    have e := neg_lo (@xget (.i .i64) y.1.1 i.toNat) (hel _ (@xget_mem (.i .i64) y.1.1 i hin))
    rw [t, ← g1]
    exact t2.trans (congrArg (fun b : Bool => o.take i.toNat ++ [b]) e)
  · rw [ilt_f] at h
    have e1 : i.toNat = l.length := by omega
    rw [e1, List.take_of_length_le (by omega), List.take_of_length_le (by rw [List.length_map]; omega)] at g1
    unfold In21
    rw [← hy]
    exact g1
end Go.Ev.Tryz
namespace Go.Ev.Tryz
open Go Go.Ev
set_option maxHeartbeats 4000000
def lo (x : Int) : Bool := decide (0 ≤ x) && decide (x ≤ 7)
def Lw (l : List Int) : Bool := l.all lo
theorem lo_t {x : Int} : lo x = true ↔ 0 ≤ x ∧ x ≤ 7 := by unfold lo; simp
theorem lo_f {x : Int} : lo x = false ↔ ¬ (0 ≤ x ∧ x ≤ 7) := by rw [← lo_t]; cases lo x <;> simp
theorem isaLow_t {x : Int} : isa_Low x = true ↔ 0 ≤ x ∧ x ≤ 7 := by show (bif ile 0 x then ilt x 8 else false) = true ↔ _; simp only [evs]; omega
theorem refLow_t {x : Int} : ref06_Low x = true ↔ 0 ≤ x ∧ x ≤ 7 := by show (bif ile 0 x then ile x 7 else false) = true ↔ _; simp only [evs]
theorem isaLow_eq (x : Int) : isa_Low x = lo x := by rw [Bool.eq_iff_iff, isaLow_t, lo_t]
theorem refLow_eq (x : Int) : ref06_Low x = lo x := by rw [Bool.eq_iff_iff, refLow_t, lo_t]
theorem take_all_b {f : Int → Bool} {l : List Int} {k : Nat} (h : k < l.length) : (l.take (k + 1)).all f = ((l.take k).all f && f (@xget (.i .i64) l k)) := by
  have t := take_snoc (t := .i .i64) (l := l) (k := k) h
  have e : ∀ (a : List Int) (x : Int), (a ++ [x]).all f = (a.all f && f x) := fun a x => by simp
  exact (congrArg (fun m : List Int => m.all f) t).trans (e _ _)
theorem low7_ends (l : List Int) (hl : l.length ≤ 10) : Ends (fun n => ref07_lowo n l) (fun r => r.1 = Lw l) := by
  unfold ref07_lowo
  refine Ends.bind (R := fun z => (z.1 = 0 ∧ Lw l = true) ∨ (z.1 = 1 ∧ Lw l = false ∧ z.2.1.2.1 = false)) (Ends.loop (I := fun x => x.1.1 = l ∧ (l.take x.1.2.2.1.toNat).all lo = true ∧ 0 ≤ x.1.2.2.1 ∧ x.1.2.2.1 ≤ (l.length : Int)) (μ := fun x => ((l.length : Int) - x.1.2.2.1).toNat) ⟨rfl, rfl, by simp, by simp⟩ fun x hx => ?_) fun z hz => ?_
  · obtain ⟨⟨l', s, i, _⟩, _⟩ := x
    obtain ⟨g0, g1, g3, g4⟩ := hx
    dsimp only at g0 g1 g3 g4
    subst g0
    simp only [ref07_low_L2f, ref07_low_L2, xlenI, refLow_eq]
    refine Ends.bif (fun h => ?_) (fun h => Ends.ret (.inl ⟨rfl, ?_⟩))
    · rw [ilt_t] at h
      rw [inc_i64 (by omega) (by omega)]
      have ta := take_all_b (f := lo) (l := l') (k := i.toNat) (by omega)
      refine Ends.chk (inside_t.2 ⟨g3, h⟩) (Ends.bif (fun h2 => Ends.ret (.inr ⟨rfl, ?_, rfl⟩)) (fun h2 => Ends.ret ⟨⟨rfl, ?_, by (first | omega | (dsimp only at *; omega)), by (first | omega | (dsimp only at *; omega))⟩, by (first | omega | (dsimp only at *; omega))⟩))
      · have h2' : lo (@xget (.i .i64) l' i.toNat) = false := (refLow_eq _).symm.trans (bNot_t.1 h2)
        unfold Lw
        rw [← List.take_append_drop (i.toNat + 1) l', List.all_append, ta, h2']
        simp
      · have h2' : lo (@xget (.i .i64) l' i.toNat) = true := (refLow_eq _).symm.trans (bNot_f.1 h2)
        dsimp only
        rw [toNat_succ g3, ta, g1, h2']; rfl
    · rw [ilt_f] at h
      rw [List.take_of_length_le (by omega)] at g1
      exact g1
  · rcases hz with hz | hz
    · rw [hz.1]; exact Ends.ret hz.2.symm
    · rw [hz.1]; exact Ends.ret (hz.2.2.trans hz.2.1.symm)
theorem lowN_ends (l : List Int) (hl : l.length ≤ 10) : Ends (fun n => narrow_lowo n l) (fun r => r.1 = Lw l) := by
  unfold narrow_lowo
  refine Ends.bind (R := fun z => (z.1 = 0 ∧ Lw l = true) ∨ (z.1 = 1 ∧ Lw l = false ∧ z.2.1.1 = false)) (Ends.loop (I := fun x => x.1.2.1 = l ∧ x.1.2.2.1 = (l.length : Int) ∧ (l.take x.1.2.2.2.1.toNat).all lo = true ∧ 0 ≤ x.1.2.2.2.1 ∧ x.1.2.2.2.1 ≤ (l.length : Int)) (μ := fun x => ((l.length : Int) - x.1.2.2.2.1).toNat) ⟨rfl, rfl, rfl, by simp, by simp⟩ fun x hx => ?_) fun z hz => ?_
  · obtain ⟨⟨s, l', ln, i, _⟩, _⟩ := x
    obtain ⟨g0, g2, g1, g3, g4⟩ := hx
    dsimp only at g0 g1 g2 g3 g4
    subst g0 g2
    simp only [narrow_low_L2f, narrow_low_L2, xlenI, isaLow_eq]
    refine Ends.bif (fun h => ?_) (fun h => Ends.ret (.inl ⟨rfl, ?_⟩))
    · rw [ilt_t] at h
      rw [inc_i64 (by omega) (by omega)]
      have ta := take_all_b (f := lo) (l := l') (k := i.toNat) (by omega)
      refine Ends.chk (inside_t.2 ⟨g3, h⟩) (Ends.bif (fun h2 => Ends.ret (.inr ⟨rfl, ?_, rfl⟩)) (fun h2 => Ends.ret ⟨⟨rfl, rfl, ?_, by (first | omega | (dsimp only at *; omega)), by (first | omega | (dsimp only at *; omega))⟩, by (first | omega | (dsimp only at *; omega))⟩))
      · have h2' : lo (@xget (.i .i64) l' i.toNat) = false := (isaLow_eq _).symm.trans (bNot_t.1 h2)
        unfold Lw
        rw [← List.take_append_drop (i.toNat + 1) l', List.all_append, ta, h2']
        simp
      · have h2' : lo (@xget (.i .i64) l' i.toNat) = true := (isaLow_eq _).symm.trans (bNot_f.1 h2)
        dsimp only
        rw [toNat_succ g3, ta, g1, h2']; rfl
    · rw [ilt_f] at h
      rw [List.take_of_length_le (by omega)] at g1
      exact g1
  · rcases hz with hz | hz
    · rw [hz.1]; exact Ends.ret hz.2.symm
    · rw [hz.1]; exact Ends.ret (hz.2.2.trans hz.2.1.symm)
theorem take_any_f {f : List GForm} {k : Nat} (h : k < f.length) : (f.take (k + 1)).any (·.is) = ((f.take k).any (·.is) || (GForm.is (@xget .form f k))) := by
  have t := take_snoc (t := .form) (l := f) (k := k) h
  have e : ∀ (a : List GForm) (x : GForm), (a ++ [x]).any (·.is) = (a.any (·.is) || x.is) := fun a x => by simp
  exact (congrArg (fun m : List GForm => m.any (·.is)) t).trans (e _ _)
theorem forms_loop (f : List GForm) (hf : f.length ≤ 100) (o : Int × Int × Int × Int × Int × Int × Int × Int × Bool × Unit) : Ends (fun n => iter (narrow_Encode_L5f n) n (((0 : Int), false, (0 : Int), false, f, (iof (@xlen .form f)), (0 : Int), ()), (o, ()))) (fun z => z.2.1.2.2.2.1 = f.any (·.is)) := by
  refine Ends.loop (I := fun x => x.1.2.2.2.1 = false ∧ x.1.2.2.2.2.1 = f ∧ x.1.2.2.2.2.2.1 = (f.length : Int) ∧ (f.take x.1.2.2.2.2.2.2.1.toNat).any (·.is) = false ∧ 0 ≤ x.1.2.2.2.2.2.2.1 ∧ x.1.2.2.2.2.2.2.1 ≤ (f.length : Int)) (μ := fun x => ((f.length : Int) - x.1.2.2.2.2.2.2.1).toNat) ⟨rfl, rfl, rfl, rfl, by simp, by simp⟩ fun x hx => ?_
  obtain ⟨⟨s4, s5, h6, ok, f', ln, i, _⟩, o⟩ := x
  obtain ⟨ga, g0, g2, g1, g3, g4⟩ := hx
  dsimp only at ga g0 g1 g2 g3 g4
  subst ga g0 g2
  have hx : iof (@xlen .form f') = (f'.length : Int) := rfl
  simp only [narrow_Encode_L5f, narrow_Encode_L5, hx]
  refine Ends.bif (fun h => ?_) (fun h => Ends.ret ?_)
  · rw [ilt_t] at h
    rw [inc_i64 (by omega) (by omega)]
    have ta := take_any_f (f := f') (k := i.toNat) (by omega)
    refine Ends.chk (inside_t.2 ⟨g3, h⟩) (Ends.bif (fun h2 => Ends.ret ?_) (fun h2 => Ends.ret ⟨⟨rfl, rfl, rfl, ?_, by (first | omega | (dsimp only at *; omega)), by (first | omega | (dsimp only at *; omega))⟩, by (first | omega | (dsimp only at *; omega))⟩))
    · show true = _
      rw [← List.take_append_drop (i.toNat + 1) f', List.any_append, ta]
      have h2' : GForm.is (@xget .form f' i.toNat) = true := h2
      rw [h2']
      simp
    · dsimp only
      have h2' : GForm.is (@xget .form f' i.toNat) = false := h2
      rw [toNat_succ g3, ta, g1, h2']; rfl
  · rw [ilt_f] at h
    rw [List.take_of_length_le (by omega)] at g1
    exact g1.symm
abbrev IT := Int × Int × Int × Int × Int × Int × Int × Int × Bool × Unit
def stepB (a o : IT) (c : Int) : IT :=
  bif ieq c 99 then (o.1, a.2.1, o.2.2) else
  bif ieq c 100 then (o.1, o.2.1, a.2.2.1, o.2.2.2) else
  bif ieq c 110 then (o.1, o.2.1, o.2.2.1, a.2.2.2.1, o.2.2.2.2) else
  bif ieq c 109 then (bif ieq a.2.2.2.2.2.2.1 2 then (o.1, o.2.1, o.2.2.1, o.2.2.2.1, a.2.2.2.2.1, o.2.2.2.2.2.1, a.2.2.2.2.2.2.1, o.2.2.2.2.2.2.2) else (o.1, o.2.1, o.2.2.1, o.2.2.2.1, o.2.2.2.2.1, a.2.2.2.2.2.1, a.2.2.2.2.2.2.1, o.2.2.2.2.2.2.2)) else
  bif ieq c 108 then (o.1, o.2.1, o.2.2.1, o.2.2.2.1, o.2.2.2.2.1, o.2.2.2.2.2.1, o.2.2.2.2.2.2.1, a.2.2.2.2.2.2.2.1, o.2.2.2.2.2.2.2.2) else
  bif ieq c 115 then (o.1, o.2.1, o.2.2.1, o.2.2.2.1, o.2.2.2.2.1, o.2.2.2.2.2.1, o.2.2.2.2.2.2.1, o.2.2.2.2.2.2.2.1, a.2.2.2.2.2.2.2.2.1, ()) else o
def fill (a : IT) (fs : ByteArray) : Nat → IT
  | 0 => (a.1, 0, 0, 0, 0, 0, 0, 0, false, ())
  | k + 1 => stepB a (fill a fs k) (sget fs k)
def itI (i : GIns) : IT := (i.op, i.cond, i.rd, i.rn, i.rm, i.imm, i.mode, i.list, i.s, ())
def insI (o : IT) : GIns := ⟨o.1, o.2.1, o.2.2.1, o.2.2.2.1, o.2.2.2.2.1, o.2.2.2.2.2.1, o.2.2.2.2.2.2.1, o.2.2.2.2.2.2.2.1, o.2.2.2.2.2.2.2.2.1⟩
theorem bare_ends (i : GIns) (fs : ByteArray) (hs : fs.size ≤ 10) : Ends (fun n => ref06_bareo n i fs) (fun r => r.1 = insI (fill (itI i) fs fs.size)) := by
  unfold ref06_bareo
  refine Ends.bind (R := fun z => z.2.2.2.2.1 = fill (itI i) fs fs.size) (Ends.loop (I := fun x => x.1.1 = fs ∧ x.2.1 = itI i ∧ x.2.2.2.1 = fill (itI i) fs x.1.2.2.2.2.1.toNat ∧ 0 ≤ x.1.2.2.2.2.1 ∧ x.1.2.2.2.2.1 ≤ slen fs) (μ := fun x => (slen fs - x.1.2.2.2.2.1).toNat) ⟨rfl, rfl, rfl, by simp, by simp [slen]⟩ fun x hx => ?_) fun z hz => Ends.ret (by dsimp only; rw [hz]; rfl)
  obtain ⟨⟨fs', _, _, _, k, _⟩, ⟨a1, a2, a3, a4, a5, a6, a7, a8, a9, _⟩, b, ⟨c1, c2, c3, c4, c5, c6, c7, c8, c9, _⟩, _⟩ := x
  obtain ⟨g0, g1, g2, g3, g4⟩ := hx
  dsimp only at g0 g1 g2 g3 g4
  subst g0
  have hk : slen fs' = (fs'.size : Int) := rfl
  simp only [ref06_bare_L3f, ref06_bare_L3]
  refine Ends.bif (fun h => ?_) (fun h => Ends.ret ?_)
  · rw [ilt_t] at h
    rw [inc_i64 (by omega) (by omega)]
    have hs2 : fill (itI i) fs' (k + 1).toNat = stepB (itI i) (fill (itI i) fs' k.toNat) (sget fs' k) := by
      rw [toNat_succ g3]
      show stepB _ _ (sget fs' (k.toNat : Int)) = _
      rw [Int.toNat_of_nonneg g3]
    rw [← g2, ← g1] at hs2
    refine Ends.chk (inside_t.2 ⟨g3, h⟩) ?_
    have fin : ∀ o : IT, o = stepB (a1, a2, a3, a4, a5, a6, a7, a8, a9, ()) (c1, c2, c3, c4, c5, c6, c7, c8, c9, ()) (sget fs' k) → o = fill (itI i) fs' (k + 1).toNat := fun o e => by rw [← g1]; exact e.trans hs2.symm
    refine Ends.bif (fun h1 => Ends.ret ⟨⟨rfl, g1, fin _ ?_, by (first | omega | (dsimp only at *; omega)), by (first | omega | (dsimp only at *; omega))⟩, by (first | omega | (dsimp only at *; omega))⟩) (fun h1 => Ends.bif (fun h2 => Ends.ret ⟨⟨rfl, g1, fin _ ?_, by (first | omega | (dsimp only at *; omega)), by (first | omega | (dsimp only at *; omega))⟩, by (first | omega | (dsimp only at *; omega))⟩) (fun h2 => Ends.bif (fun h3 => Ends.ret ⟨⟨rfl, g1, fin _ ?_, by (first | omega | (dsimp only at *; omega)), by (first | omega | (dsimp only at *; omega))⟩, by (first | omega | (dsimp only at *; omega))⟩) (fun h3 => Ends.bif (fun h4 => Ends.bif (fun h5 => Ends.ret ⟨⟨rfl, g1, fin _ ?_, by (first | omega | (dsimp only at *; omega)), by (first | omega | (dsimp only at *; omega))⟩, by (first | omega | (dsimp only at *; omega))⟩) (fun h5 => Ends.ret ⟨⟨rfl, g1, fin _ ?_, by (first | omega | (dsimp only at *; omega)), by (first | omega | (dsimp only at *; omega))⟩, by (first | omega | (dsimp only at *; omega))⟩)) (fun h4 => Ends.bif (fun h5 => Ends.ret ⟨⟨rfl, g1, fin _ ?_, by (first | omega | (dsimp only at *; omega)), by (first | omega | (dsimp only at *; omega))⟩, by (first | omega | (dsimp only at *; omega))⟩) (fun h5 => Ends.bif (fun h6 => Ends.ret ⟨⟨rfl, g1, fin _ ?_, by (first | omega | (dsimp only at *; omega)), by (first | omega | (dsimp only at *; omega))⟩, by (first | omega | (dsimp only at *; omega))⟩) (fun h6 => Ends.ret ⟨⟨rfl, g1, fin _ ?_, by (first | omega | (dsimp only at *; omega)), by (first | omega | (dsimp only at *; omega))⟩, by (first | omega | (dsimp only at *; omega))⟩))))))
    all_goals (unfold stepB; simp only [*, cond_true, cond_false])
  · rw [ilt_f] at h
    have e : k.toNat = fs'.size := by omega
    rw [e] at g2
    exact g2
end Go.Ev.Tryz
