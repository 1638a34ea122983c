/- What the row's list gives: the listed table holds what the models take it to hold. -/
import Derived.Test.YtjepeadpofpadaaGreatDoorLsKT
import Derived.Test.YtjepeadpofpadaaGreatDoorLsM0
import Derived.Test.YtjepeadpofpadaaGreatDoorLsK4
import Derived.Test.YtjepeadpofpadaaGreatDoorCards
import Derived.Test.YtjepeadpofpadaaGreatDoorTie
import Derived.Lib.LaidTab
set_option linter.unusedSimpArgs false
set_option linter.unusedVariables false
set_option linter.unusedSectionVars false
namespace Go.Ev.Tryz
open Go Go.Ev
theorem two_of {α β : Type} {g : α → β} {l : List α} {a b : β} (h : l.map g = [a, b]) : ∃ x y, l = [x, y] ∧ g x = a ∧ g y = b := by
  cases l with
  | nil => simp at h
  | cons x r =>
    cases r with
    | nil => simp at h
    | cons y r =>
      cases r with
      | nil => simp at h; exact ⟨x, y, rfl, h.1, h.2⟩
      | cons z r => simp at h
theorem pair_cells {H : Type} {enc' : TypeId × Value → H} {P : Program} {w : World} {base : Nat} {sp : Nat → Bool} {held : Bool} {fuel : Nat} {e ti tb : TypeId} {fs : Array Field} {cs : List Value} {a : Int} {b : Bool} {p : List MemPlace}
    (he : P.underlying e = some (.struct fs)) (hfs : fs.toList.map (fun f => (f.offset, f.type)) = [(0, ti), (1, tb)]) (hti : P.underlying ti = some (.int .i64)) (htb : P.underlying tb = some .bool) (hce : P.cellsOf e = 2) (hci : P.cellsOf ti = 1) (hcb : P.cellsOf tb = 1)
    (h : DataW.trod enc' P w base sp held fuel e cs = some (.agg [.lit (.int .i64 a), .lit (.bool b)], p)) : cs = [.int .i64 a, .bool b] := by
  cases fuel with
  | zero => simp [DataW.trod] at h
  | succ fuel =>
    simp only [DataW.trod, he, hce] at h
    split at h
    · rename_i hl
      obtain ⟨xs, hm, hx⟩ := Option.map_eq_some_iff.1 h
      obtain ⟨f0, f1, hf, a0, a1⟩ := two_of hfs
      rw [hf] at hm
      · obtain ⟨o0, t0⟩ := Prod.mk.inj a0
        obtain ⟨o1, t1⟩ := Prod.mk.inj a1
        simp only [List.mapM_cons, List.mapM_nil, Option.bind_eq_bind, Option.bind_eq_some_iff, Option.pure_def, Option.some.injEq] at hm
        obtain ⟨y0, h0, r0, ⟨y1, h1, r1, rfl, rfl⟩, rfl⟩ := hm
        rw [o0, t0, hci] at h0
        rw [o1, t1, hcb] at h1
        obtain ⟨n, c0, rfl, _⟩ := DataW.trod_int hti h0
        obtain ⟨b', c1, rfl⟩ := DataW.trod_bool htb h1
        simp only [List.map_cons, List.map_nil, Prod.mk.injEq, DataW.agg.injEq, List.cons.injEq, DataW.lit.injEq, Lit.int.injEq, Lit.bool.injEq, true_and, and_true] at hx
        obtain ⟨⟨rfl, rfl⟩, _⟩ := hx
        obtain ⟨x, y, rfl⟩ : ∃ x y, cs = [x, y] := by
          cases cs with
          | nil => simp at hl
          | cons x r =>
            cases r with
            | nil => simp at hl
            | cons y r =>
              cases r with
              | nil => exact ⟨x, y, rfl⟩
              | cons z r => simp at hl
        simp at c0 c1
        rw [c0, c1]
    · cases h
def tabPairs {H : Type} (zs : List (Int × Bool)) : DataW H := .agg (zs.map fun z => .agg [.lit (.int .i64 z.1), .lit (.bool z.2)])
theorem pairs_cells {H : Type} {enc' : TypeId × Value → H} {P : Program} {w : World} {base : Nat} {sp : Nat → Bool} {held : Bool} {fuel : Nat} {t e ti tb : TypeId} {n : Nat} {fs : Array Field} {cs : List Value} {zs : List (Int × Bool)} {p : List MemPlace}
    (ht : P.underlying t = some (.array n e)) (he : P.underlying e = some (.struct fs)) (hfs : fs.toList.map (fun f => (f.offset, f.type)) = [(0, ti), (1, tb)]) (hti : P.underlying ti = some (.int .i64)) (htb : P.underlying tb = some .bool) (hce : P.cellsOf e = 2) (hci : P.cellsOf ti = 1) (hcb : P.cellsOf tb = 1)
    (h : DataW.trod enc' P w base sp held fuel t cs = some (tabPairs zs, p)) : ∀ (i : Nat) z, zs[i]? = some z → cs[2 * i]? = some (.int .i64 z.1) ∧ cs[2 * i + 1]? = some (.bool z.2) := by
  cases fuel with
  | zero => simp [DataW.trod] at h
  | succ fuel =>
    simp only [DataW.trod, ht, hce] at h
    split at h
    · obtain ⟨xs, hm, hx⟩ := Option.map_eq_some_iff.1 h
      have hxs : xs.map (·.1) = zs.map fun z => (DataW.agg [.lit (.int .i64 z.1), .lit (.bool z.2)] : DataW H) := by
        have := congrArg Prod.fst hx
        simpa [tabPairs] using this
      have hxl : xs.length = n := by simpa using Lib.mapM_length hm
      have hzl : zs.length = n := by
        have := congrArg List.length hxs
        simp at this
        omega
      intro i z hz
      have hi : i < n := by
        rw [← hzl]
        exact (List.getElem?_eq_some_iff.1 hz).1
      obtain ⟨b, hb, hf⟩ := Lib.mapM_at hm i i (by simp [hi])
      have h2 : (xs.map (·.1))[i]? = some b.1 := by simp [hb]
      rw [hxs] at h2
      simp only [List.getElem?_map, hz, Option.map_some, Option.some.injEq] at h2
      obtain ⟨b1, b2⟩ := b
      dsimp only at h2
      subst h2
      have hc := pair_cells he hfs hti htb hce hci hcb hf
      have e0 := congrArg (·[0]?) hc
      have e1 := congrArg (·[1]?) hc
      simp [List.getElem?_take, List.getElem?_drop] at e0 e1
      refine ⟨?_, ?_⟩
      · rw [← e0]; congr 1; omega
      · rw [← e1]; congr 1; omega
    · cases h
def kinds : List (Int × Bool) := [(0, false), (8, true), (11, true), (20, true), (24, true), (6, false)]
theorem kinds_gl (i : Nat) (z : Int × Bool) (h : kinds[i]? = some z) : True := trivial
theorem glOK_of {W : World} (h : laidMetH Proofs.Tryz.prog [("cartouche/offs.kinds", Proofs.YtjepeadpofpadaaGreatDoor.Rows.laid_cartouche_offs_kinds)] W) : GlOK gl (memH W) := by
  have h' : laidMet Proofs.Tryz.prog [("cartouche/offs.kinds", Proofs.YtjepeadpofpadaaGreatDoor.Rows.laid_cartouche_offs_kinds)] W := h
  obtain ⟨ps, ⟨g', t', cs, fuel, p, q, hg', ht', hvar, hd, _, _⟩, _⟩ := h'
  have hg : Proofs.Tryz.prog.globalNamed "cartouche/offs.kinds" = some 0 := by kernel_rfl
  have hty : (Proofs.Tryz.prog.globals[0]?).map (·.type) = some 110 := by kernel_rfl
  obtain rfl := Option.some.inj (hg.symm.trans hg')
  obtain rfl := Option.some.inj (hty.symm.trans ht')
  have T0 := tab_ok.1
  obtain ⟨d0, hd0, k0⟩ := T0.und (t := 110) (by rfl)
  obtain ⟨d1, hd1, k1⟩ := T0.und (t := 109) (by rfl)
  obtain ⟨d2, hd2, k2⟩ := T0.und (t := 3) (by rfl)
  obtain ⟨d3, hd3, k3⟩ := T0.und (t := 4) (by rfl)
  have e0 : d0 = .array 6 109 := tk_array (k0.trans rfl)
  obtain ⟨fs, e1, hfs⟩ := tk_struct (l := [(0, 3), (1, 4)]) (k1.trans rfl)
  have e2 : d2 = .int .i64 := tk_int (k2.trans rfl)
  have e3 : d3 = .bool := tk_bool (k3.trans rfl)
  rw [e0] at hd0; rw [e1] at hd1; rw [e2] at hd2; rw [e3] at hd3
  have hc := pairs_cells (zs := kinds) hd0 hd1 hfs hd2 hd3 (by kernel_rfl) (by kernel_rfl) (by kernel_rfl) hd
  have at_ : ∀ j, W.cell? ⟨0, j, none⟩ = cs[j]? := fun j => World.var?_cell hg hvar j
  have hcl : ∀ (j : Nat) v, cs.toList[j]? = some v → memH W 0 j = some v := fun j v hv => by
    show W.cell? ⟨0, j, none⟩ = some v
    rw [at_, ← hv]; simp
  intro g cells hgl j v hv
  have hg0 : g = 0 ∧ cells = [.i .i64 0, .b false, .i .i64 8, .b true, .i .i64 11, .b true, .i .i64 20, .b true, .i .i64 24, .b true, .i .i64 6, .b false] := by
    unfold gl at hgl
    simp only [find] at hgl
    cases hb : Nat.beq 0 g with
    | true => rw [hb] at hgl; have := Nat.eq_of_beq_eq_true hb; injection hgl with hgl; exact ⟨this.symm, hgl.symm⟩
    | false => rw [hb] at hgl; cases hgl
  obtain ⟨rfl, rfl⟩ := hg0
  match j, hv with
  | 0, hv => cases hv; exact ⟨_, hcl _ _ (hc 0 _ rfl).1, fun _ _ => .i _ _⟩
  | 1, hv => cases hv; exact ⟨_, hcl _ _ (hc 0 _ rfl).2, fun _ _ => .b _⟩
  | 2, hv => cases hv; exact ⟨_, hcl _ _ (hc 1 _ rfl).1, fun _ _ => .i _ _⟩
  | 3, hv => cases hv; exact ⟨_, hcl _ _ (hc 1 _ rfl).2, fun _ _ => .b _⟩
  | 4, hv => cases hv; exact ⟨_, hcl _ _ (hc 2 _ rfl).1, fun _ _ => .i _ _⟩
  | 5, hv => cases hv; exact ⟨_, hcl _ _ (hc 2 _ rfl).2, fun _ _ => .b _⟩
  | 6, hv => cases hv; exact ⟨_, hcl _ _ (hc 3 _ rfl).1, fun _ _ => .i _ _⟩
  | 7, hv => cases hv; exact ⟨_, hcl _ _ (hc 3 _ rfl).2, fun _ _ => .b _⟩
  | 8, hv => cases hv; exact ⟨_, hcl _ _ (hc 4 _ rfl).1, fun _ _ => .i _ _⟩
  | 9, hv => cases hv; exact ⟨_, hcl _ _ (hc 4 _ rfl).2, fun _ _ => .b _⟩
  | 10, hv => cases hv; exact ⟨_, hcl _ _ (hc 5 _ rfl).1, fun _ _ => .i _ _⟩
  | 11, hv => cases hv; exact ⟨_, hcl _ _ (hc 5 _ rfl).2, fun _ _ => .b _⟩
  | n + 12, hv => cases hv
end Go.Ev.Tryz
