/- The seat's types are as the program has them. -/
import Derived.Test.YtjepeadpofpadaaGreatDoorLsK4
import Derived.Test.YtjepeadpofpadaaGreatDoorLsKS
import Derived.Test.YtjepeadpofpadaaGreatDoorChecked
set_option linter.unusedSimpArgs false
set_option linter.unusedVariables false
set_option linter.unusedSectionVars false
namespace Go.Ev.Tryz
open Go Go.Ev
def cx0 : Cx := { ti := ti, ty := ty, gl := fun _ => none, cm := fun _ => [], lm := fun _ => none, res := [], fz := false, ow := false }
theorem tab_rows : (tis.map (·.1)).all (rowB Proofs.Tryz.prog cx0) = true := by kernel_rfl
theorem find_mem {α : Type} {d : α} {n : Nat} : ∀ (l : List (Nat × α)), find d n l = d ∨ ∃ x, (n, x) ∈ l ∧ find d n l = x
  | [] => .inl rfl
  | (m, x) :: r => by
    simp only [find]
    cases h : Nat.beq m n with
    | true => exact .inr ⟨x, by rw [Nat.eq_of_beq_eq_true h]; simp, rfl⟩
    | false =>
      rcases find_mem r with h1 | ⟨y, h1, h2⟩
      · exact .inl h1
      · exact .inr ⟨y, List.mem_cons_of_mem _ h1, h2⟩
theorem tys_ti : tys.all (fun x => (ti x.1).ok) = true := by kernel_rfl
theorem tab_ok : TabOK Proofs.Tryz.prog cx0 ∧ ∀ t c, ty t = some c → shapeB cx0 (ti t).k c = true := by
  refine tabOK_of tab_rows (fun t ht => ?_) (fun t c hc => ?_)
  · rcases find_mem (d := TI.none) (n := t) tis with h | ⟨x, h, _⟩
    · have h' : ti t = TI.none := h
      have ht' : (ti t).ok = true := ht
      rw [h'] at ht'; cases ht'
    · exact List.mem_map_of_mem (f := (·.1)) h
  · have hc' : find none t (tys.map fun x => (x.1, some x.2)) = some c := hc
    rcases find_mem (d := (none : Option Ty)) (n := t) (tys.map fun x => (x.1, some x.2)) with h | ⟨x, h, _⟩
    · rw [h] at hc'; cases hc'
    · rw [List.mem_map] at h
      obtain ⟨y, hy, e⟩ := h
      cases e
      have := tys_ti
      rw [List.all_eq_true] at this
      exact this y hy
end Go.Ev.Tryz
