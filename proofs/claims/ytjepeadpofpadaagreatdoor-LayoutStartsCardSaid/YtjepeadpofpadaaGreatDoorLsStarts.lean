/-
  THE LAW LayoutStarts, for every input: the call returns true, and its argument reads afterwards as it read before. Condition: the package variable offs.kinds holds what the program's text lays (the card ties it). The proof: an evaluator of the program's own code on plain data (proved sound once against the model of calls), each function's answer as a Lean function that the evaluator gives, and a plain law over these functions.
-/
import Derived.Test.YtjepeadpofpadaaGreatDoorLsG
import Derived.Test.YtjepeadpofpadaaGreatDoorLsN0
import Derived.Test.YtjepeadpofpadaaGreatDoorLsK12
import Derived.Deep.DeepHandedRow
set_option linter.unusedSimpArgs false
set_option linter.unusedVariables false
set_option linter.unusedSectionVars false
namespace Go.Proofs.YtjepeadpofpadaaGreatDoor.layoutStarts
open Go Go.Ev Go.ChangeShapes Go.WideShapes Go.ChangeAt Go.RowKit
theorem own : ownKnob Tryz.prog.godebug = none := by kernel_rfl
theorem laidOut : laidOutB Tryz.prog = true := by kernel_rfl
theorem params : Tryz.f3.params.toList.map Ev.Tryz.cx0.ty = [Ty.sl .line].map some := by kernel_rfl
theorem readable : Tryz.prog.readableRec 22 = true ∧ 22 < Tryz.prog.types.size := ⟨by kernel_rfl, of_decide_eq_true (by kernel_rfl)⟩
theorem plainLaw (a : ShTs ([Ty.sl .line].map Shp.ty)) (ha : WfA [Ty.sl .line] a) : ∃ n, (fun (n : Nat) (a : ShTs ([Ty.sl .line].map Shp.ty)) (o : ObTs []) => (Ev.Tryz.law23_LayoutStarts_fm n).run a o) n a () = some (true, ()) :=
  Ev.Tryz.LayoutStarts_at a.1 fun x hx => ha.1.2 x hx
set_option maxRecDepth 100000 in
theorem contract (H : Type) (enc : TypeId × Value → H) (W : World) (base : Nat) (args : Array Value) (ds gs : List (DataW H)) (before : List MemPlace)
    (hval : ∀ (j : Nat) t v, Tryz.f3.params[j]? = some t → args[j]? = some v → Value.okWide Tryz.prog W .any base t v)
    (hW : DataW.Whole enc Tryz.prog Tryz.f3.params.toList Rows.layoutStartsSpec.vars false W args.toList ds gs before) (hL : laidMetH Tryz.prog Rows.layoutStartsRow.laid W) :
    Calls Tryz.prog 3 args W fun e W' => ∃ v, e = .returned v ∧ Rows.layoutStartsSpec.post enc Tryz.prog Tryz.f3 false true false false W args v W' :=
  law_contract Ev.Tryz.tab_ok.1 Ev.Tryz.tab_ok.2 laidOut (codes := [.sl .line]) (fun n => Ev.Tryz.law23_LayoutStarts_snd n) plainLaw params
    (fun t ht => by
      rw [Tryz.params3] at ht
      obtain rfl : t = 22 := by simpa using ht
      exact readable)
    (tb := 4) (by kernel_rfl) Tryz.underlying4 rfl
    (fun H ds h => by
      match ds, h with
      | [d], _ => rfl)
    (Ev.Tryz.glOK_of hL) hval hW
noncomputable def laidWorld (os : Os) : World :=
  { World.holding Tryz.prog os ⟨#[], #[], []⟩ with heap := (World.holding Tryz.prog os ⟨#[], #[], []⟩).heap.modify 0 fun
      | .cells _ t frozen => .cells #[.int .i64 0, .bool false, .int .i64 8, .bool true, .int .i64 11, .bool true, .int .i64 20, .bool true, .int .i64 24, .bool true, .int .i64 6, .bool false] t frozen
      | o => o }
theorem laid_met (os : Os) : laidMet Tryz.prog Rows.layoutStartsRow.laid ((laidWorld os).forCall (fun _ _ => 0) ⟨#[], #[.slice none 0 0], []⟩).memory :=
  laidMet_of_run' 8 (by kernel_rfl) (by kernel_rfl)
theorem reads (os : Os) {H : Type} (enc : TypeId × Value → H) : ∃ places, DataW.whole enc Tryz.prog ((laidWorld os).forCall (fun _ _ => 0) ⟨#[], #[.slice none 0 0], []⟩).memory Tryz.f3.params.toList Rows.layoutStartsSpec.vars false #[Value.slice none 0 0].toList 8 = some ([.nil], [], places) :=
  ⟨[], by kernel_rfl⟩
set_option maxRecDepth 100000 in
theorem lifted (os : Os) (started : os.Started) (H : Type) (enc : TypeId × Value → H) (F : Stop.Interp) :
    ReturnsInHanded {} Tryz.checked os 3 .any ((OpenSpec.ofChange Rows.layoutStartsSpec).preRow enc Tryz.prog Tryz.f3 Rows.layoutStartsRow.domain false Rows.layoutStartsRow.laid) (((OpenSpec.ofChange Rows.layoutStartsSpec).at F).post enc Tryz.prog Tryz.f3 false true false false) := by
  obtain ⟨places, hx⟩ := reads os enc
  refine returnsInHanded_of_row (C := Tryz.checked) (s := OpenSpec.ofChange Rows.layoutStartsSpec) own started (by kernel_rfl) Tryz.func3
    (witness_row_at (enc := enc) (C := Tryz.checked) false (laidWorld os) #[.slice none 0 0] rfl (by kernel_rfl) (by kernel_rfl) (by kernel_rfl)
      (OpenSpec.preRow_of_cond 8 hx (by kernel_rfl) (fun k hk => by cases hk) (by kernel_rfl) (laid_met os))) ?_
  intro W base args ds gs before hval hW _ _ _ hL _ _
  exact contract H enc W base args ds gs before hval hW hL
theorem said : Rows.LayoutStartsSaid :=
  OpenClaim.holds_of_cond 3 Tryz.f3 rfl rfl rfl rfl rfl rfl rfl ⟨rfl, rfl, rfl, rfl, rfl⟩ rfl rfl rfl rfl rfl (by kernel_rfl) Tryz.func3 (by kernel_rfl)
    (of_decide_eq_true (by kernel_rfl)) (by unfold Func.isWrapper; first | (rw [if_pos (by decide +kernel)]; kernel_rfl) | (rw [if_neg (by decide +kernel)]; exact ⟨rfl, rfl⟩))
    (fun os started H enc _ F => by rw [OpenClaim.pre_eq_preRow]; exact lifted os started H enc F)
theorem plain (f : FuncId) (fn : Func) (hf : Tryz.pinned.checked.prog.funcNamed "cartouche/cartouchelaw23.LayoutStarts" = some f) (hfn : Tryz.pinned.checked.prog.funcs[f]? = some fn) :
    false = Tryz.pinned.checked.prog.looks [] ∧ ∀ (j : Nat) t, fn.params[j]? = some t → Tryz.pinned.checked.prog.wantsStandIn t = false := by
  obtain rfl : f = 3 := Option.some.inj ((show Tryz.prog.funcNamed "cartouche/cartouchelaw23.LayoutStarts" = some 3 by kernel_rfl).symm.trans hf) |>.symm
  obtain rfl : fn = Tryz.f3 := (Option.some.inj (Tryz.func3.symm.trans hfn)).symm
  refine ⟨by kernel_rfl, fun j t ht => ?_⟩
  rw [Tryz.params3] at ht
  obtain rfl : t = 22 := by simpa using Array.mem_of_getElem? ht
  exact (show Tryz.prog.wantsStandIn 22 = false by kernel_rfl)
theorem card : Rows.LayoutStartsCardSaid :=
  Claim7.holds_tied_plain_at .later [] _ _ _ _ said (fun _ h => by cases h) (by kernel_rfl) (fun _ h => by cases h) layoutStarts_row_tie rfl ⟨rfl, rfl⟩ (by kernel_rfl) rfl plain (by kernel_rfl)
end Go.Proofs.YtjepeadpofpadaaGreatDoor.layoutStarts
