/- Code. -/
import Derived.Test.YtjepeadpofpadaaGreatDoorLsK3
import GoSem.ClaimChange
import Derived.Test.YtjepeadpofpadaaGreatDoorLsK1
import Derived.ChangeArms
import Derived.DataReads
import Derived.WalkKit
import Derived.ProofKit
import Derived.OpenShut
import Derived.Carry
set_option linter.unusedSimpArgs false
set_option linter.unusedVariables false
set_option linter.unusedSectionVars false
namespace Go.Ev
open Go
theorem flatFs_res (cx : Cx) (r : List ResultVar) : ∀ (l : List (Nat × Nat)) (i : Nat), flatFs { cx with res := r } i l = flatFs cx i l
  | [], _ => rfl
  | f :: l, i => by simp only [flatFs]; rw [flatFs_res cx r l]
theorem zeroV_res (cx : Cx) (r : List ResultVar) : ∀ (n t : Nat), zeroV { cx with res := r } n t = zeroV cx n t
  | 0, _ => rfl
  | n + 1, t => by
    have h : zeroV { cx with res := r } n = zeroV cx n := funext (zeroV_res cx r n)
    simp only [zeroV, h]
theorem TabOK.res {P : Program} {cx : Cx} (T0 : TabOK P cx) (r : List ResultVar) : TabOK P { cx with res := r } := by
  refine ⟨T0.ti, T0.ty, fun t h => by rw [zeroV_res]; exact T0.zero t h, T0.zsz, T0.byt, fun t h => T0.flat t ?_, T0.fld⟩
  rw [← h]
  simp only [flatK, flatFs_res]
def Ex.to : Ex → Exit
  | .normal => .normal
  | .exit id => .exit id
  | .goto l => .goto l
  | .ret => .ret
def loopsOf : Code → List Code
  | .seq a b => loopsOf a ++ loopsOf b
  | .cond _ a b => loopsOf a ++ loopsOf b
  | .block _ c => loopsOf c
  | .scope c => loopsOf c
  | .loop c => c :: loopsOf c
  | _ => []
def LoopsOK (cx : Cx) (l : List Code) : Prop := ∀ c ∈ l, ∀ m, cx.lm (firstRegion c) = some m → lmOK m = true ∧ ∃ n, ∀ x o, m.run x o = iter (fun s => roundF { cx with res := [] } c m s.1 s.2) n (x, o)
theorem leave_exNo {ρ : Type} {k : Ex → Option ρ} {e : Ex} : ∀ (exs : List Ex) (j : Nat) (r : ρ), exNo e exs = some j → leave exs j k = some r → k e = some r
  | [], j, r, h, _ => by simp [exNo] at h
  | x :: l, j, r, h, h2 => by
    have hcase : (j = 0 ∧ x = e) ∨ ∃ j', exNo e l = some j' ∧ j = j' + 1 := by
      have step : (exNo e l).map (· + 1) = some j → (j = 0 ∧ x = e) ∨ ∃ j', exNo e l = some j' ∧ j = j' + 1 := fun h => by
        cases he : exNo e l with
        | none => rw [he] at h; cases h
        | some j' => rw [he] at h; cases h; exact .inr ⟨j', rfl, rfl⟩
      cases x with
      | normal => exact step (by cases e <;> exact h)
      | ret =>
        cases e with
        | ret => simp [exNo] at h; exact .inl ⟨h.symm, rfl⟩
        | normal => exact step h
        | exit id => exact step h
        | goto l => exact step h
      | exit id =>
        cases e with
        | exit id' =>
          simp only [exNo] at h
          cases hb : Nat.beq id id' with
          | true => rw [hb] at h; cases h; exact .inl ⟨rfl, by rw [Nat.eq_of_beq_eq_true hb]⟩
          | false => rw [hb] at h; exact step h
        | normal => exact step h
        | ret => exact step h
        | goto l => exact step h
      | goto id =>
        cases e with
        | goto id' =>
          simp only [exNo] at h
          cases hb : Nat.beq id id' with
          | true => rw [hb] at h; cases h; exact .inl ⟨rfl, by rw [Nat.eq_of_beq_eq_true hb]⟩
          | false => rw [hb] at h; exact step h
        | normal => exact step h
        | ret => exact step h
        | exit l => exact step h
    rcases hcase with ⟨rfl, rfl⟩ | ⟨j', h3, rfl⟩
    · cases l with
      | nil => exact h2
      | cons y l => exact h2
    · cases l with
      | nil => simp [exNo] at h3
      | cons y l =>
        refine leave_exNo (y :: l) j' r h3 ?_
        exact h2
theorem len_take_obs {os : List ObS} {O : List Ob} {o : ObTs os} (h : upkObs os (O.take os.length) = some o) : os.length ≤ O.length ∧ (O.take os.length).length = os.length := by
  have h1 := (upkObs_w os _ o h).1
  rw [len_pkObs] at h1
  have h2 := h1
  rw [List.length_take] at h2
  exact ⟨by omega, h1⟩
theorem head_inv {g : Gh} {H : HM} {μ : MU} {fr : List V} {O : List Ob} {tmps : Array Value} {w : World} (h : Inv g [] H μ fr O tmps w) {m : LM} (hm : lmOK m = true) (hk : g.m0.length ≤ m.os.length) (hn : Nat.beq fr.length m.n = true)
    {x : FrT m.fs} {o : ObTs m.os} (hx : upkFr fr m.fs = some x) (ho : upkObs m.os (O.take m.os.length) = some o) : Inv g [] H (μ.take m.os.length) (pkFr m.n m.fs x) (pkObs m.os o) tmps w := by
  have hn' : fr.length = m.n := Nat.eq_of_beq_eq_true hn
  simp only [lmOK, Bool.and_eq_true] at hm
  obtain ⟨hl1, hl2⟩ := len_take_obs ho
  obtain ⟨hw1, hw2⟩ := upkObs_w _ _ _ ho
  have h1 := h.weakFr (fr' := pkFr m.n m.fs x) (by rw [len_pkFr, hn']) (pkFr_get hn' m.fs x hx)
  have hO : ∀ (n : Nat), n < m.os.length → (pkObs m.os o ++ O.drop m.os.length)[n]? = (pkObs m.os o)[n]? := fun n hn => List.getElem?_append_left (by rw [len_pkObs]; exact hn)
  have h2 := h1.weakObs (O' := pkObs m.os o ++ O.drop m.os.length) (by simp [len_pkObs]; omega) (fun n ob ob' e1 e2 => by
    rcases Nat.lt_or_ge n m.os.length with hlt | hge
    · rw [hO n hlt] at e2
      exact hw2 n ob ob' (take_get e1 hlt) e2
    · rw [List.getElem?_append_right (by rw [len_pkObs]; exact hge), len_pkObs, List.getElem?_drop, Nat.add_sub_cancel' hge, e1] at e2
      cases e2; exact .inl rfl)
  have h3 := h2.cut m.os.length hk (pkFr_lt _ _ m.fs x hm.1) (fun n ob hlt e => by
    rw [hO n hlt] at e
    obtain ⟨a, y, e1, rfl⟩ := pkObs_get _ _ _ _ e
    have hm2 := hm.2
    rw [List.all_eq_true] at hm2
    exact pkOb_lt _ a y (hm2 a (List.mem_of_getElem? e1)))
  have e : (pkObs m.os o ++ O.drop m.os.length).take m.os.length = pkObs m.os o := by
    rw [List.take_append_of_le_length (by rw [len_pkObs]; exact Nat.le_refl _), List.take_of_length_le (by rw [len_pkObs]; exact Nat.le_refl _)]
  rw [e] at h3
  exact h3
theorem exec_sound {P : Program} (hmix : P.follows .mixedOrders = true) {g : Gh} : ∀ (c : Code) (cx : Cx), TabOK P cx → ModelsOK P cx → GlOK cx.gl g.H0 → LoopsOK cx (loopsOf c) → ∀ {ρ : Type} (k : K ρ) (r : ρ) {Q : Exit → Act → World → Prop} {fr : List V} {O : List Ob} {H : HM} {μ : MU} {a : Act} {w : World},
    Inv g [] H μ fr O a.tmps w → exec cx c fr O k = some r → (∀ e fr' O', k e fr' O' = some r → ∀ H' μ' a' w', a'.defers = a.defers → Inv g [] H' μ' fr' O' a'.tmps w' → Q e.to a' w') → c.wp P Q a w
  | .skip, cx, T0, hM, hgl, hL, ρ, k, r, Q, fr, O, H, μ, a, w, h, hr, hQ => wp_skip (hQ .normal fr O hr H μ a w rfl h)
  | .label l, cx, T0, hM, hgl, hL, ρ, k, r, Q, fr, O, H, μ, a, w, h, hr, hQ => wp_label (hQ .normal fr O hr H μ a w rfl h)
  | .ret, cx, T0, hM, hgl, hL, ρ, k, r, Q, fr, O, H, μ, a, w, h, hr, hQ => wp_ret (hQ .ret fr O hr H μ a w rfl h)
  | .exit id, cx, T0, hM, hgl, hL, ρ, k, r, Q, fr, O, H, μ, a, w, h, hr, hQ => wp_exit (hQ (.exit id) fr O hr H μ a w rfl h)
  | .goto l, cx, T0, hM, hgl, hL, ρ, k, r, Q, fr, O, H, μ, a, w, h, hr, hQ => by cases hr
  | .refuse y, cx, T0, hM, hgl, hL, ρ, k, r, Q, fr, O, H, μ, a, w, h, hr, hQ => by cases hr
  | .rangeFunc _ _ _ _, cx, T0, hM, hgl, hL, ρ, k, r, Q, fr, O, H, μ, a, w, h, hr, hQ => by cases hr
  | .seq x y, cx, T0, hM, hgl, hL, ρ, k, r, Q, fr, O, H, μ, a, w, h, hr, hQ => by
    refine wp_seq (exec_sound hmix x cx T0 hM hgl (fun c hc => hL c (by simp only [loopsOf, List.mem_append]; exact .inl hc)) _ r h hr fun e fr' O' he H' μ' a' w' hd hI => ?_)
    cases e with
    | normal => exact exec_sound hmix y cx T0 hM hgl (fun c hc => hL c (by simp only [loopsOf, List.mem_append]; exact .inr hc)) k r hI he fun e fr' O' he H' μ' a'' w' hd' hI => hQ e fr' O' he H' μ' a'' w' (hd'.trans hd) hI
    | ret => exact hQ .ret fr' O' he H' μ' a' w' hd hI
    | exit id => exact hQ (.exit id) fr' O' he H' μ' a' w' hd hI
    | goto id => exact hQ (.goto id) fr' O' he H' μ' a' w' hd hI
  | .cond c x y, cx, T0, hM, hgl, hL, ρ, k, r, Q, fr, O, H, μ, a, w, h, hr, hQ => by
    have hv := (ov_val h (hgl.le h.hle) (p := []) rfl (x := c) (by cases c <;> rfl)).1
    simp only [exec] at hr
    split at hr
    · rename_i b hb
      rw [hb] at hv
      have hb' : a.eval c = .bool b := by
        generalize a.eval c = q at hv
        cases hv; rfl
      refine wp_cond hb' ?_
      cases b with
      | true => exact exec_sound hmix x cx T0 hM hgl (fun c hc => hL c (by simp only [loopsOf, List.mem_append]; exact .inl hc)) k r h hr hQ
      | false => exact exec_sound hmix y cx T0 hM hgl (fun c hc => hL c (by simp only [loopsOf, List.mem_append]; exact .inr hc)) k r h hr hQ
    · cases hr
  | .block id c, cx, T0, hM, hgl, hL, ρ, k, r, Q, fr, O, H, μ, a, w, h, hr, hQ => by
    refine wp_block (exec_sound hmix c cx T0 hM hgl hL _ r h hr fun e fr' O' he H' μ' a' w' hd hI => ?_)
    cases e with
    | normal => exact hQ .normal fr' O' he H' μ' a' w' hd hI
    | ret => exact hQ .ret fr' O' he H' μ' a' w' hd hI
    | goto id => exact hQ (.goto id) fr' O' he H' μ' a' w' hd hI
    | exit id' =>
      show Exit.inBlock id Q (.exit id') a' w'
      simp only [Exit.inBlock]
      dsimp only at he
      cases hb : Nat.beq id' id with
      | true => rw [hb] at he; rw [if_pos (Nat.eq_of_beq_eq_true hb)]; exact hQ .normal fr' O' he H' μ' a' w' hd hI
      | false => rw [hb] at he; rw [if_neg (fun e => by rw [e] at hb; simp at hb)]; exact hQ (.exit id') fr' O' he H' μ' a' w' hd hI
  | .scope c, cx, T0, hM, hgl, hL, ρ, k, r, Q, fr, O, H, μ, a, w, h, hr, hQ => by
    refine wp_scope_straight (exec_sound hmix c cx T0 hM hgl hL _ r h hr fun e fr' O' he H' μ' a' w' hd hI => ?_)
    cases e with
    | normal => exact hQ .normal fr' O' he H' μ' a' w' hd hI
    | ret => exact hQ .ret fr' O' he H' μ' a' w' hd hI
    | goto id => cases he
    | exit id => exact hQ (.exit id) fr' O' he H' μ' a' w' hd hI
  | .region id ops draw, cx, T0, hM, hgl, hL, ρ, k, r, Q, fr, O, H, μ, a, w, h, hr, hQ => by
    simp only [exec] at hr
    split at hr
    · rename_i hc
      rw [Bool.and_eq_true] at hc
      exact region_sound T0 hM hmix hgl hc.1 hc.2 h hr fun fr' O' he H' μ' a' w' hd hI => hQ .normal fr' O' he H' μ' a' w' hd hI
    · cases hr
  | .loop c, cx, T0, hM, hgl, hL, ρ, k, r, Q, fr, O, H, μ, a, w, h, hr, hQ => by
    simp only [exec] at hr
    split at hr
    · rename_i m hm
      obtain ⟨hlm, n0, hrun⟩ := hL c (by simp [loopsOf]) m hm
      simp only [runLoop] at hr
      split at hr
      · rename_i x o hn hx ho
        cases hy : m.run x o with
        | none => rw [hy] at hr; cases hr
        | some y =>
        rw [hy] at hr
        have hle : O.length = m.os.length := by
          have := (upkObs_w _ _ _ ho).1
          rw [len_pkObs] at this; exact this
        have hk : g.m0.length ≤ m.os.length := by
          rw [← hle, h.olen]
          rcases Nat.lt_or_ge μ.length g.m0.length with h1 | h1
          · have := h.mle _ _ (List.getElem?_eq_getElem h1)
            rw [List.getElem?_eq_none (Nat.le_refl _)] at this; cases this
          · exact h1
        have hI0 := head_inv h hlm hk hn hx (by rw [List.take_of_length_le (by omega)]; exact ho)
        rw [hrun x o] at hy
        let cx0 : Cx := { cx with res := [] }
        have T0' : TabOK P cx0 := T0.res []
        let I : Nat → Act → World → Prop := fun n a' w' => ∃ x o H μ, iter (fun s => roundF cx0 c m s.1 s.2) n (x, o) = some y ∧ Inv g [] H μ (pkFr m.n m.fs x) (pkObs m.os o) a'.tmps w' ∧ a'.defers = a.defers
        refine wp_loop_n I (fun n a1 w1 hI => ?_) (n := n0) ⟨x, o, H, _, hy, hI0, rfl⟩
        obtain ⟨x1, o1, H1, μ1, hit, hI1, hd1⟩ := hI
        cases n with
        | zero => cases hit
        | succ n =>
          simp only [iter] at hit
          cases hb : roundF cx0 c m x1 o1 with
          | none => rw [hb] at hit; cases hit
          | some z =>
          rw [hb] at hit
          simp only [Option.bind_some] at hit
          refine exec_sound hmix c cx0 T0' hM hgl (fun c' hc' => hL c' (by simp only [loopsOf, List.mem_cons]; exact .inr hc')) (roundEnd m) z hI1 hb fun e fr' O' he H' μ' a' w' hd hI2 => ?_
          simp only [roundEnd] at he
          split at he
          · rename_i x2 o2 hn2 hx2 ho2
            have hI3 := head_inv hI2 hlm hk hn2 hx2 ho2
            cases e with
            | normal =>
              cases he
              exact ⟨n, by omega, x2, o2, H', _, hit, hI3, hd.trans hd1⟩
            | _ =>
              dsimp only at he
              split at he
              · rename_i j hj
                cases he
                dsimp only at hit
                cases hit
                exact hQ _ _ _ (leave_exNo _ _ _ hj hr) H' _ a' w' (hd.trans hd1) hI3
              · cases he
          · cases he
      · cases hr
    · cases hr
end Go.Ev
namespace Go.Ev
open Go
def rvSem (tmps : Array Value) : ResultVar → Sem Value
  | .tmp t => pure (tmps.getD t undef)
  | .cell a t => do loadVar t (← asAddr (tmps.getD a undef))
section
variable {P : Program} {cx : Cx} {g : Gh} {H : HM} {μ : MU} {fr : List V} {O : List Ob} {a : Act} {w : World}
theorem slot_val (h : Inv g [] H μ fr O a.tmps w) (t : Nat) : Val H μ w (fr.getD t .u) (a.tmps.getD t undef) ∧ ∀ b, blkOf (fr.getD t .u) (a.tmps.getD t undef) = some b → owns fr O μ a.tmps w (.slot t) b := by
  by_cases hlt : t < fr.length
  · have h1 : fr[t]? = some (fr.getD t .u) := by simp [List.getD, List.getElem?_eq_getElem hlt]
    have hlt' : t < a.tmps.size := by rw [← h.len]; exact hlt
    have h2 : a.tmps[t]? = some (a.tmps.getD t undef) := by simp [Array.getD, hlt']
    exact ⟨h.slots t _ _ h1 h2, fun b hb => .inr ⟨_, _, ⟨h1, h2⟩, hb⟩⟩
  · have h1 : fr.getD t .u = .u := by simp [List.getD, List.getElem?_eq_none (Nat.le_of_not_lt hlt)]
    rw [h1]
    exact ⟨.of_dis (.u _) rfl, fun b hb => by simp [blkOf] at hb⟩
theorem result_sound (T0 : TabOK P cx) (h : Inv g [] H μ fr O a.tmps w) {r : ResultVar} {v : V} (hv : resultV cx fr O r = some v) :
    ∃ y, (rvSem a.tmps r).run P w = .ok y w ∧ Val H μ w v y ∧ ∀ b, blkOf v y = some b → ∃ t, owns fr O μ a.tmps w (.slot t) b := by
  cases r with
  | tmp t =>
    simp only [resultV] at hv
    cases hv
    obtain ⟨h1, h2⟩ := slot_val h t
    exact ⟨_, rfl, h1, fun b hb => ⟨t, h2 b hb⟩⟩
  | cell ad t =>
    simp only [resultV] at hv
    obtain ⟨y, h1, h2, h3⟩ := load_sound T0 h (slot_val h ad).1.1 hv
    refine ⟨y, ?_, .of_dis h2 h3, fun b hb => by rw [blkOf_of_dis h3] at hb; cases hb⟩
    show (do loadVar t (← asAddr (a.tmps.getD ad undef)) : Sem Value).run P w = _
    generalize a.tmps.getD ad undef = x at h1 ⊢
    cases x <;> first | (simp [Instr.loadAt, Instr.sureAddr, stuck] at h1; done) | skip
    rename_i p
    cases p with
    | none => simp [Instr.loadAt, Instr.sureAddr, stuck] at h1
    | some ad => simpa [Instr.loadAt, Instr.sureAddr, asAddr] using h1
theorem results_sound (T0 : TabOK P cx) (h : Inv g [] H μ fr O a.tmps w) : ∀ (l : List ResultVar) (vs : List V), resultsV cx fr O l = some vs →
    ∃ ys : List Value, (l.mapM (rvSem a.tmps)).run P w = .ok ys w ∧ ys.length = vs.length ∧ ∀ (j : Nat) v y, vs[j]? = some v → ys[j]? = some y → Val H μ w v y ∧ ∀ b, blkOf v y = some b → ∃ t, owns fr O μ a.tmps w (.slot t) b
  | [], vs, hv => by
    simp only [resultsV] at hv
    cases hv
    exact ⟨[], by simp, rfl, fun j v y h1 => by simp at h1⟩
  | r :: l, vs, hv => by
    simp only [resultsV] at hv
    split at hv
    · rename_i v vs' h1 h2
      cases hv
      obtain ⟨y, e1, e2, e3⟩ := result_sound T0 h h1
      obtain ⟨ys, e4, e5, e6⟩ := results_sound T0 h l vs' h2
      refine ⟨y :: ys, by simp [List.mapM_cons, e1, e4], by simp [e5], fun j v' y' h3 h4 => ?_⟩
      cases j with
      | zero => simp at h3 h4; subst h3; subst h4; exact ⟨e2, e3⟩
      | succ j => exact e6 j v' y' (by simpa using h3) (by simpa using h4)
    · cases hv
def resV : List Value → Value
  | [y] => y
  | ys => .tuple ys.toArray
theorem run_results {fn : Func} {ys : List Value} (h : (fn.results.toList.mapM (rvSem a.tmps)).run P w = .ok ys w) : (results fn a.tmps).run P w = .ok (resV ys) w := by
  have e : results fn a.tmps = (do
      let vs ← fn.results.mapM (rvSem a.tmps)
      pure (if h : vs.size = 1 then vs[0] else .tuple vs)) := by
    have : (fun | .tmp t => pure (a.tmps.getD t undef) | .cell x t => do loadVar t (← asAddr (a.tmps.getD x undef)) : ResultVar → Sem Value) = rvSem a.tmps := by
      funext r
      cases r <;> rfl
    unfold results
    rw [← this]
    rfl
  rw [e, Array.mapM_eq_mapM_toList]
  simp only [Sem.run_bind, Sem.run_map, h]
  match ys with
  | [] => rfl
  | [y] => rfl
  | y :: z :: r => rfl
end
end Go.Ev
namespace Go.Ev
open Go
def froz (H : HM) (w : World) (bs : List Nat) : HM := fun b o => if b ∈ bs then w.cell? ⟨b, o, none⟩ else H b o
section
variable {P : Program} {cx : Cx} {g : Gh} {H : HM} {μ : MU} {fr : List V} {O : List Ob} {a : Act} {w : World}
theorem froz_le (h : Inv g [] H μ fr O a.tmps w) (bs : List Nat) : H.le (froz H w bs) := fun b o v hv => by
  unfold froz
  split
  · exact h.agree b o v hv
  · exact hv
theorem froz_goes (h : Inv g [] H μ fr O a.tmps w) (bs : List Nat) : Goes H (froz H w bs) w w bs :=
  ⟨froz_le h bs, fun _ _ _ => rfl, Nat.le_refl _, fun b o _ hb => by unfold froz; rw [if_neg hb], rfl, rfl, rfl⟩
def dropped (μ : MU) (m : Nat) : List Nat := (μ.drop m).map MO.blk
theorem mem_dropped {m b : Nat} : b ∈ dropped μ m ↔ ∃ (n : Nat) (e : MO), m ≤ n ∧ μ[n]? = some e ∧ e.blk = b := by
  unfold dropped
  rw [List.mem_map]
  constructor
  · rintro ⟨e, he, rfl⟩
    obtain ⟨k, hk⟩ := List.mem_iff_getElem?.1 he
    rw [List.getElem?_drop] at hk
    exact ⟨m + k, e, by omega, hk, rfl⟩
  · rintro ⟨n, e, hn, he, rfl⟩
    refine ⟨e, List.mem_iff_getElem?.2 ⟨n - m, ?_⟩, rfl⟩
    rw [List.getElem?_drop, show m + (n - m) = n by omega]; exact he
theorem freeze_sound (h : Inv g [] H μ fr O a.tmps w) {m : Nat} (μ' : MU) {v v' : V} {y : Value} (hv : Val H μ w v y) (ho : ∀ b, blkOf v y = some b → ∃ t, owns fr O μ a.tmps w (.slot t) b) (hf : freeze cx O m v = some v') :
    Val (froz H w (dropped μ m)) μ' w v' y ∧ ∀ b, blkOf v' y = some b → (∃ t, owns fr O μ a.tmps w (.slot t) b) ∨ ∃ n, m ≤ n ∧ owns fr O μ a.tmps w (.obj n) b := by
  have hle := froz_le h (dropped μ m)
  unfold freeze at hf
  split at hf
  · rename_i n
    split at hf
    · rename_i t xs hO
      split at hf
      · rename_i hmn
        cases hf
        have hmn' : m ≤ n := Nat.le_of_ble_eq_true hmn
        have hvr := hv.1
        cases hvr with
        | ms _ e he =>
        obtain ⟨cur, el, hh, he1, he2, hsz, hel⟩ := h.obs n _ e hO he
        have hb : e.blk ∈ dropped μ m := mem_dropped.2 ⟨n, e, hmn', he, rfl⟩
        have hcell : ∀ o, froz H w (dropped μ m) e.blk o = cur[o]? := fun o => by
          unfold froz; rw [if_pos hb, cell_of_heap hh]
        rw [he2]
        refine ⟨⟨.sl t xs true ⟨e.blk, 0, none⟩ xs.length (fun i j => cur.getD (i * t.sz + j) undef) rfl (Nat.le_refl _) (fun i x j u1 hx hu => ?_) (fun i x j u1 hx hu => ?_), fun t' xs' e' => ?_⟩, fun b hb' => ?_⟩
        · dsimp only
          have hi := lt_of_get hx
          have hj := lt_of_get hu
          rw [enc_len] at hj
          have hlt : i * t.sz + j < cur.size := by rw [hsz]; exact idx_lt hi hj
          rw [Nat.zero_add, hcell]
          simp [hlt]
        · have hi := lt_of_get hx
          have hj := lt_of_get hu
          rw [enc_len] at hj
          have hlt : i * t.sz + j < cur.size := by rw [hsz]; exact idx_lt hi hj
          have := hel i x j u1 (cur.getD (i * t.sz + j) undef) hx hu (by simp [hlt])
          exact (this.mono hle (MU.le.refl μ)).noref (enc_noref hu)
        · cases e'
          refine .inr ⟨e.blk, xs.length, cur, el, rfl, hh, Nat.le_refl _, hsz, fun o ho => ?_⟩
          rw [hcell]
          exact Array.getElem?_eq_none (by omega)
        · simp only [blkOf] at hb'
          cases hb'
          exact .inr ⟨n, hmn', .inl ⟨n, e, rfl, he, rfl⟩⟩
      · cases hf
    · cases hf
  · rename_i n off
    split at hf
    · rename_i cs hO
      split at hf
      · rename_i hc
        cases hf
        simp only [Bool.and_eq_true] at hc
        obtain ⟨⟨⟨_, hmn⟩, hoff⟩, hnr⟩ := hc
        have hmn' : m ≤ n := Nat.le_of_ble_eq_true hmn
        have hoff' : off = 0 := Nat.eq_of_beq_eq_true hoff
        subst hoff'
        have hvr := hv.1
        cases hvr with
        | ptr _ _ e he =>
        obtain ⟨cur, el, hh, hsz, hel⟩ := h.obs n _ e hO he
        have hb : e.blk ∈ dropped μ m := mem_dropped.2 ⟨n, e, hmn', he, rfl⟩
        have hcell : ∀ o, froz H w (dropped μ m) e.blk o = cur[o]? := fun o => by
          unfold froz; rw [if_pos hb, cell_of_heap hh]
        refine ⟨.of_dis (.rp _ _ (fun j => cur.getD j undef) rfl (fun j u1 hu => ?_) (fun j u1 hu => ?_)) rfl, fun b hb' => by simp [blkOf] at hb'⟩
        · have hj := lt_of_get hu
          simp only [List.length_map] at hj
          rw [Nat.zero_add, hcell]
          simp [show j < cur.size by omega]
        · have hj := lt_of_get hu
          simp only [List.length_map] at hj
          rw [List.getElem?_map] at hu
          cases hc : cs[j]? with
          | none => rw [hc] at hu; cases hu
          | some c =>
            rw [hc] at hu; cases hu
            have := (hel j c (cur.getD j undef) hc (by simp [show j < cur.size by omega])).1
            refine ((this.mono hle (MU.le.refl μ)).noref (norefs_get hnr hc)).dis
      · cases hf
    · cases hf
  · split at hf
    · rename_i hnr
      cases hf
      refine ⟨⟨(hv.1.mono hle (MU.le.refl μ)).noref hnr, hv.2.goes (froz_goes h _) fun b hb hd => ?_⟩, fun b hb => .inl (ho b hb)⟩
      obtain ⟨t, h1⟩ := ho b hb
      obtain ⟨n, e, _, he, rfl⟩ := mem_dropped.1 hd
      have := h.uniq _ _ _ h1 (.inl ⟨n, e, rfl, he, rfl⟩)
      cases this
    · cases hf
theorem end_inv (h : Inv g [] H μ fr O a.tmps w) {m : Nat} (hm : g.m0.length = m) (hcl : (O.take m).all closedOb = true) {v : V} {y : Value} (hv : Val (froz H w (dropped μ m)) g.m0 w v y)
    (ho : ∀ b, blkOf v y = some b → (∃ t, owns fr O μ a.tmps w (.slot t) b) ∨ ∃ n, m ≤ n ∧ owns fr O μ a.tmps w (.obj n) b) : Inv g [] (froz H w (dropped μ m)) g.m0 [v] (O.take m) #[y] w := by
  have hlen : m ≤ μ.length := by
    rcases Nat.lt_or_ge μ.length m with h1 | h1
    · rw [← hm] at h1
      have := h.mle _ _ (List.getElem?_eq_getElem h1)
      rw [List.getElem?_eq_none (Nat.le_refl _)] at this; cases this
    · exact h1
  have notd : ∀ (n : Nat) e, g.m0[n]? = some e → e.blk ∉ dropped μ m := fun n e he hd => by
    obtain ⟨n', e', hn', he', hb⟩ := mem_dropped.1 hd
    have h1 := h.uniq (.obj n) (.obj n') e.blk (.inl ⟨n, e, rfl, h.mle n e he, rfl⟩) (.inl ⟨n', e', rfl, he', hb⟩)
    injection h1 with h1
    have := lt_of_get he
    omega
  have own : ∀ q b, owns [v] (O.take m) g.m0 #[y] w q b → (q = .slot 0 ∧ ((∃ t, owns fr O μ a.tmps w (.slot t) b) ∨ ∃ n, m ≤ n ∧ owns fr O μ a.tmps w (.obj n) b)) ∨ (owns fr O μ a.tmps w q b ∧ ((∃ n, n < m ∧ q = .obj n) ∨ ∃ n j, n < m ∧ q = .cell n j)) := by
    intro q b hq
    rcases hq with ⟨n, e, rfl, he, rfl⟩ | ⟨u1, x, h1, hb⟩
    · exact .inr ⟨.inl ⟨n, e, rfl, h.mle n e he, rfl⟩, .inl ⟨n, by have := lt_of_get he; omega, rfl⟩⟩
    · cases q with
      | obj n => cases h1
      | slot s =>
        cases s with
        | zero =>
          obtain ⟨h2, h3⟩ := h1
          simp at h2 h3
          subst h2; subst h3
          exact .inl ⟨rfl, ho b hb⟩
        | succ s => simp [plc] at h1
      | cell n j =>
        obtain ⟨e, cs, h2, h3, h4, h5⟩ := h1
        exact .inr ⟨.inr ⟨u1, x, ⟨e, cs, h.mle n e h2, (take_of h3).2, h4, h5⟩, hb⟩, .inr ⟨n, j, (take_of h3).1, rfl⟩⟩
  refine ⟨rfl, fun s u1 x h1 h2 => ?_, by simp [h.olen]; omega, fun n o e h1 h2 => ?_, fun n e h1 o => ?_, fun b o u1 hu => ?_, fun q q' b h1 h2 => ?_, fun q b h1 => ?_, h.frame, fun b o u1 hu => froz_le h _ b o u1 (h.hle b o u1 hu), fun b o hn => ?_, h.os, h.tape, h.output, h.size, MU.le.refl _⟩
  · cases s with
    | zero =>
      simp at h1 h2
      subst h1; subst h2
      exact hv
    | succ s => simp at h1
  · obtain ⟨h3, h4⟩ := take_of h1
    rw [List.all_eq_true] at hcl
    refine closed_obR (hcl o (List.mem_of_getElem? h1)) ((h.obs n o e h4 (h.mle n e h2)).goes (froz_goes h (dropped μ m)) (MU.le.refl μ) (notd n e h2) fun cs hcs j u1 x b hu hx hb hd => ?_)
    subst hcs
    obtain ⟨n', e', _, he', hb'⟩ := mem_dropped.1 hd
    have := h.uniq (.cell n j) (.obj n') b (.inr ⟨u1, x, ⟨e, cs, h.mle n e h2, h4, hu, hx⟩, hb⟩) (.inl ⟨n', e', rfl, he', hb'⟩)
    cases this
  · unfold froz
    rw [if_neg (notd n e h1)]
    exact h.hob n e (h.mle n e h1) o
  · unfold froz at hu
    split at hu
    · exact hu
    · exact h.agree b o u1 hu
  · rcases own q b h1 with ⟨rfl, h3⟩ | ⟨h3, h4⟩ <;> rcases own q' b h2 with ⟨rfl, h5⟩ | ⟨h5, h6⟩
    · rfl
    · exfalso
      rcases h3 with ⟨t, h3⟩ | ⟨n, hn, h3⟩
      · have e := h.uniq _ _ b h3 h5
        subst e
        rcases h6 with ⟨n, _, e⟩ | ⟨n, j, _, e⟩ <;> cases e
      · have e := h.uniq _ _ b h3 h5
        subst e
        rcases h6 with ⟨n, _, e⟩ | ⟨n, j, _, e⟩
        · injection e with e; omega
        · cases e
    · exfalso
      rcases h5 with ⟨t, h5⟩ | ⟨n, hn, h5⟩
      · have e := h.uniq _ _ b h5 h3
        subst e
        rcases h4 with ⟨n, _, e⟩ | ⟨n, j, _, e⟩ <;> cases e
      · have e := h.uniq _ _ b h5 h3
        subst e
        rcases h4 with ⟨n, _, e⟩ | ⟨n, j, _, e⟩
        · injection e with e; omega
        · cases e
    · exact h.uniq q q' b h3 h5
  · rcases own q b h1 with ⟨rfl, ⟨t, h3⟩ | ⟨n, _, h3⟩⟩ | ⟨h3, _⟩
    · exact h.rng _ b h3
    · exact h.rng _ b h3
    · exact h.rng _ b h3
  · by_cases hb : b ∈ dropped μ m
    · obtain ⟨n, e, _, he, rfl⟩ := mem_dropped.1 hb
      exact (h.rng (.obj n) e.blk (.inl ⟨n, e, rfl, he, rfl⟩)).1
    · unfold froz at hn
      rw [if_neg hb] at hn
      exact h.hnew b o hn
theorem freezeAll_get {m : Nat} : ∀ (vs ws : List V), freezeAll cx O m vs = some ws → ws.length = vs.length ∧ ∀ (j : Nat) u1, ws[j]? = some u1 → ∃ v v', vs[j]? = some v ∧ freeze cx O m v = some v' ∧ u1 = v'.dis
  | [], ws, h => by
    simp only [freezeAll] at h
    cases h
    exact ⟨rfl, fun j u1 h => by simp at h⟩
  | v :: r, ws, h => by
    simp only [freezeAll] at h
    split at h
    · rename_i v' r' h1 h2
      cases h
      obtain ⟨h3, h4⟩ := freezeAll_get r r' h2
      refine ⟨by simp [h3], fun j u1 hu => ?_⟩
      cases j with
      | zero => simp at hu; exact ⟨v, v', rfl, h1, hu.symm⟩
      | succ j => exact h4 j u1 (by simpa using hu)
    · cases h
theorem finish_inv (T0 : TabOK P cx) (h : Inv g [] H μ fr O a.tmps w) {m : Nat} (hm : g.m0.length = m) {fn : Func} (hres : fn.results.toList = cx.res) {v : V} {O' : List Ob} (hf : finish cx m fr O = some (v, O')) :
    ∃ y H', (results fn a.tmps).run P w = .ok y w ∧ Inv g [] H' g.m0 [v] O' #[y] w := by
  unfold finish at hf
  split at hf
  · rename_i hcl
    have fin : ∀ vs, resultsV cx fr O cx.res = some vs → ∀ (ys : List Value), (fn.results.toList.mapM (rvSem a.tmps)).run P w = .ok ys w → ys.length = vs.length → ∀ u1, (∃ y, resV ys = y ∧ Val (froz H w (dropped μ m)) g.m0 w u1 y ∧ ∀ b, blkOf u1 y = some b → (∃ t, owns fr O μ a.tmps w (.slot t) b) ∨ ∃ n, m ≤ n ∧ owns fr O μ a.tmps w (.obj n) b) →
        ∃ y H', (results fn a.tmps).run P w = .ok y w ∧ Inv g [] H' g.m0 [u1] (O.take m) #[y] w := by
      intro vs _ ys h1 _ u1 hu
      obtain ⟨y, h2, h3, h4⟩ := hu
      exact ⟨y, _, by rw [run_results h1, h2], end_inv h hm hcl h3 h4⟩
    split at hf
    · rename_i v0 hr
      obtain ⟨ys, h1, h2, h3⟩ := results_sound T0 h cx.res _ hr
      rw [← hres] at h1
      split at hf
      · rename_i v1 hfz
        cases hf
        match ys, h2 with
        | [y], h2 =>
        obtain ⟨h4, h5⟩ := h3 0 v0 y rfl rfl
        obtain ⟨h6, h7⟩ := freeze_sound h g.m0 h4 h5 hfz
        refine fin _ hr [y] h1 h2 _ ⟨y, rfl, ?_⟩
        cases cx.ow with
        | true => exact ⟨h6, h7⟩
        | false => exact ⟨h6.dis, fun b hb => by have hb : blkOf v1.dis y = some b := hb; rw [blkOf_of_dis (V.dis_dis v1)] at hb; cases hb⟩
      · cases hf
    · rename_i vs hne hr
      obtain ⟨ys, h1, h2, h3⟩ := results_sound T0 h cx.res _ hr
      rw [← hres] at h1
      split at hf
      · rename_i ws hfz
        cases hf
        obtain ⟨h4, h5⟩ := freezeAll_get _ _ hfz
        refine fin _ hr ys h1 h2 _ ⟨.tuple ys.toArray, ?_, ?_, fun b hb => by simp [blkOf] at hb⟩
        · match ys, h2 with
          | [], _ => rfl
          | [y], h2 =>
            match vs, h2 with
            | [u1], _ => exact absurd rfl (hne u1)
          | y :: z :: r, _ => rfl
        · refine .of_dis (.tup _ _ (by simp [h4, h2]) fun j u1 x hu hx => ?_) rfl
          obtain ⟨u0, u1, e1, e2, rfl⟩ := h5 j u1 hu
          obtain ⟨h6, h7⟩ := h3 j u0 x e1 (by simpa using hx)
          exact (freeze_sound h g.m0 h6 h7 e2).1.1.dis
      · cases hf
    · cases hf
  · cases hf
end
end Go.Ev
namespace Go.Ev
open Go
theorem len_pks : ∀ (l : List Shp) (x : ShTs l), (pks l x).length = l.length
  | [], _ => rfl
  | a :: r, x => by simp [pks, len_pks r x.2]
theorem Inv.extend {g : Gh} {H : HM} {μ : MU} {fr : List V} {O : List Ob} {tmps : Array Value} {w : World} (h : Inv g [] H μ fr O tmps w) (k : Nat) (x : Value) : Inv g [] H μ (fr ++ List.replicate k .u) O (tmps ++ Array.replicate k x) w := by
  have get : ∀ (s : Nat) v y, (fr ++ List.replicate k V.u)[s]? = some v → (tmps ++ Array.replicate k x)[s]? = some y → v = .u ∨ (fr[s]? = some v ∧ tmps[s]? = some y) := by
    intro s v y h1 h2
    rcases Nat.lt_or_ge s fr.length with hlt | hge
    · rw [List.getElem?_append_left hlt] at h1
      rw [Array.getElem?_append_left (by rw [← h.len]; exact hlt)] at h2
      exact .inr ⟨h1, h2⟩
    · rw [List.getElem?_append_right hge, List.getElem?_replicate] at h1
      split at h1
      · cases h1; exact .inl rfl
      · cases h1
  have own : ∀ q b, owns (fr ++ List.replicate k V.u) O μ (tmps ++ Array.replicate k x) w q b → owns fr O μ tmps w q b := by
    intro q b hq
    rcases hq with h1 | ⟨v, y, h1, hb⟩
    · exact .inl h1
    · cases q with
      | obj n => cases h1
      | cell n j => exact .inr ⟨v, y, h1, hb⟩
      | slot s =>
        rcases get s v y h1.1 h1.2 with rfl | h2
        · simp [blkOf] at hb
        · exact .inr ⟨v, y, h2, hb⟩
  refine ⟨by simp [h.len], fun s v y h1 h2 => ?_, h.olen, h.obs, h.hob, h.agree, fun q q' b h1 h2 => h.uniq q q' b (own q b h1) (own q' b h2), fun q b h1 => h.rng q b (own q b h1), h.frame, h.hle, h.hnew, h.os, h.tape, h.output, h.size, h.mle⟩
  show Val H μ w v y
  rcases get s v y h1 h2 with rfl | ⟨h3, h4⟩
  · exact .of_dis (.u _) rfl
  · exact h.slots s v y h3 h4
theorem ModelsOK.res {P : Program} {cx : Cx} (h : ModelsOK P cx) (r : List ResultVar) : ModelsOK P { cx with res := r } := h
theorem calls_sound {P : Program} (hmix : P.follows .mixedOrders = true) {cx : Cx} {fn : Func} {f : Nat} {m : FM} {c : Code} (T0 : TabOK P cx) (hM : ModelsOK P cx) (hf : P.funcs[f]? = some fn) (hb : fn.body = some c) (hL : LoopsOK cx (loopsOf c))
    (hev : ∀ a o, evalF cx fn m a o = m.run a o) : SoundOn P cx.gl f m := by
  intro a o x o' hrun fp H μ args w hgl hI
  rw [← hev] at hrun
  refine calls_of_wp hf hb ?_
  have hla : m.ash.length = args.size := by rw [← hI.len, len_pks]
  have hlo : μ.length = m.os.length := by rw [← hI.olen, len_pkObs]
  unfold evalF at hrun
  rw [hb] at hrun
  dsimp only at hrun
  have hI' := hI.extend (fn.ntmps - args.size) undef
  rw [hla] at hrun
  refine exec_sound hmix c { cx with res := fn.results.toList } (T0.res _) hM hgl (fun c' hc' m' hm' => hL c' hc' m' hm') _ (x, o') (a := { tmps := args ++ Array.replicate (fn.ntmps - args.size) undef, defers := [] }) hI' hrun fun e fr' O' he H' μ' a' w' hd hI2 => ?_
  have done : last { cx with res := fn.results.toList } m.os.length m.r m.os .normal fr' O' = some (x, o') → a'.defers = [] ∧ ∃ v, (results fn a'.tmps).run P w' = .ok v w' ∧
      (∃ y H', Ending.returned v = .returned y ∧ Inv ⟨w.heap.size, w, fp, H, μ⟩ [] H' μ [pk m.r x] (pkObs m.os o') #[y] w') := by
    intro he
    refine ⟨hd, ?_⟩
    unfold last at he
    dsimp only at he
    split at he
    · rename_i v O'' hfin
      split at he
      · rename_i x1 o1 hx ho
        cases he
        obtain ⟨y, H2, h1, h2⟩ := finish_inv (T0.res _) hI2 (m := m.os.length) hlo (fn := fn) rfl hfin
        obtain ⟨hw1, hw2⟩ := upkObs_w _ _ _ ho
        refine ⟨y, h1, y, H2, rfl, ?_⟩
        refine (h2.weakFr (fr' := [pk m.r x]) rfl fun s v' hs => ?_).weakObs hw1.symm hw2
        cases s with
        | zero => simp at hs; subst hs; exact .inr ⟨v, rfl, upk_wk _ _ _ hx⟩
        | succ s => simp at hs
      · cases he
    · cases he
  cases e with
  | normal => exact done he
  | ret => exact done he
  | exit id => cases he
  | goto id => cases he
mutual
def nrS : Shp → Bool
  | .ty _ => true
  | .own _ => true
  | .ptr _ _ => false
  | .ms _ => false
  | .fn _ cs => nrSs cs
  | .agg cs => nrSs cs
  | .tup cs => nrSs cs
  | .rp cs => nrSs cs
def nrSs : List Shp → Bool
  | [] => true
  | a :: r => match nrS a with | true => nrSs r | false => false
end
theorem plain_norefs : ∀ (vs : List V), (∀ v ∈ vs, Plain v) → norefs vs = true
  | vs, h => norefs_of fun v hv => (h v hv).noref
theorem enc_nr (t : Ty) (x : T t) : noref (enc t x) = true := by
  have h := plain_norefs (enc t x).cells (enc_plain t x)
  cases t <;> first | rfl | exact h
mutual
theorem pk_nr : (a : Shp) → (x : ShT a) → nrS a = true → noref (pk a x) = true
  | .ty t, x, _ => enc_nr t x
  | .own t, x, _ => rfl
  | .ptr n off, x, h => by cases h
  | .ms n, x, h => by cases h
  | .fn f cs, x, h => pks_nr cs x h
  | .agg cs, x, h => pks_nr cs x h
  | .tup cs, x, h => pks_nr cs x h
  | .rp cs, x, h => pks_nr cs x h
theorem pks_nr : (l : List Shp) → (x : ShTs l) → nrSs l = true → norefs (pks l x) = true
  | [], _, _ => rfl
  | a :: r, x, h => by
    simp only [nrSs] at h
    split at h
    · rename_i h1
      simp only [pks, norefs, pk_nr a x.1 h1]
      exact pks_nr r x.2 h
    · cases h
end
def nrO : ObS → Bool
  | .box cs => nrSs cs
  | .arr _ => true
theorem pkObs_co : ∀ (l : List ObS) (o : ObTs l), l.all nrO = true → (pkObs l o).all closedOb = true
  | [], _, _ => rfl
  | a :: r, o, h => by
    simp only [List.all_cons, Bool.and_eq_true] at h
    simp only [pkObs, List.all_cons, Bool.and_eq_true]
    refine ⟨?_, pkObs_co r o.2 h.2⟩
    cases a with
    | box cs => exact pks_nr cs o.1 h.1
    | arr t => rfl
def fnOK (fn : Func) (m : FM) : Bool := (fn.name != "runtime.NumGoroutine") && fn.body.isSome && nrS m.r && m.os.all nrO
theorem enter_of {P : Program} {f : Nat} {fn : Func} (hf : P.funcs[f]? = some fn) (h1 : (fn.name == "runtime.NumGoroutine") = false) (h2 : fn.body.isNone = false) (args : Array Value) (w : World) : (callFunc f args).run P w = .ok (.enter f args) w := by
  have h3 : fn.name ≠ "runtime.NumGoroutine" := by simpa using h1
  have h4 : fn.body ≠ none := by intro e; rw [e] at h2; cases h2
  simp [callFunc, hf, h3, h4]
theorem sound_of {P : Program} (hmix : P.follows .mixedOrders = true) {cx : Cx} {fn : Func} {f : Nat} {m : FM} (T0 : TabOK P cx) (hM : ModelsOK P cx) (hf : P.funcs[f]? = some fn) (hok : fnOK fn m = true) (hL : ∀ c, fn.body = some c → LoopsOK cx (loopsOf c))
    (hev : ∀ a o, evalF cx fn m a o = m.run a o) (htot : ∀ t, m.tot = some t → ∀ a o, m.run a o = some (t a o, o)) (hro : m.ro = true → ∀ a o x o', m.run a o = some (x, o') → o' = o) : Sound P cx.gl f m := by
  simp only [fnOK, Bool.and_eq_true, bne] at hok
  obtain ⟨⟨⟨h1, h2⟩, h3⟩, h4⟩ := hok
  cases hb : fn.body with
  | none => rw [hb] at h2; cases h2
  | some c =>
    exact ⟨enter_of hf (by simpa using h1) (by rw [hb]; rfl), calls_sound hmix T0 hM hf hb (hL c hb) hev, htot, hro, fun x => pk_nr _ x h3, fun o => pkObs_co _ o h4⟩
theorem sound_none {P : Program} {gl : Nat → Option (List V)} {fn : Func} {f : Nat} {m : FM} (hf : P.funcs[f]? = some fn) (hok : fnOK fn m = true) (hn : ∀ a o, m.run a o = none) (ht : m.tot = none) : Sound P gl f m := by
  simp only [fnOK, Bool.and_eq_true, bne] at hok
  obtain ⟨⟨⟨h1, h2⟩, h3⟩, h4⟩ := hok
  exact ⟨enter_of hf (by simpa using h1) (by cases hb : fn.body <;> simp_all), fun a o x o' h => (by rw [hn] at h; cases h), fun t h => (by rw [ht] at h; cases h), fun _ a o x o' h => (by rw [hn] at h; cases h), fun x => pk_nr _ x h3, fun o => pkObs_co _ o h4⟩
theorem ModelsOK.of {P : Program} {cx : Cx} {l : List (Nat × List FM)} (hcm : ∀ f m, m ∈ cx.cm f → ∃ x ∈ l, x.1 = f ∧ m ∈ x.2) (h : ∀ x ∈ l, ∀ m ∈ x.2, Sound P cx.gl x.1 m) : ModelsOK P cx := by
  intro f m hm
  obtain ⟨x, h1, rfl, h3⟩ := hcm f m hm
  exact h x h1 m h3
end Go.Ev
namespace Go.Ev
open Go
def zrB : V → Value → Bool
  | .u, _ => true
  | .b x, .bool y => x == y
  | .i k n, .int k' n' => decide (k = k') && decide (n = n')
  | .s ⟨⟨[]⟩⟩, .string ⟨⟨[]⟩⟩ => true
  | .sl _ [] _, .slice none 0 0 => true
  | .nils, .slice none 0 0 => true
  | .nilp, .pointer none => true
  | .nilf, .nilFunc => true
  | .nili, .nilIface => true
  | _, _ => false
theorem zrB_zr {v : V} {y : Value} (h : zrB v y = true) : ZR v y := by
  intro H μ w
  unfold zrB at h
  split at h
  · exact .of_dis (.u _) rfl
  · rename_i x y; have : x = y := by simpa using h
    subst this; exact .of_dis (.b x) rfl
  · rename_i k n k' n'
    simp only [Bool.and_eq_true, decide_eq_true_eq] at h
    obtain ⟨rfl, rfl⟩ := h
    exact .of_dis (.i k n) rfl
  · exact .of_dis (.s _) rfl
  · exact ⟨.sl0 _ _ none 0, fun t xs e => by cases e; exact .inl ⟨rfl, rfl⟩⟩
  · exact .of_dis .nils rfl
  · exact .of_dis .nilp rfl
  · exact .of_dis .nilf rfl
  · exact .of_dis .nili rfl
  · cases h
def zrsB : List V → List Value → Bool
  | [], [] => true
  | v :: vs, y :: ys => zrB v y && zrsB vs ys
  | _, _ => false
theorem zrsB_zrs : ∀ (vs : List V) (ys : List Value), zrsB vs ys = true → ys.length = vs.length ∧ ∀ (j : Nat) v y, vs[j]? = some v → ys[j]? = some y → ZR v y
  | [], [], _ => ⟨rfl, fun j v y h => by simp at h⟩
  | [], _ :: _, h => by cases h
  | _ :: _, [], h => by cases h
  | v :: vs, y :: ys, h => by
    simp only [zrsB, Bool.and_eq_true] at h
    obtain ⟨h1, h2⟩ := zrsB_zrs vs ys h.2
    refine ⟨by simp [h1], fun j v' y' h3 h4 => ?_⟩
    cases j with
    | zero => simp at h3 h4; subst h3; subst h4; exact zrB_zr h.1
    | succ j => exact h2 j v' y' (by simpa using h3) (by simpa using h4)
theorem zrs_of {vs : List V} {ys : Array Value} (h : zrsB vs ys.toList = true) : ZRs vs ys := by
  obtain ⟨h1, h2⟩ := zrsB_zrs _ _ h
  exact ⟨by simpa using h1, fun j v y h3 h4 => h2 j v y h3 (by simpa using h4)⟩
def flds : Ty → List (Nat × Ty)
  | .ins => [(0, .i .i64), (1, .i .i64), (2, .i .i64), (3, .i .i64), (4, .i .i64), (5, .i .i64), (6, .i .i64), (7, .i .i64), (8, .b)]
  | .tok => [(0, .i .i64), (1, .i .i64), (2, .s)]
  | .expr => [(0, .i .i64), (1, .i .i64), (2, .s), (3, .sl .expr)]
  | .line => [(0, .s), (1, .i .i64), (2, .ins), (11, .i .i64), (12, .s), (13, .b), (14, .i .i64), (15, .expr)]
  | .form => [(0, .i .i64), (1, .b)]
  | _ => []
def fldsB (cx : Cx) : List (Nat × Nat) → List (Nat × Ty) → Bool
  | [], [] => true
  | f :: r, g :: s => Nat.beq f.1 g.1 && (match cx.ty f.2 with | some c => decide (c = g.2) | none => false) && fldsB cx r s
  | _, _ => false
def shapeB (cx : Cx) (k : TK) (c : Ty) : Bool :=
  match c, k with
  | .b, .bool => true
  | .i q, .int q' => decide (q' = q)
  | .s, .str => true
  | .sl c, .slice e => (match cx.ty e with | some c' => decide (c' = c) | none => false)
  | .ins, .struct fs => fldsB cx fs (flds .ins)
  | .tok, .struct fs => fldsB cx fs (flds .tok)
  | .expr, .struct fs => fldsB cx fs (flds .expr)
  | .line, .struct fs => fldsB cx fs (flds .line)
  | .form, .struct fs => fldsB cx fs (flds .form)
  | _, _ => false
def rowB (P : Program) (cx : Cx) (t : Nat) : Bool :=
  match P.underlying t, P.info? t with
  | some d, some i => match i.zero with
    | some z => decide (tkOf d = (cx.ti t).k) && Nat.beq i.size (cx.ti t).sz && Nat.beq i.bytes (cx.ti t).bytes && zrsB (zeroV cx 8 t) z.cells.toList && Nat.beq z.cells.size i.size && Nat.ble (cx.ti t).sz (cx.ti t).bytes &&
      (match flatK cx t with
        | true => !P.stoodInHeld t && !P.eqGuardType P.depth t && (match d with | .struct fs => fs.toList.all (fun f => !(f.name == "_") && (cx.ti f.type).ok) | _ => true)
        | false => true) &&
      (match d with | .struct fs => fs.toList.all (fun f => match P.info? f.type with | some i => !(Nat.beq i.size 0) | none => false) | _ => true) &&
      (match cx.ty t with
        | some c => ((cx.ti t).agg == c.isAgg) && Nat.beq i.size c.sz && zrsB (enc c (dflt c)).cells z.cells.toList && shapeB cx (cx.ti t).k c
        | none => true)
    | none => false
  | _, _ => false
theorem rowB_facts {P : Program} {cx : Cx} {t : Nat} (h : rowB P cx t = true) : ∃ d i z, P.underlying t = some d ∧ P.info? t = some i ∧ i.zero = some z ∧ tkOf d = (cx.ti t).k ∧ i.size = (cx.ti t).sz ∧ i.bytes = (cx.ti t).bytes ∧ ZRs (zeroV cx 8 t) z.cells ∧ z.cells.size = i.size ∧ (cx.ti t).sz ≤ (cx.ti t).bytes ∧
    (flatK cx t = true → P.stoodInHeld t = false ∧ P.eqGuardType P.depth t = false ∧ ∀ fs, d = .struct fs → ∀ f ∈ fs.toList, (f.name == "_") = false ∧ (cx.ti f.type).ok = true) ∧
    (∀ fs, d = .struct fs → ∀ f ∈ fs.toList, ∃ i, P.info? f.type = some i ∧ i.size ≠ 0) ∧
    (∀ c, cx.ty t = some c → (cx.ti t).agg = c.isAgg ∧ i.size = c.sz ∧ ZRs (enc c (dflt c)).cells z.cells ∧ shapeB cx (cx.ti t).k c = true) := by
  unfold rowB at h
  split at h
  · rename_i d i hd hi
    split at h
    · rename_i z hz
      simp only [Bool.and_eq_true, decide_eq_true_eq] at h
      obtain ⟨⟨⟨⟨⟨⟨⟨⟨h1, h2⟩, h3⟩, h4⟩, h5⟩, h6⟩, h7⟩, h8⟩, h9⟩ := h
      refine ⟨d, i, z, hd, hi, hz, h1, Nat.eq_of_beq_eq_true h2, Nat.eq_of_beq_eq_true h3, zrs_of h4, Nat.eq_of_beq_eq_true h5, Nat.le_of_ble_eq_true h6, fun hf => ?_, fun fs e f hfm => ?_, fun c hc => ?_⟩
      · rw [hf] at h7
        simp only [Bool.and_eq_true, Bool.not_eq_true'] at h7
        refine ⟨h7.1.1, h7.1.2, fun fs e f hfm => ?_⟩
        subst e
        have h10 := h7.2
        dsimp only at h10
        rw [List.all_eq_true] at h10
        have := h10 f hfm
        simpa using this
      · subst e
        dsimp only at h8
        rw [List.all_eq_true] at h8
        have := h8 f hfm
        split at this
        · rename_i i' hi'
          exact ⟨i', hi', fun e => by rw [e] at this; cases this⟩
        · cases this
      · rw [hc] at h9
        simp only [Bool.and_eq_true, beq_iff_eq] at h9
        obtain ⟨⟨⟨h10, h11⟩, h12⟩, h13⟩ := h9
        exact ⟨h10, Nat.eq_of_beq_eq_true h11, zrs_of h12, h13⟩
    · cases h
  · cases h
theorem tabOK_of {P : Program} {cx : Cx} {l : List Nat} (hl : l.all (rowB P cx) = true) (h1 : ∀ t, (cx.ti t).ok = true → t ∈ l) (h2 : ∀ t c, cx.ty t = some c → (cx.ti t).ok = true) :
    TabOK P cx ∧ ∀ t c, cx.ty t = some c → shapeB cx (cx.ti t).k c = true := by
  rw [List.all_eq_true] at hl
  have R := fun t ht => rowB_facts (hl t (h1 t ht))
  refine ⟨⟨fun t ht => ?_, fun t c hc => ?_, fun t ht => ?_, fun t i z ht hi hz => ?_, fun t ht => ?_, fun t hf => ?_, fun t fs hu ht => ?_⟩, fun t c hc => ?_⟩
  · obtain ⟨d, i, z, a1, a2, a3, a4, a5, a6, _⟩ := R t ht
    exact ⟨by rw [a1, Option.map_some, a4], i, a2, a5, a6⟩
  · obtain ⟨d, i, z, a1, a2, a3, a4, a5, a6, a7, a8, a9, a10, a11, a12⟩ := R t (h2 t c hc)
    obtain ⟨b1, b2, b3, b4⟩ := a12 c hc
    exact ⟨h2 t c hc, b1, i, z, a2, b2, a3, b3⟩
  · obtain ⟨d, i, z, a1, a2, a3, a4, a5, a6, a7, _⟩ := R t ht
    exact ⟨i, z, a2, a3, a7⟩
  · obtain ⟨d, i', z', a1, a2, a3, a4, a5, a6, a7, a8, _⟩ := R t ht
    rw [hi] at a2; cases a2
    rw [hz] at a3; cases a3
    exact a8
  · obtain ⟨d, i, z, a1, a2, a3, a4, a5, a6, a7, a8, a9, _⟩ := R t ht
    exact a9
  · have ht : (cx.ti t).ok = true := by
      unfold flatK at hf
      split at hf
      · rename_i fs e; exact TI.ok_of e (by simp)
      · cases hf
    obtain ⟨d, i, z, a1, a2, a3, a4, a5, a6, a7, a8, a9, a10, a11, a12⟩ := R t ht
    obtain ⟨b1, b2, b3⟩ := a10 hf
    refine ⟨b1, b2, fun fs e => ?_⟩
    rw [a1] at e; cases e
    exact b3 fs rfl
  · obtain ⟨d, i, z, a1, a2, a3, a4, a5, a6, a7, a8, a9, a10, a11, a12⟩ := R t ht
    rw [a1] at hu; cases hu
    exact a11 fs rfl
  · obtain ⟨d, i, z, a1, a2, a3, a4, a5, a6, a7, a8, a9, a10, a11, a12⟩ := R t (h2 t c hc)
    exact (a12 c hc).2.2.2
theorem TabOK.congr {P : Program} {cx cx' : Cx} (h : TabOK P cx) (e1 : cx'.ti = cx.ti) (e2 : cx'.ty = cx.ty) : TabOK P cx' := by
  have hf : ∀ (l : List (Nat × Nat)) (i : Nat), flatFs cx' i l = flatFs cx i l := by
    intro l
    induction l with
    | nil => intro i; rfl
    | cons f l ih => intro i; simp only [flatFs]; rw [ih, e1]
  have hz : ∀ (n t : Nat), zeroV cx' n t = zeroV cx n t := by
    intro n
    induction n with
    | zero => intro t; rfl
    | succ n ih =>
      intro t
      have : zeroV cx' n = zeroV cx n := funext ih
      simp only [zeroV, this, e1, e2]
  obtain ⟨a1, a2, a3, a4, a5, a6, a7⟩ := h
  refine ⟨by rw [e1]; exact a1, by rw [e1, e2]; exact a2, by rw [e1]; intro t ht; rw [hz]; exact a3 t ht, by rw [e1]; exact a4, by rw [e1]; exact a5, ?_, by rw [e1]; exact a7⟩
  rw [e1]
  intro t ht
  refine a6 t ?_
  rw [← ht]
  simp only [flatK, hf, e1]
end Go.Ev
namespace Go.Ev
open Go
def memH (w : World) : HM := fun b o => w.cell? ⟨b, o, none⟩
def RelL (h : HM) (vs : List V) (cs : List Value) : Prop := vs.length = cs.length ∧ ∀ (j : Nat) v y, vs[j]? = some v → cs[j]? = some y → VR h [] v y
theorem RelL.nil {h : HM} : RelL h [] [] := ⟨rfl, fun j v y e => by simp at e⟩
theorem RelL.one {h : HM} {v : V} {y : Value} (k : VR h [] v y) : RelL h [v] [y] := ⟨rfl, fun j u1 z e e' => by
  cases j with
  | zero => simp at e e'; subst e; subst e'; exact k
  | succ j => simp at e⟩
theorem RelL.app {h : HM} {a b : List V} {c d : List Value} (k : RelL h a c) (l : RelL h b d) : RelL h (a ++ b) (c ++ d) := by
  refine ⟨by simp [k.1, l.1], fun j v y e e' => ?_⟩
  by_cases hj : j < a.length
  · rw [List.getElem?_append_left hj] at e
    rw [List.getElem?_append_left (by rw [← k.1]; exact hj)] at e'
    exact k.2 j v y e e'
  · rw [List.getElem?_append_right (by omega)] at e
    rw [List.getElem?_append_right (by rw [← k.1]; omega), ← k.1] at e'
    exact l.2 _ v y e e'
theorem take_drop_next {α : Type} (cs : List α) (o n : Nat) : cs.drop o = (cs.drop o).take n ++ cs.drop (o + n) := by
  rw [← List.drop_drop, List.take_append_drop]
theorem choose_list {α : Type} {p : Nat → α → Prop} : ∀ n, (∀ i, i < n → ∃ x, p i x) → ∃ l : List α, l.length = n ∧ ∀ (i : Nat) x, l[i]? = some x → p i x
  | 0, _ => ⟨[], rfl, fun i x h => by simp at h⟩
  | n + 1, h => by
    obtain ⟨l, h1, h2⟩ := choose_list n fun i hi => h i (by omega)
    obtain ⟨x, hx⟩ := h n (by omega)
    refine ⟨l ++ [x], by simp [h1], fun i y hy => ?_⟩
    by_cases hi : i < l.length
    · rw [List.getElem?_append_left hi] at hy; exact h2 i y hy
    · rw [List.getElem?_append_right (by omega)] at hy
      have : i - l.length = 0 := by
        rcases Nat.eq_zero_or_pos (i - l.length) with h | h
        · exact h
        · rw [List.getElem?_eq_none (by simp; omega)] at hy; cases hy
      rw [this] at hy
      cases hy
      rw [show i = n by omega]; exact hx
theorem spot_none {w : World} {a : Addr} {v : Value} (h : w.cell? ((a.add 0).add 0) = some v) : a.spot = none := by
  have e : (a.add 0).add 0 = a := by simp [Addr.add]
  rw [e] at h
  unfold World.cell? at h
  split at h
  · cases hs : a.spot with
    | none => rfl
    | some z => rw [hs] at h; cases h
  · cases h
theorem fldsB_cons {cx : Cx} {fs : List (Nat × Nat)} {o : Nat} {c : Ty} {l : List (Nat × Ty)} (h : fldsB cx fs ((o, c) :: l) = true) : ∃ t r, fs = (o, t) :: r ∧ cx.ty t = some c ∧ fldsB cx r l = true := by
  cases fs with
  | nil => cases h
  | cons f r =>
    simp only [fldsB, Bool.and_eq_true] at h
    obtain ⟨⟨h1, h2⟩, h3⟩ := h
    obtain ⟨o', t⟩ := f
    have e : o' = o := Nat.eq_of_beq_eq_true h1
    subst e
    refine ⟨t, r, rfl, ?_, h3⟩
    cases hc : cx.ty t with
    | none => rw [hc] at h2; cases h2
    | some c' => rw [hc] at h2; rw [of_decide_eq_true h2]
theorem fldsB_nil {cx : Cx} {fs : List (Nat × Nat)} (h : fldsB cx fs [] = true) : fs = [] := by
  cases fs with
  | nil => rfl
  | cons f r => cases h
section
variable {P : Program} {cx : Cx} (T0 : TabOK P cx) (hS : ∀ t c, cx.ty t = some c → shapeB cx (cx.ti t).k c = true)
include T0 hS
theorem cellsOf_ty {t : Nat} {c : Ty} (h : cx.ty t = some c) : P.cellsOf t = c.sz := by
  obtain ⟨_, _, i, z, hi, hs, _⟩ := T0.ty t c h
  simp [Program.cellsOf, hi, hs]
theorem field_get {H : Type} {enc' : TypeId × Value → H} {w : World} {base : Nat} {spare : Nat → Bool} {held : Bool} {n : Nat} {cs : List Value} {fs : Array Field} {xs : List (DataW H × List MemPlace)}
    (hf : ∀ (i : Nat) (f : Field), fs[i]? = some f → DataW.trod enc' P w base spare held n f.type ((cs.drop f.offset).take (P.cellsOf f.type)) = xs[i]?) (hx : xs.length = fs.size)
    (ih : ∀ (t : TypeId) (cs : List Value) (c : Ty) (x : DataW H × List MemPlace), cx.ty t = some c → DataW.trod enc' P w base spare held n t cs = some x → ∃ x : T c, WfT c x ∧ RelL (memH w) (enc c x).cells cs)
    {k o t : Nat} {c : Ty} (hk : (fs.toList.map fun f => (f.offset, f.type))[k]? = some (o, t)) (hc : cx.ty t = some c) : ∃ x : T c, WfT c x ∧ RelL (memH w) (enc c x).cells ((cs.drop o).take c.sz) := by
  rw [List.getElem?_map] at hk
  cases hfk : fs.toList[k]? with
  | none => rw [hfk] at hk; cases hk
  | some f =>
    rw [hfk] at hk
    cases hk
    have h1 := hf k f (by simpa using hfk)
    have hlt : k < xs.length := by rw [hx]; have := lt_of_get hfk; simpa using this
    rw [List.getElem?_eq_getElem hlt, cellsOf_ty T0 hS hc] at h1
    exact ih _ _ c _ hc h1
theorem trod_vr {H : Type} {enc' : TypeId × Value → H} {w : World} {base : Nat} {spare : Nat → Bool} {held : Bool} : ∀ (fuel : Nat) (t : TypeId) (cs : List Value) (c : Ty) (x : DataW H × List MemPlace), cx.ty t = some c →
    DataW.trod enc' P w base spare held fuel t cs = some x → ∃ x : T c, WfT c x ∧ RelL (memH w) (enc c x).cells cs
  | 0, t, cs, c, x, hc, h => by simp [DataW.trod] at h
  | fuel + 1, t, cs, c, x, hc, h => by
    obtain ⟨D, hD, hk⟩ := T0.und (T0.ty t c hc).1
    have hs := hS t c hc
    rw [← hk] at hs
    have ih := trod_vr (enc' := enc') (w := w) (base := base) (spare := spare) (held := held) fuel
    have st : ∀ c', (∃ fs, tkOf D = .struct fs ∧ fldsB cx fs (flds c') = true) → ∃ (fs : Array Field) (xs : List (DataW H × List MemPlace)), cs.length = P.cellsOf t ∧ xs.length = fs.size ∧ fldsB cx (fs.toList.map fun f => (f.offset, f.type)) (flds c') = true ∧
        ∀ (i : Nat) (f : Field), fs[i]? = some f → DataW.trod enc' P w base spare held fuel f.type ((cs.drop f.offset).take (P.cellsOf f.type)) = xs[i]? := by
      rintro c' ⟨l, h1, h2⟩
      obtain ⟨fs, rfl, h3⟩ := tk_struct h1
      obtain ⟨xs, n, e, _, h4, h5, h6⟩ := DataW.trod_struct hD h
      cases e
      rw [← h3] at h2
      exact ⟨fs, xs, h4, h5, h2, h6⟩
    cases c with
    | b =>
      have e : D = .bool := tk_bool (by revert hs; cases tkOf D <;> simp [shapeB])
      subst e
      obtain ⟨b, rfl, _⟩ := DataW.trod_bool hD h
      exact ⟨b, trivial, .one (.b b)⟩
    | i k =>
      have e : D = .int k := tk_int (by revert hs; cases tkOf D <;> simp [shapeB])
      subst e
      obtain ⟨n, rfl, _, hw⟩ := DataW.trod_int hD h
      refine ⟨n, ?_, .one (.i k n)⟩
      show k.min ≤ n ∧ n ≤ k.max
      simpa [Lit.wf] using hw
    | s =>
      have e : D = .string := tk_str (by revert hs; cases tkOf D <;> simp [shapeB])
      subst e
      obtain ⟨s, rfl, _, hw⟩ := DataW.trod_string hD h
      exact ⟨s, hw, .one (.s s)⟩
    | sl c' =>
      have e : ∃ e, D = .slice e ∧ cx.ty e = some c' := by
        revert hs
        cases hk2 : tkOf D <;> simp [shapeB]
        rename_i e
        intro hs
        refine ⟨e, tk_slice hk2, ?_⟩
        cases hce : cx.ty e with
        | none => rw [hce] at hs; cases hs
        | some c2 => rw [hce] at hs; have : c2 = c' := by simpa using hs
                     rw [this]
      obtain ⟨e, rfl, he⟩ := e
      have hsz := cellsOf_ty T0 hS he
      rcases DataW.trod_slice hD h with ⟨rfl, _⟩ | ⟨a, len, cap, elems, rest, n, e1, rfl, _, hb, hl, hm, hlen, hel, _⟩
      · exact ⟨([] : List (T c')), ⟨Nat.zero_le _, fun x hx => by cases hx⟩, .one (.sl0 c' false none 0)⟩
      · cases e1
        rw [hsz] at hel
        obtain ⟨xs, hxl, hxs⟩ := choose_list (α := T c') (p := fun i y => WfT c' y ∧ ∃ cs', w.cells? base (a.add (i * c'.sz)) c'.sz = some cs' ∧ RelL (memH w) (enc c' y).cells cs') len (fun i hi => by
          have h1 := hel i hi
          rw [List.getElem?_eq_getElem (by rw [hlen]; exact hi)] at h1
          obtain ⟨cs', h2, h3⟩ := Option.bind_eq_some_iff.1 h1
          obtain ⟨y, h4, h5⟩ := ih e cs' c' _ he h3
          exact ⟨y, h4, cs', h2, h5⟩)
        refine ⟨xs, ⟨by rw [hxl]; omega, fun y hy => ?_⟩, .one ?_⟩
        · obtain ⟨i, hi⟩ := List.mem_iff_getElem?.1 hy
          exact (hxs i y hi).1
        · cases len with
          | zero =>
            have : xs = [] := List.eq_nil_of_length_eq_zero hxl
            subst this
            exact .sl0 c' false (some a) cap
          | succ len =>
            have hpos : 0 < c'.sz := by cases c' <;> simp [Ty.sz]
            have hspot : a.spot = none := by
              have hx0 : xs[0]? = some (xs[0]'(by omega)) := List.getElem?_eq_getElem _
              obtain ⟨_, cs', h1, h2⟩ := hxs 0 _ hx0
              obtain ⟨_, h3, h4⟩ := World.cells?_some h1
              have h5 := h4 0 hpos
              rw [List.getElem?_eq_getElem (by omega)] at h5
              rw [Nat.zero_mul] at h5
              exact spot_none h5
            have cell : ∀ (i : Nat) y (j : Nat) v, xs[i]? = some y → (enc c' y).cells[j]? = some v → ∃ z, memH w a.block (a.off + i * c'.sz + j) = some z ∧ VR (memH w) [] v z := by
              intro i y j v hy hv
              obtain ⟨_, cs', h1, h2⟩ := hxs i y hy
              obtain ⟨_, h3, h4⟩ := World.cells?_some h1
              have hj := lt_of_get hv
              rw [enc_len] at hj
              have h5 := h4 j hj
              rw [List.getElem?_eq_getElem (by omega), addr_add' hspot, addr_add] at h5
              exact ⟨_, h5, h2.2 j v _ hv (List.getElem?_eq_getElem (by omega))⟩
            rw [← hxl]
            refine .sl c' xs false a cap (fun i j => (memH w a.block (a.off + i * c'.sz + j)).getD undef) hspot (by omega) (fun i y j v hy hv => ?_) (fun i y j v hy hv => ?_)
            · obtain ⟨z, h1, _⟩ := cell i y j v hy hv
              rw [h1]; rfl
            · obtain ⟨z, h1, h2⟩ := cell i y j v hy hv
              rw [h1]; exact h2
    | ins =>
      obtain ⟨fs, xs, hl, hx, hfl, hf⟩ := st .ins (by revert hs; cases tkOf D <;> simp [shapeB])
      obtain ⟨t0, r0, e0, c0, g0⟩ := fldsB_cons hfl
      obtain ⟨t1, r1, e1, c1, g1⟩ := fldsB_cons g0
      obtain ⟨t2, r2, e2, c2, g2⟩ := fldsB_cons g1
      obtain ⟨t3, r3, e3, c3, g3⟩ := fldsB_cons g2
      obtain ⟨t4, r4, e4, c4, g4⟩ := fldsB_cons g3
      obtain ⟨t5, r5, e5, c5, g5⟩ := fldsB_cons g4
      obtain ⟨t6, r6, e6, c6, g6⟩ := fldsB_cons g5
      obtain ⟨t7, r7, e7, c7, g7⟩ := fldsB_cons g6
      obtain ⟨t8, r8, e8, c8, g8⟩ := fldsB_cons g7
      have en := fldsB_nil g8
      have key := fun (k o t : Nat) (c : Ty) (hk : (fs.toList.map fun f => (f.offset, f.type))[k]? = some (o, t)) (hc : cx.ty t = some c) => field_get T0 hS hf hx ih hk hc
      rw [e0, e1, e2, e3, e4, e5, e6, e7, e8, en] at key
      obtain ⟨x0, w0, l0⟩ := key 0 0 t0 (.i .i64) rfl c0
      obtain ⟨x1, w1, l1⟩ := key 1 1 t1 (.i .i64) rfl c1
      obtain ⟨x2, w2, l2⟩ := key 2 2 t2 (.i .i64) rfl c2
      obtain ⟨x3, w3, l3⟩ := key 3 3 t3 (.i .i64) rfl c3
      obtain ⟨x4, w4, l4⟩ := key 4 4 t4 (.i .i64) rfl c4
      obtain ⟨x5, w5, l5⟩ := key 5 5 t5 (.i .i64) rfl c5
      obtain ⟨x6, w6, l6⟩ := key 6 6 t6 (.i .i64) rfl c6
      obtain ⟨x7, w7, l7⟩ := key 7 7 t7 (.i .i64) rfl c7
      obtain ⟨x8, w8, l8⟩ := key 8 8 t8 (.b) rfl c8
      refine ⟨(⟨x0, x1, x2, x3, x4, x5, x6, x7, x8⟩ : GIns), ⟨w0, w1, w2, w3, w4, w5, w6, w7⟩, ?_⟩
      rw [cellsOf_ty T0 hS hc] at hl
      have ed : cs.drop 9 = [] := List.drop_eq_nil_of_le (by rw [hl]; exact Nat.le_refl _)
      have ecs : cs = (cs.drop 0).take 1 ++ ((cs.drop 1).take 1 ++ ((cs.drop 2).take 1 ++ ((cs.drop 3).take 1 ++ ((cs.drop 4).take 1 ++ ((cs.drop 5).take 1 ++ ((cs.drop 6).take 1 ++ ((cs.drop 7).take 1 ++ ((cs.drop 8).take 1 ++ [])))))))) := by
        conv => lhs; rw [← List.drop_zero (l := cs)]
        rw [← ed, ← take_drop_next cs 8 1, ← take_drop_next cs 7 1, ← take_drop_next cs 6 1, ← take_drop_next cs 5 1, ← take_drop_next cs 4 1, ← take_drop_next cs 3 1, ← take_drop_next cs 2 1, ← take_drop_next cs 1 1, ← take_drop_next cs 0 1]
      rw [ecs]
      exact (l0.app (l1.app (l2.app (l3.app (l4.app (l5.app (l6.app (l7.app (l8.app .nil)))))))))
    | tok =>
      obtain ⟨fs, xs, hl, hx, hfl, hf⟩ := st .tok (by revert hs; cases tkOf D <;> simp [shapeB])
      obtain ⟨t0, r0, e0, c0, g0⟩ := fldsB_cons hfl
      obtain ⟨t1, r1, e1, c1, g1⟩ := fldsB_cons g0
      obtain ⟨t2, r2, e2, c2, g2⟩ := fldsB_cons g1
      have en := fldsB_nil g2
      have key := fun (k o t : Nat) (c : Ty) (hk : (fs.toList.map fun f => (f.offset, f.type))[k]? = some (o, t)) (hc : cx.ty t = some c) => field_get T0 hS hf hx ih hk hc
      rw [e0, e1, e2, en] at key
      obtain ⟨x0, w0, l0⟩ := key 0 0 t0 (.i .i64) rfl c0
      obtain ⟨x1, w1, l1⟩ := key 1 1 t1 (.i .i64) rfl c1
      obtain ⟨x2, w2, l2⟩ := key 2 2 t2 (.s) rfl c2
      refine ⟨(⟨x0, x1, x2⟩ : GTok), ⟨w0, w1, w2⟩, ?_⟩
      rw [cellsOf_ty T0 hS hc] at hl
      have ed : cs.drop 3 = [] := List.drop_eq_nil_of_le (by rw [hl]; exact Nat.le_refl _)
      have ecs : cs = (cs.drop 0).take 1 ++ ((cs.drop 1).take 1 ++ ((cs.drop 2).take 1 ++ [])) := by
        conv => lhs; rw [← List.drop_zero (l := cs)]
        rw [← ed, ← take_drop_next cs 2 1, ← take_drop_next cs 1 1, ← take_drop_next cs 0 1]
      rw [ecs]
      exact (l0.app (l1.app (l2.app .nil)))
    | expr =>
      obtain ⟨fs, xs, hl, hx, hfl, hf⟩ := st .expr (by revert hs; cases tkOf D <;> simp [shapeB])
      obtain ⟨t0, r0, e0, c0, g0⟩ := fldsB_cons hfl
      obtain ⟨t1, r1, e1, c1, g1⟩ := fldsB_cons g0
      obtain ⟨t2, r2, e2, c2, g2⟩ := fldsB_cons g1
      obtain ⟨t3, r3, e3, c3, g3⟩ := fldsB_cons g2
      have en := fldsB_nil g3
      have key := fun (k o t : Nat) (c : Ty) (hk : (fs.toList.map fun f => (f.offset, f.type))[k]? = some (o, t)) (hc : cx.ty t = some c) => field_get T0 hS hf hx ih hk hc
      rw [e0, e1, e2, e3, en] at key
      obtain ⟨x0, w0, l0⟩ := key 0 0 t0 (.i .i64) rfl c0
      obtain ⟨x1, w1, l1⟩ := key 1 1 t1 (.i .i64) rfl c1
      obtain ⟨x2, w2, l2⟩ := key 2 2 t2 (.s) rfl c2
      obtain ⟨x3, w3, l3⟩ := key 3 3 t3 (.sl .expr) rfl c3
      refine ⟨GExpr.mk x0 x1 x2 x3, .mk x0 x1 x2 x3 w0 w1 w2 w3.1 w3.2, ?_⟩
      rw [cellsOf_ty T0 hS hc] at hl
      have ed : cs.drop 4 = [] := List.drop_eq_nil_of_le (by rw [hl]; exact Nat.le_refl _)
      have ecs : cs = (cs.drop 0).take 1 ++ ((cs.drop 1).take 1 ++ ((cs.drop 2).take 1 ++ ((cs.drop 3).take 1 ++ []))) := by
        conv => lhs; rw [← List.drop_zero (l := cs)]
        rw [← ed, ← take_drop_next cs 3 1, ← take_drop_next cs 2 1, ← take_drop_next cs 1 1, ← take_drop_next cs 0 1]
      rw [ecs]
      exact (l0.app (l1.app (l2.app (l3.app .nil))))
    | line =>
      obtain ⟨fs, xs, hl, hx, hfl, hf⟩ := st .line (by revert hs; cases tkOf D <;> simp [shapeB])
      obtain ⟨t0, r0, e0, c0, g0⟩ := fldsB_cons hfl
      obtain ⟨t1, r1, e1, c1, g1⟩ := fldsB_cons g0
      obtain ⟨t2, r2, e2, c2, g2⟩ := fldsB_cons g1
      obtain ⟨t3, r3, e3, c3, g3⟩ := fldsB_cons g2
      obtain ⟨t4, r4, e4, c4, g4⟩ := fldsB_cons g3
      obtain ⟨t5, r5, e5, c5, g5⟩ := fldsB_cons g4
      obtain ⟨t6, r6, e6, c6, g6⟩ := fldsB_cons g5
      obtain ⟨t7, r7, e7, c7, g7⟩ := fldsB_cons g6
      have en := fldsB_nil g7
      have key := fun (k o t : Nat) (c : Ty) (hk : (fs.toList.map fun f => (f.offset, f.type))[k]? = some (o, t)) (hc : cx.ty t = some c) => field_get T0 hS hf hx ih hk hc
      rw [e0, e1, e2, e3, e4, e5, e6, e7, en] at key
      obtain ⟨x0, w0, l0⟩ := key 0 0 t0 (.s) rfl c0
      obtain ⟨x1, w1, l1⟩ := key 1 1 t1 (.i .i64) rfl c1
      obtain ⟨x2, w2, l2⟩ := key 2 2 t2 (.ins) rfl c2
      obtain ⟨x3, w3, l3⟩ := key 3 11 t3 (.i .i64) rfl c3
      obtain ⟨x4, w4, l4⟩ := key 4 12 t4 (.s) rfl c4
      obtain ⟨x5, w5, l5⟩ := key 5 13 t5 (.b) rfl c5
      obtain ⟨x6, w6, l6⟩ := key 6 14 t6 (.i .i64) rfl c6
      obtain ⟨x7, w7, l7⟩ := key 7 15 t7 (.expr) rfl c7
      refine ⟨(⟨x0, x1, x2, x3, x4, x5, x6, x7⟩ : GLine), ⟨w0, w1, w2, w3, w4, w6, w7⟩, ?_⟩
      rw [cellsOf_ty T0 hS hc] at hl
      have ed : cs.drop 19 = [] := List.drop_eq_nil_of_le (by rw [hl]; exact Nat.le_refl _)
      have ecs : cs = (cs.drop 0).take 1 ++ ((cs.drop 1).take 1 ++ ((cs.drop 2).take 9 ++ ((cs.drop 11).take 1 ++ ((cs.drop 12).take 1 ++ ((cs.drop 13).take 1 ++ ((cs.drop 14).take 1 ++ ((cs.drop 15).take 4 ++ []))))))) := by
        conv => lhs; rw [← List.drop_zero (l := cs)]
        rw [← ed, ← take_drop_next cs 15 4, ← take_drop_next cs 14 1, ← take_drop_next cs 13 1, ← take_drop_next cs 12 1, ← take_drop_next cs 11 1, ← take_drop_next cs 2 9, ← take_drop_next cs 1 1, ← take_drop_next cs 0 1]
      rw [ecs]
      exact (l0.app (l1.app (l2.app (l3.app (l4.app (l5.app (l6.app (l7.app .nil))))))))
    | form =>
      obtain ⟨fs, xs, hl, hx, hfl, hf⟩ := st .form (by revert hs; cases tkOf D <;> simp [shapeB])
      obtain ⟨t0, r0, e0, c0, g0⟩ := fldsB_cons hfl
      obtain ⟨t1, r1, e1, c1, g1⟩ := fldsB_cons g0
      have en := fldsB_nil g1
      have key := fun (k o t : Nat) (c : Ty) (hk : (fs.toList.map fun f => (f.offset, f.type))[k]? = some (o, t)) (hc : cx.ty t = some c) => field_get T0 hS hf hx ih hk hc
      rw [e0, e1, en] at key
      obtain ⟨x0, w0, l0⟩ := key 0 0 t0 (.i .i64) rfl c0
      obtain ⟨x1, w1, l1⟩ := key 1 1 t1 (.b) rfl c1
      refine ⟨(⟨x0, x1⟩ : GForm), w0, ?_⟩
      rw [cellsOf_ty T0 hS hc] at hl
      have ed : cs.drop 2 = [] := List.drop_eq_nil_of_le (by rw [hl]; exact Nat.le_refl _)
      have ecs : cs = (cs.drop 0).take 1 ++ ((cs.drop 1).take 1 ++ []) := by
        conv => lhs; rw [← List.drop_zero (l := cs)]
        rw [← ed, ← take_drop_next cs 1 1, ← take_drop_next cs 0 1]
      rw [ecs]
      exact (l0.app (l1.app .nil))
end
end Go.Ev
namespace Go.Ev
open Go Go.ChangeShapes Go.WideShapes Go.RowKit
def WfA : (cs : List Ty) → ShTs (cs.map Shp.ty) → Prop
  | [], _ => True
  | c :: r, a => WfT c a.1 ∧ WfA r a.2
section
variable {P : Program} {cx : Cx} (T0 : TabOK P cx) (hS : ∀ t c, cx.ty t = some c → shapeB cx (cx.ti t).k c = true)
include T0 hS
theorem arg_vr {H : Type} {enc' : TypeId × Value → H} {w : World} {base b0 : Nat} {spare : Nat → Bool} {held : Bool} {r : Reach} {t : TypeId} {v : Value} {c : Ty} {d : DataW H} {ps : List MemPlace} (hc : cx.ty t = some c) (hok : Value.okWide P w r b0 t v)
    (h : DataW.Trod enc' P w base spare held t v d ps) : ∃ x : T c, WfT c x ∧ VR (memH w) [] (enc c x) v := by
  obtain ⟨fuel, h⟩ := h
  obtain ⟨x, hw, hr⟩ := trod_vr T0 hS fuel t _ c _ hc h
  refine ⟨x, hw, ?_⟩
  obtain ⟨D, hD, hk⟩ := T0.und (T0.ty t c hc).1
  have hs := hS t c hc
  rw [← hk] at hs
  unfold Value.okWide at hok
  rw [hD] at hok
  have one : ∀ u1 : V, (enc c x).cells = [u1] → enc c x = u1 → (∀ xs, v ≠ .agg xs) → (∀ xs, v ≠ .tuple xs) → VR (memH w) [] (enc c x) v := by
    intro u1 e1 e2 h1 h2
    have hv : v.cells.toList = [v] := by cases v <;> first | rfl | exact absurd rfl (h1 _) | exact absurd rfl (h2 _)
    rw [e1, hv] at hr
    rw [e2]
    exact hr.2 0 u1 v rfl rfl
  have agg : ∀ us : List V, enc c x = .agg us → (∃ cs, v = .agg cs ∧ cs.size = P.cellsOf t ∧ Row.okWide P w r b0 t cs) → VR (memH w) [] (enc c x) v := by
    rintro us e ⟨cs, rfl, _, _⟩
    rw [e] at hr ⊢
    exact .agg us cs (by simpa [V.cells, Value.cells] using hr.1) fun j u1 y hu hy => hr.2 j u1 y hu (by simpa [Value.cells] using hy)
  cases c with
  | b =>
    have e : D = .bool := tk_bool (by revert hs; cases tkOf D <;> simp [shapeB])
    subst e
    refine one _ rfl rfl (fun xs e => ?_) (fun xs e => ?_) <;> (subst e; simp [Cell.okWide, Cell.ok, hD] at hok)
  | i k =>
    have e : D = .int k := tk_int (by revert hs; cases tkOf D <;> simp [shapeB])
    subst e
    refine one _ rfl rfl (fun xs e => ?_) (fun xs e => ?_) <;> (subst e; simp [Cell.okWide, Cell.ok, hD] at hok)
  | s =>
    have e : D = .string := tk_str (by revert hs; cases tkOf D <;> simp [shapeB])
    subst e
    refine one _ rfl rfl (fun xs e => ?_) (fun xs e => ?_) <;> (subst e; simp [Cell.okWide, Cell.ok, hD] at hok)
  | sl c' =>
    have e : ∃ e, D = .slice e := by
      revert hs
      cases hk2 : tkOf D <;> simp [shapeB]
      rename_i e
      intro _
      exact ⟨e, tk_slice hk2⟩
    obtain ⟨e, rfl⟩ := e
    refine one _ rfl rfl (fun xs e => ?_) (fun xs e => ?_) <;> (subst e; simp [Cell.okWide, Cell.ok, hD] at hok)
  | ins =>
    have e : ∃ fs, D = .struct fs := by
      revert hs
      cases hk2 : tkOf D <;> simp [shapeB]
      intro _
      obtain ⟨fs, h1, _⟩ := tk_struct hk2
      exact ⟨fs, h1⟩
    obtain ⟨fs, rfl⟩ := e
    exact agg _ rfl hok
  | tok =>
    have e : ∃ fs, D = .struct fs := by
      revert hs
      cases hk2 : tkOf D <;> simp [shapeB]
      intro _
      obtain ⟨fs, h1, _⟩ := tk_struct hk2
      exact ⟨fs, h1⟩
    obtain ⟨fs, rfl⟩ := e
    exact agg _ rfl hok
  | expr =>
    have e : ∃ fs, D = .struct fs := by
      revert hs
      cases hk2 : tkOf D <;> simp [shapeB]
      intro _
      obtain ⟨fs, h1, _⟩ := tk_struct hk2
      exact ⟨fs, h1⟩
    obtain ⟨fs, rfl⟩ := e
    exact agg _ rfl hok
  | line =>
    have e : ∃ fs, D = .struct fs := by
      revert hs
      cases hk2 : tkOf D <;> simp [shapeB]
      intro _
      obtain ⟨fs, h1, _⟩ := tk_struct hk2
      exact ⟨fs, h1⟩
    obtain ⟨fs, rfl⟩ := e
    exact agg _ rfl hok
  | form =>
    have e : ∃ fs, D = .struct fs := by
      revert hs
      cases hk2 : tkOf D <;> simp [shapeB]
      intro _
      obtain ⟨fs, h1, _⟩ := tk_struct hk2
      exact ⟨fs, h1⟩
    obtain ⟨fs, rfl⟩ := e
    exact agg _ rfl hok
theorem args_vr {H : Type} {enc' : TypeId × Value → H} {w : World} {b0 : Nat} {r : Reach} : ∀ (cs : List Ty) (ts : List TypeId) (vs : List Value) (ds : List (DataW H)) (ps : List MemPlace), ts.map cx.ty = cs.map some → (∀ (j : Nat) t v, ts[j]? = some t → vs[j]? = some v → Value.okWide P w r b0 t v) →
    DataW.TrodAll enc' P w 0 (fun _ => true) true ts vs ds ps → ∃ a : ShTs (cs.map Shp.ty), WfA cs a ∧ (pks _ a).length = vs.length ∧ ∀ (j : Nat) u1 v, (pks _ a)[j]? = some u1 → vs[j]? = some v → VR (memH w) [] u1 v
  | [], ts, vs, ds, ps, hc, _, h => by
    have : ts = [] := by cases ts with | nil => rfl | cons t r => cases hc
    subst this
    obtain ⟨rfl, rfl, rfl⟩ := trodAll_nil h
    exact ⟨(), trivial, rfl, fun j u1 v h => by cases h⟩
  | c :: cs, ts, vs, ds, ps, hc, hok, h => by
    cases ts with
    | nil => cases hc
    | cons t ts =>
      obtain ⟨v, vs1, d, ds1, p, q, rfl, rfl, rfl, h1, h2⟩ := trodAll_cons h
      simp only [List.map_cons, List.cons.injEq] at hc
      obtain ⟨x, hw, hx⟩ := arg_vr T0 hS hc.1 (hok 0 t v rfl rfl) h1
      obtain ⟨a, ha, hl, hr⟩ := args_vr cs ts vs1 ds1 q hc.2 (fun j t v e1 e2 => hok (j + 1) t v (by simpa using e1) (by simpa using e2)) h2
      refine ⟨(x, a), ⟨hw, ha⟩, congrArg (· + 1) hl, fun j u1 y e1 e2 => ?_⟩
      cases j with
      | zero => cases e1; cases e2; exact hx
      | succ j => exact hr j u1 y e1 (by simpa using e2)
end
theorem trodAll_len {H : Type} {enc : TypeId × Value → H} {P : Program} {w : World} {base : Nat} {spare : Nat → Bool} {held : Bool} : ∀ (ts : List TypeId) (vs : List Value) (ds : List (DataW H)) (ps : List MemPlace), DataW.TrodAll enc P w base spare held ts vs ds ps → ds.length = ts.length
  | [], vs, ds, ps, h => by
    obtain ⟨rfl, rfl, rfl⟩ := trodAll_nil h
    rfl
  | t :: ts, vs, ds, ps, h => by
    obtain ⟨v, vs1, d, ds1, p, q, rfl, rfl, rfl, h1, h2⟩ := trodAll_cons h
    simp [trodAll_len ts vs1 ds1 q h2]
theorem trodAll_below {H : Type} {enc : TypeId × Value → H} {P : Program} (hl : laidOutB P = true) {W W' : World} {sp : Nat → Bool} : ∀ (ts : List TypeId) (vs : List Value) (ds : List (DataW H)) (ps : List MemPlace), (∀ t ∈ ts, P.readableRec t = true ∧ t < P.types.size) →
    DataW.TrodAll enc P W 0 (fun _ => true) true ts vs ds ps → (∀ p ∈ ps, W.sameAt W' p ∧ sp p.block = true) → DataW.TrodAll enc P W' 0 sp true ts vs ds ps
  | [], vs, ds, ps, _, h, _ => by
    obtain ⟨rfl, rfl, rfl⟩ := trodAll_nil h
    rfl
  | t :: ts, vs, ds, ps, ht, h, hp => by
    obtain ⟨v, vs1, d, ds1, p, q, rfl, rfl, rfl, h1, h2⟩ := trodAll_cons h
    refine ⟨p, q, WideElems.Trod_stays hl (ht t (by simp)).1 (ht t (by simp)).2 h1 (fun x hx => (hp x (List.mem_append_left _ hx)).1) (fun x hx => (hp x (List.mem_append_left _ hx)).2), ?_, rfl⟩
    exact trodAll_below hl ts vs1 ds1 q (fun t' h' => ht t' (by simp [h'])) h2 fun x hx => hp x (List.mem_append_right _ hx)
theorem keptBut_of {W W' : World} (h : Below W.heap.size W W') (may : MemPlace → Prop) : W.keptBut W' may := by
  refine ⟨h.os, h.output, fun i hi => ?_⟩
  rw [h.block i hi]
  cases e : W.heap[i]? with
  | none => rfl
  | some o => cases o <;> simp
theorem law_contract {P : Program} {cx : Cx} (T0 : TabOK P cx) (hS : ∀ t c, cx.ty t = some c → shapeB cx (cx.ti t).k c = true) (hlaid : laidOutB P = true) {gl : Nat → Option (List V)} {f : Nat} {fn : Func} {codes : List Ty} {ro : Bool} {tot : Option (ShTs (codes.map Shp.ty) → ObTs [] → ShT (.ty .b))}
    {run : Nat → ShTs (codes.map Shp.ty) → ObTs [] → Option (ShT (.ty .b) × ObTs [])} (S : ∀ n, Sound P gl f { ash := codes.map Shp.ty, os := [], r := .ty .b, ro := ro, tot := tot, run := run n })
    (hplain : ∀ a : ShTs (codes.map Shp.ty), WfA codes a → ∃ n, run n a () = some (true, ()))
    (hcodes : fn.params.toList.map cx.ty = codes.map some) (hread : ∀ t ∈ fn.params.toList, P.readableRec t = true ∧ t < P.types.size) {tb : TypeId} (hres : fn.resultTypes = #[tb]) (htb : P.underlying tb = some .bool)
    {spec : ChangeSpec} (hvars : spec.vars = []) (hspec : ∀ (H : Type) (ds : List (DataW H)), ds.length = codes.length → spec.fn H ds = { results := [.lit (.bool true)], args := ds })
    {H : Type} {enc : TypeId × Value → H} {W : World} {base : Nat} {args : Array Value} {ds gs : List (DataW H)} {before : List MemPlace} (hgl : GlOK gl (memH W))
    (hval : ∀ (j : Nat) t v, fn.params[j]? = some t → args[j]? = some v → Value.okWide P W .any base t v) (hW : DataW.Whole enc P fn.params.toList spec.vars false W args.toList ds gs before) :
    Calls P f args W fun e W' => ∃ v, e = .returned v ∧ spec.post enc P fn false true false false W args v W' := by
  have hW' := hW
  obtain ⟨p, q, hA, hV, rfl, hfz, hnd⟩ := hW
  rw [hvars] at hV
  obtain ⟨rfl, rfl⟩ := trodVars_none hV
  obtain ⟨a, hwf, hla, hra⟩ := args_vr T0 hS codes fn.params.toList args.toList ds p hcodes (fun j t v h1 h2 => hval j t v (by simpa using h1) (by simpa using h2)) hA
  obtain ⟨n, hn⟩ := hplain a hwf
  have hdl : ds.length = codes.length := by
    have h1 := trodAll_len _ _ _ _ hA
    have h2 := congrArg List.length hcodes
    simp at h1 h2
    omega
  have hown : ∀ (j : Nat) u1 x, (pks (codes.map Shp.ty) a)[j]? = some u1 → blkOf u1 x = none := by
    intro j u1 x hu
    have : ∀ (cs : List Ty) (a : ShTs (cs.map Shp.ty)) (j : Nat) u1, (pks (cs.map Shp.ty) a)[j]? = some u1 → u1.dis = u1 := by
      intro cs
      induction cs with
      | nil => intro a j u1 h; cases h
      | cons c r ih =>
        intro a j u1 h
        cases j with
        | zero => cases h; cases c <;> rfl
        | succ j => exact ih a.2 j u1 h
    exact blkOf_of_dis (this codes a j u1 hu)
  have hdis : ∀ (j : Nat) u1, (pks (codes.map Shp.ty) a)[j]? = some u1 → u1.dis = u1 := by
    have : ∀ (cs : List Ty) (a : ShTs (cs.map Shp.ty)) (j : Nat) u1, (pks (cs.map Shp.ty) a)[j]? = some u1 → u1.dis = u1 := by
      intro cs
      induction cs with
      | nil => intro a j u1 h; cases h
      | cons c r ih =>
        intro a j u1 h
        cases j with
        | zero => cases h; cases c <;> rfl
        | succ j => exact ih a.2 j u1 h
    exact this codes a
  have noown : ∀ q b, ¬ owns (pks (codes.map Shp.ty) a) [] [] args W q b := by
    rintro q b (⟨n, e, _, he, _⟩ | ⟨u1, x, h1, hb⟩)
    · simp at he
    · cases q with
      | obj n => cases h1
      | slot s => rw [hown s u1 x h1.1] at hb; cases hb
      | cell n j => obtain ⟨e, cs, h2, _⟩ := h1; simp at h2
  have hI : Inv ⟨W.heap.size, W, [], memH W, []⟩ [] (memH W) [] (pks (codes.map Shp.ty) a) (pkObs [] ()) args W := by
    refine ⟨by rw [hla]; simp, fun s u1 x h1 h2 => ?_, rfl, fun n o e h1 => by simp [pkObs] at h1, fun n e h1 => by simp at h1, fun b o v h => h, fun q q' b h1 => absurd h1 (noown q b), fun q b h1 => absurd h1 (noown q b), fun b _ _ => rfl, HM.le.refl _, fun b o hn => absurd rfl hn, rfl, rfl, rfl, Nat.le_refl _, MU.le.refl _⟩
    show Val _ _ _ u1 x
    exact .of_dis (hra s u1 x h1 (by simpa using h2)) (hdis s u1 h1)
  refine ((S n).calls a () true () hn [] (memH W) [] args W hgl hI).mono fun e W' he => ?_
  obtain ⟨y, H', rfl, hI'⟩ := he
  have hy : y = .bool true := by
    have h1 := (hI'.slots 0 _ _ rfl rfl)
    exact bool_of h1.1
  subst hy
  have hb : Below W.heap.size W W' := ⟨hI'.os, hI'.tape, hI'.output, hI'.size, fun k hk => hI'.frame k hk (by simp)⟩
  refine ⟨_, rfl, ds, [], p ++ [], [], p, [], hW', ?_, ?_, ?_, keptBut_of hb _, fun h => by cases h⟩
  · rw [hres, List.append_nil, hspec H ds hdl]
    exact trodAll_cons_mk (shut_bool htb _) trodAll_mk0
  · rw [List.append_nil, hspec H ds hdl]
    exact trodAll_below hlaid _ _ _ _ hread hA fun x hx => by
      have := hW'.lt x (by simpa using hx)
      exact ⟨hb.same this, by simpa using this⟩
  · rw [hvars, List.append_nil, hspec H ds hdl]
    rfl
end Go.Ev
namespace Go.Ev
open Go
def AllM (P : Program) (gl : Nat → Option (List V)) (f : Nat) : List FM → Prop
  | [] => True
  | m :: r => Sound P gl f m ∧ AllM P gl f r
def AllS (P : Program) (gl : Nat → Option (List V)) : List (Nat × List FM) → Prop
  | [] => True
  | x :: r => AllM P gl x.1 x.2 ∧ AllS P gl r
theorem allM_mem {P : Program} {gl : Nat → Option (List V)} {f : Nat} : ∀ (l : List FM), AllM P gl f l → ∀ m ∈ l, Sound P gl f m
  | [], _, m, h => by cases h
  | x :: r, h, m, hm => by
    cases hm with
    | head => exact h.1
    | tail _ hm => exact allM_mem r h.2 m hm
theorem allS_mem {P : Program} {gl : Nat → Option (List V)} : ∀ (l : List (Nat × List FM)), AllS P gl l → ∀ x ∈ l, ∀ m ∈ x.2, Sound P gl x.1 m
  | [], _, x, h => by cases h
  | y :: r, h, x, hx => by
    cases hx with
    | head => exact allM_mem _ h.1
    | tail _ hx => exact allS_mem r h.2 x hx
theorem modelsOK {P : Program} {cx : Cx} (l : List (Nat × List FM)) (hc : ∀ f, cx.cm f = find [] f l) (h : AllS P cx.gl l) : ModelsOK P cx := by
  intro f m hm
  rw [hc] at hm
  have key : ∀ l : List (Nat × List FM), m ∈ find [] f l → ∃ x ∈ l, x.1 = f ∧ m ∈ x.2 := by
    intro l
    induction l with
    | nil => intro h; cases h
    | cons y r ih =>
      intro h
      obtain ⟨k, ms⟩ := y
      simp only [find] at h
      cases hb : Nat.beq k f with
      | true => rw [hb] at h; exact ⟨(k, ms), by simp, Nat.eq_of_beq_eq_true hb, h⟩
      | false =>
        rw [hb] at h
        obtain ⟨x, h1, h2⟩ := ih h
        exact ⟨x, List.mem_cons_of_mem _ h1, h2⟩
  obtain ⟨x, h1, rfl, h3⟩ := key l hm
  exact allS_mem l h x h1 m h3
theorem loopsOK_nil {cx : Cx} : LoopsOK cx [] := fun c h => by cases h
theorem loopsOK_cons {cx : Cx} {c : Code} {l : List Code} (m : LM) (hm : cx.lm (firstRegion c) = some m) (hok : lmOK m = true) (n : Nat) (body : FrT m.fs × ObTs m.os → Option (Option Nat × FrT m.fs × ObTs m.os)) (hrun : m.run = fun x o => iter body n (x, o)) (h : ∀ s, body s = roundF { cx with res := [] } c m s.1 s.2) (hr : LoopsOK cx l) : LoopsOK cx (c :: l) := by
  intro c' hc'
  cases hc' with
  | head =>
    intro m' hm'
    rw [hm] at hm'; cases hm'
    refine ⟨hok, n, fun x o => ?_⟩
    have : body = fun s => roundF { cx with res := [] } c m s.1 s.2 := funext h
    rw [hrun, this]
  | tail _ hc' => exact hr c' hc'
theorem loopsOK_skip {cx : Cx} {c : Code} {l : List Code} (hm : cx.lm (firstRegion c) = none) (hr : LoopsOK cx l) : LoopsOK cx (c :: l) := by
  intro c' hc'
  cases hc' with
  | head => intro m' hm'; rw [hm] at hm'; cases hm'
  | tail _ hc' => exact hr c' hc'
theorem loops_of {cx : Cx} {fn : Func} {l : List Code} (h : fn.body.map loopsOf = some l) (hL : LoopsOK cx l) : ∀ c, fn.body = some c → LoopsOK cx (loopsOf c) := by
  intro c hc
  rw [hc] at h
  cases h
  exact hL
theorem iter_congr {S : Type} {f g : S → Option (Option Nat × S)} (h : ∀ s, f s = g s) (n : Nat) (s : S) : iter f n s = iter g n s := by
  have : f = g := funext h
  rw [this]
theorem sound_rec {P : Program} (hmix : P.follows .mixedOrders = true) {cx : Cx} {fn : Func} {f : Nat} (m : FM) (run : ShTs m.ash → ObTs m.os → Option (ShT m.r × ObTs m.os)) (T0 : TabOK P cx) (hM : ModelsOK P cx) (hf : P.funcs[f]? = some fn) (hok : fnOK fn m = true) (hL : ∀ c, fn.body = some c → LoopsOK cx (loopsOf c))
    (hev : ∀ a o, evalF cx fn m a o = run a o) (htot : m.tot = none) (hro : m.ro = true → ∀ a o x o', run a o = some (x, o') → o' = o) : Sound P cx.gl f { m with run := run } :=
  sound_of hmix T0 hM hf hok hL hev (fun t h => by
    have h : m.tot = some t := h
    rw [htot] at h; cases h) hro
theorem tot_none {m : FM} (h : m.tot = none) : ∀ t, m.tot = some t → ∀ a o, m.run a o = some (t a o, o) := fun t h' => by rw [h] at h'; cases h'
theorem tot_some {m : FM} (t0 : ShTs m.ash → ObTs m.os → ShT m.r) (h : m.tot = some t0) (hr : ∀ a o, m.run a o = some (t0 a o, o)) : ∀ t, m.tot = some t → ∀ a o, m.run a o = some (t a o, o) := fun t h' => by rw [h] at h'; cases h'; exact hr
def RoO {α β : Type} (o : β) (t : Option (α × β)) : Prop := ∀ x o', t = some (x, o') → o' = o
theorem ro_some {α β : Type} {o : β} {x : α} : RoO o (some (x, o)) := fun y o' h => by cases h; rfl
theorem ro_none {α β : Type} {o : β} : RoO o (none : Option (α × β)) := fun y o' h => by cases h
theorem ro_chk {α β : Type} {o : β} {c : Bool} {t : Option (α × β)} (h : RoO o t) : RoO o (chk c t) := by
  cases c
  · exact ro_none
  · exact h
theorem ro_bif {α β : Type} {o : β} {c : Bool} {s t : Option (α × β)} (h : RoO o s) (k : RoO o t) : RoO o (bif c then s else t) := by
  cases c
  · exact k
  · exact h
theorem ro_bind {α β γ : Type} {o : β} {x : Option γ} {f : γ → Option (α × β)} (h : ∀ y, RoO o (f y)) : RoO o (x.bind f) := by
  cases x with
  | none => exact ro_none
  | some y => exact h y
end Go.Ev
