/- A region: operation after operation. -/
import Derived.Test.YtjepeadpofpadaaGreatDoorLsK2
import Derived.Scope
set_option linter.unusedSimpArgs false
set_option linter.unusedVariables false
set_option linter.unusedSectionVars false
namespace Go.Ev
open Go
def stepR (cx : Cx) (ops : List Oper) (G : List (Nat × Path)) (o : Oper) (fr : List V) (O : List Ob) : Option (List V × List Ob) :=
  match pathOf ops G o with
  | none => none
  | some [] => match stepAt cx ops G o [] fr O with
    | .no => none
    | .pure ok v => chk ok (some (put fr o.dst v, O))
    | .tot v O' => some (put fr o.dst v, O')
    | .eff ok v ds d => chk ok (some (put (disAll fr ds) o.dst v, d.app O))
    | .call r os ro x ids O' => x.bind fun y => some (put fr o.dst (pk r y.1), match ro with | true => O' | false => setObs O ids (pkObs os y.2))
  | some p => match ready fr p, stepAt cx ops G o p fr O with
    | true, .tot v O' => some (put fr o.dst v, O')
    | true, .pure ok v => chk (bNot (bAnd (bNot ok) (pcOf fr p))) (some (put fr o.dst v, O))
    | true, .eff ok v ds d => bif pcOf fr p then chk ok (some (put (disAll fr ds) o.dst v, d.app O)) else some (put fr o.dst .u, O)
    | true, .call r os ro x ids O' => match ro with
      | true => (bif pcOf fr p then x else some (dfS r, dfObs os)).bind fun y => some (put fr o.dst (pk r y.1), O')
      | false => bif pcOf fr p then (x.bind fun y => some (put fr o.dst (pk r y.1), setObs O ids (pkObs os y.2))) else some (put fr o.dst .u, O)
    | _, _ => none
theorem chk_true {α : Type} (x : Option α) : chk true x = x := rfl
theorem chk_false {α : Type} (x : Option α) : chk false x = none := rfl
theorem chk_bind {α β : Type} (c : Bool) (x : Option α) (f : α → Option β) : (chk c x).bind f = chk c (x.bind f) := by cases c <;> rfl
theorem regionK_cons {ρ : Type} (cx : Cx) (ops : List Oper) (draw : Bool) (G : List (Nat × Path)) (S : List Nat) (o : Oper) (rest : List Oper) (fr : List V) (O : List Ob) (tc : List Touch) (k : List V → List Ob → Option ρ) :
    regionK cx ops draw G S (o :: rest) fr O tc k = (stepR cx ops G o fr O).bind fun s => regionK cx ops draw G S rest s.1 s.2 (touchOf cx o fr O :: tc) k := by
  unfold stepR
  rw [regionK]
  cases pathOf ops G o with
  | none => rfl
  | some p =>
    cases p with
    | nil =>
      dsimp only
      cases stepAt cx ops G o [] fr O with
      | no => rfl
      | pure ok v => dsimp only; rw [chk_bind]; rfl
      | tot v O' => rfl
      | eff ok v ds d => dsimp only; rw [chk_bind]; rfl
      | call r os ro x ids O' => dsimp only; cases x <;> rfl
    | cons q p =>
      dsimp only
      cases ready fr (q :: p) with
      | false => rfl
      | true =>
        cases stepAt cx ops G o (q :: p) fr O with
        | no => rfl
        | pure ok v => dsimp only; rw [chk_bind]; rfl
        | tot v O' => rfl
        | eff ok v ds d =>
          dsimp only
          cases pcOf fr (q :: p)
          · rfl
          · simp only [cond_true]; rw [chk_bind]; rfl
        | call r os ro x ids O' =>
          dsimp only
          cases ro with
          | true => dsimp only; cases pcOf fr (q :: p) <;> cases x <;> rfl
          | false => dsimp only; cases pcOf fr (q :: p) <;> cases x <;> rfl
def runR (cx : Cx) (ops : List Oper) (G : List (Nat × Path)) : List Oper → List V → List Ob → Option (List V × List Ob)
  | [], fr, O => some (fr, O)
  | o :: r, fr, O => (stepR cx ops G o fr O).bind fun s => runR cx ops G r s.1 s.2
def touches (cx : Cx) (ops : List Oper) (G : List (Nat × Path)) : List Oper → List V → List Ob → List Touch
  | [], _, _ => []
  | o :: r, fr, O => touchOf cx o fr O :: (match stepR cx ops G o fr O with | some s => touches cx ops G r s.1 s.2 | none => [])
theorem regionK_run {ρ : Type} {cx : Cx} {ops : List Oper} {draw : Bool} {G : List (Nat × Path)} {S : List Nat} {k : List V → List Ob → Option ρ} : ∀ (l : List Oper) (fr : List V) (O : List Ob) (tc : List Touch) (r : ρ),
    regionK cx ops draw G S l fr O tc k = some r → ∃ fr' O', runR cx ops G l fr O = some (fr', O') ∧ k (clean S fr') O' = some r ∧
      (draw = true → edgesOK 0 ops = true ∧ drawOK cx ops G (tc.reverse ++ touches cx ops G l fr O) ops (tc.reverse ++ touches cx ops G l fr O) (befores ops []).reverse = true)
  | [], fr, O, tc, r, h => by
    cases draw with
    | false => exact ⟨fr, O, rfl, h, fun e => by cases e⟩
    | true =>
      have h' : (match (match edgesOK 0 ops with | true => drawOK cx ops G tc.reverse ops tc.reverse (befores ops []).reverse | false => false) with | true => k (clean S fr) O | false => none) = some r := h
      split at h'
      · rename_i hd
        split at hd
        · rename_i he
          exact ⟨fr, O, rfl, h', fun _ => ⟨he, by simpa [touches] using hd⟩⟩
        · cases hd
      · cases h'
  | o :: l, fr, O, tc, r, h => by
    rw [regionK_cons] at h
    cases hs : stepR cx ops G o fr O with
    | none => rw [hs] at h; cases h
    | some s =>
      rw [hs] at h
      obtain ⟨fr', O', h1, h2, h3⟩ := regionK_run l s.1 s.2 _ r h
      refine ⟨fr', O', by rw [runR, hs]; exact h1, h2, fun e => ?_⟩
      have := h3 e
      exact ⟨this.1, by simpa [touches, hs] using this.2⟩
end Go.Ev
namespace Go.Ev
open Go
def Weak (O O' : List Ob) : Prop := O'.length = O.length ∧ ∀ (n : Nat) ob ob', O[n]? = some ob → O'[n]? = some ob' → ObW ob ob'
def StW (O : List Ob) : St → Prop
  | .tot _ O' => Weak O O'
  | .call _ _ _ _ _ O' => Weak O O'
  | _ => True
theorem StW.ofP {O : List Ob} {st : St} (h : st.isP = true) : StW O st := by
  cases st <;> first | trivial | cases h
theorem ite_StW {O : List Ob} {c : Prop} [Decidable c] {A B : St} (hA : StW O A) (hB : StW O B) : StW O (if c then A else B) := by
  split
  · exact hA
  · exact hB
theorem appendV_W (cx : Cx) (t : Nat) (x y : V) (s : List Nat) (O : List Ob) : StW O (appendV cx t x y s) := by
  unfold appendV
  split <;> (try split) <;> trivial
theorem clearV_W (cx : Cx) (t : Nat) (O : List Ob) (x : V) : StW O (clearV cx t O x) := by
  unfold clearV
  split <;> (try split) <;> (try split) <;> trivial
theorem copyV_W (cx : Cx) (t : Nat) (O : List Ob) (x y : V) : StW O (copyV cx t O x y) := by
  unfold copyV
  split <;> (try split) <;> (try split) <;> trivial
theorem builtinV_W (cx : Cx) (bt : Builtin) (ops : List Operand) (tys : List Nat) (fr : List V) (O : List Ob) : StW O (builtinV cx bt ops tys fr O) := by
  unfold builtinV
  split
  · split <;> trivial
  · exact .ofP (ofOpt_isP _)
  · exact .ofP (ofOpt_isP _)
  · split
    · exact appendV_W ..
    · trivial
  · exact clearV_W ..
  · split
    · exact copyV_W ..
    · trivial
  · trivial
theorem callG_W (cx : Cx) (g : Nat) (vs : List V) (O : List Ob) : StW O (callG cx g vs O) := by
  unfold callG
  dsimp only
  split
  · rename_i os hok hos
    have hw : ∀ (l : List ObS) (o0 : ObTs l), upkObs l os = some o0 → Weak O (setObs O (refsAll vs) (pkObs l o0)) := fun l o0 h => by
      obtain ⟨h1, h2⟩ := upkObs_w l os o0 h
      exact ⟨len_setObs _ _ _, weak_setObs (nodup_refsAll vs) hos h1 h2⟩
    rcases pick_cases (O := O) (cx.cm g) _ rfl with h1 | ⟨m, hm, a0, o0, h1, h2, h3⟩
    · rw [h1]; trivial
    · rcases h3 with ⟨f, hf1, h3⟩ | h3 <;> rw [h3] <;> exact hw m.os o0 h2
  · trivial
theorem stepOp_W (cx : Cx) (ops : List Oper) (o : Oper) (rd : Operand → Bool) (fr : List V) (O : List Ob) : StW O (stepOp cx ops o rd fr O) := by
  unfold stepOp
  refine ite_StW ?_ trivial
  cases o.op with
  | move x => exact ite_StW trivial trivial
  | alloc e => dsimp only; split <;> trivial
  | box e x => exact ite_StW trivial trivial
  | build t parts => dsimp only; split <;> (try split) <;> trivial
  | buildSlice t len parts => dsimp only; split <;> (try split) <;> (try split) <;> (try split) <;> trivial
  | load t a => exact .ofP (ofOpt_isP _)
  | store t a x => dsimp only; split <;> trivial
  | nilCheck x => dsimp only; split <;> trivial
  | binOp op t x y t' => exact .ofP (bin_isP ..)
  | unOp op t x => exact .ofP (un_isP ..)
  | convert s d x => dsimp only; split <;> trivial
  | makeSlice t l c => dsimp only; split <;> (try split) <;> (try split) <;> trivial
  | makeFunc f first caps => dsimp only; split <;> trivial
  | slice t x lo hi mx => cases mx with
    | none => exact .ofP (sliceLH_isP ..)
    | some _ => trivial
  | fieldAddr s x f => dsimp only; split <;> trivial
  | field s x f =>
    dsimp only
    split
    · exact .ofP (ofOpt_isP _)
    · trivial
  | indexAddr t x ix => exact .ofP (idxV_isP ..)
  | index t x ix => exact .ofP (indexV_isP ..)
  | extract x i =>
    dsimp only
    split
    · exact .ofP (ofOpt_isP _)
    · trivial
  | call c =>
    dsimp only
    split
    · exact builtinV_W ..
    · split
      · split
        · exact callG_W ..
        · trivial
      · trivial
    · trivial
  | _ => trivial
theorem stepAt_W (cx : Cx) (ops : List Oper) (G : List (Nat × Path)) (o : Oper) (p : Path) (fr : List V) (O : List Ob) : StW O (stepAt cx ops G o p fr O) := by
  unfold stepAt
  split
  · exact .ofP (pickOp_isP ..)
  · exact stepOp_W ..
end Go.Ev
namespace Go.Ev
open Go
section
variable {P : Program} {cx : Cx} {g : Gh} {G : List (Nat × Path)} {H : HM} {μ : MU} {fr : List V} {O : List Ob} {a : Act} {w : World} {o : Oper} {p : Path}
theorem slot_tmps (h : Inv g G H μ fr O a.tmps w) {s : Nat} {c : Bool} (hc : fr.getD s .u = .b c) : ∃ x, a.tmps[s]? = some x ∧ SlotR G fr H μ w s (.b c) x := by
  have hlt : s < fr.length := by
    rcases Nat.lt_or_ge s fr.length with h' | h'
    · exact h'
    · rw [show fr.getD s .u = .u by simp [List.getD, List.getElem?_eq_none h']] at hc; cases hc
  have h1 : fr[s]? = some (.b c) := by rw [← hc]; simp [List.getD, List.getElem?_eq_getElem hlt]
  have hlt' : s < a.tmps.size := by rw [← h.len]; exact hlt
  exact ⟨_, Array.getElem?_eq_getElem hlt', h.slots s _ _ h1 (Array.getElem?_eq_getElem hlt')⟩
def asB : Value → Option Bool
  | .bool b => some b
  | _ => none
theorem yielded_of {opsA : Array Oper} {j s : Nat} {q : Oper} {tmps : Array Value} {x : Value} (hq : opsA[j]? = some q) (hs : q.dst = some s) (hx : tmps[s]? = some x) : yielded opsA tmps j = asB x := by
  simp only [yielded, hq, Option.bind_some, hs, hx]
  cases x <;> rfl
theorem wanted_of (h : Inv g G H μ fr O a.tmps w) {opsA : Array Oper} (hp : pathOf opsA.toList G o = some p) :
    (p = [] → Region.wanted o (yielded opsA a.tmps) = true) ∧ (p ≠ [] → ready fr p = true → Region.wanted o (yielded opsA a.tmps) = pcOf fr p) := by
  unfold pathOf at hp
  split at hp
  · rename_i hg
    cases hp
    exact ⟨fun _ => by simp [Region.wanted, hg], fun hn => absurd rfl hn⟩
  · rename_i j wv hg
    split at hp
    · rename_i q hq
      split at hp
      · rename_i s hs
        cases hp
        refine ⟨fun e => absurd e (by simp), fun _ hr => ?_⟩
        have hrs : ∃ c, fr.getD s .u = .b c := ready_b hr (by simp [slotsOf])
        obtain ⟨c, hc⟩ := hrs
        obtain ⟨x, hx, hsl⟩ := slot_tmps h hc
        rw [pcOf_append, pcOf_cons]
        have hy : yielded opsA a.tmps j = asB x := yielded_of (by simpa using hq) hs hx
        have hb : bAt fr s wv = (c == wv) := by
          simp only [bAt, hc]
          cases wv <;> cases c <;> rfl
        simp only [Region.wanted, hg, hy, hb, pcOf, Bool.and_true]
        unfold SlotR at hsl
        cases hl : look s G with
        | none =>
          simp only [hl] at hsl
          rw [bool_of hsl.1]
          simp [pcOf, asB]
        | some q0 =>
          simp only [hl] at hsl
          rcases hsl with hsl | ⟨_, h1, h2⟩
          · cases hsl
          · simp only [Option.getD_some]
            cases hpc : pcOf fr q0 with
            | true =>
              rw [bool_of (h1 hpc).1]
              simp [asB]
            | false =>
              rw [h2 hpc]
              simp [undef, asB]
      · cases hp
    · cases hp
theorem put_defers (a : Act) (d : Option Nat) (x : Value) : (a.put d x).defers = a.defers := by rw [Act.put_tmps]
theorem put_tmps' (a : Act) (d : Option Nat) (x : Value) : (a.put d x).tmps = putT a.tmps d x := by rw [Act.put_tmps]
theorem stepR_sound (T0 : TabOK P cx) (hM : ModelsOK P cx) (h : Inv g G H μ fr O a.tmps w) (hgl : GlOK cx.gl H) {opsA : Array Oper} {i : Nat} (ho : opsA[i]? = some o)
    (hg : ∀ d p, o.dst = some d → pathOf opsA.toList G o = some p → (p = [] ∧ look d G = none) ∨ (p ≠ [] ∧ look d G = some p))
    (hf : ∀ d s q, o.dst = some d → look s G = some q → d ∈ slotsOf q → fr.getD d .u = .u) {fr' : List V} {O' : List Ob} (hs : stepR cx opsA.toList G o fr O = some (fr', O'))
    (K : Act → World → Prop) (Q : Exit → Act → World → Prop) (hK : ∀ H' μ' a' w', a'.defers = a.defers → Inv g G H' μ' fr' O' a'.tmps w' → K a' w') : wpOp P opsA Q i K a w := by
  unfold wpOp
  rw [ho]
  dsimp only
  unfold stepR at hs
  cases hpo : pathOf opsA.toList G o with
  | none => rw [hpo] at hs; cases hs
  | some p =>
    rw [hpo] at hs
    obtain ⟨hw1, hw2⟩ := wanted_of h hpo
    have run : ∀ {fr1 O1}, OpOK P g G o a w fr1 O1 → fr1 = fr' → O1 = O' → o.wp P a w K Q := by
      intro fr1 O1 hop e1 e2
      subst e1; subst e2
      exact hop K Q fun H' μ' x w' hI => hK H' μ' _ w' (put_defers _ _ _) (by rw [put_tmps']; exact hI)
    cases p with
    | nil =>
      rw [if_pos (hw1 rfl)]
      left
      have hd : DstOK G [] fr o.dst := fun d e => ⟨.inl ((hg d [] e hpo).elim (fun h1 => h1.2) (fun h1 => absurd rfl h1.1)), fun s q => hf d s q e⟩
      have hst := stepAt_sound T0 hM h hgl (p := []) rfl hd opsA.toList
      dsimp only at hs
      cases hst' : stepAt cx opsA.toList G o [] fr O with
      | no => rw [hst'] at hs; cases hs
      | pure ok v =>
        rw [hst'] at hs hst
        cases ok with
        | false => cases hs
        | true => cases hs; exact run (hst rfl) rfl rfl
      | eff ok v ds d =>
        rw [hst'] at hs hst
        cases ok with
        | false => cases hs
        | true => cases hs; exact run (hst rfl) rfl rfl
      | tot v O1 => rw [hst'] at hs hst; cases hs; exact run hst rfl rfl
      | call r os ro x ids O1 =>
        rw [hst'] at hs hst
        dsimp only at hs
        cases x with
        | none => cases hs
        | some y => cases hs; exact run (hst y rfl) rfl rfl
    | cons q0 p0 =>
      generalize hpp : q0 :: p0 = p at hpo hw1 hw2 hs
      have hne : p ≠ [] := by rw [← hpp]; simp
      have hs' : (match ready fr p, stepAt cx opsA.toList G o p fr O with
        | true, .tot v O' => some (put fr o.dst v, O')
        | true, .pure ok v => chk (bNot (bAnd (bNot ok) (pcOf fr p))) (some (put fr o.dst v, O))
        | true, .eff ok v ds d => bif pcOf fr p then chk ok (some (put (disAll fr ds) o.dst v, d.app O)) else some (put fr o.dst .u, O)
        | true, .call r os ro x ids O' => match ro with
          | true => (bif pcOf fr p then x else some (dfS r, dfObs os)).bind fun y => some (put fr o.dst (pk r y.1), O')
          | false => bif pcOf fr p then (x.bind fun y => some (put fr o.dst (pk r y.1), setObs O ids (pkObs os y.2))) else some (put fr o.dst .u, O)
        | _, _ => none) = some (fr', O') := by subst hpp; exact hs
      clear hs
      cases hr : ready fr p with
      | false => rw [hr] at hs'; cases hs'
      | true =>
        rw [hr] at hs'
        rw [hw2 hne hr]
        have hlk : ∀ d', o.dst = some d' → look d' G = some p := fun d e => by
          rcases hg d p e hpo with h1 | h1
          · exact absurd h1.1 hne
          · exact h1.2
        have hd : DstOK G p fr o.dst := fun d e => ⟨.inr ⟨hlk d e, hr⟩, fun s q => hf d s q e⟩
        have hW := stepAt_W cx opsA.toList G o p fr O
        cases hpc : pcOf fr p with
        | true =>
          rw [if_pos rfl]
          left
          have hst := stepAt_sound T0 hM h hgl hpc hd opsA.toList
          cases hst' : stepAt cx opsA.toList G o p fr O with
          | no => rw [hst'] at hs'; cases hs'
          | pure ok v =>
            rw [hst'] at hs' hst
            cases ok with
            | false => simp only [hpc] at hs'; cases hs'
            | true => cases hs'; exact run (hst rfl) rfl rfl
          | eff ok v ds d =>
            rw [hst'] at hs' hst
            simp only [hpc, cond_true] at hs'
            cases ok with
            | false => cases hs'
            | true => cases hs'; exact run (hst rfl) rfl rfl
          | tot v O1 => rw [hst'] at hs' hst; cases hs'; exact run hst rfl rfl
          | call r os ro x ids O1 =>
            rw [hst'] at hs' hst
            cases ro with
            | true =>
              simp only [hpc, cond_true] at hs'
              cases x with
              | none => cases hs'
              | some y => cases hs'; exact run (hst y rfl) rfl rfl
            | false =>
              simp only [hpc, cond_true] at hs'
              cases x with
              | none => cases hs'
              | some y => cases hs'; exact run (hst y rfl) rfl rfl
        | false =>
          rw [if_neg (by simp)]
          have skip : ∀ v O1, Weak O O1 → put fr o.dst v = fr' → O1 = O' → K (a.put o.dst undef) w := by
            intro v O1 hw e1 e2
            subst e1; subst e2
            refine hK H μ _ w (put_defers _ _ _) ?_
            rw [put_tmps']
            exact (skip_inv h hd hlk hpc v).weakObs hw.1 hw.2
          have weak0 : Weak O O := ⟨rfl, fun n ob ob' h1 h2 => by rw [h1] at h2; cases h2; exact .inl rfl⟩
          cases hst' : stepAt cx opsA.toList G o p fr O with
          | no => rw [hst'] at hs'; cases hs'
          | pure ok v =>
            rw [hst'] at hs'
            have e : bNot (bAnd (bNot ok) (pcOf fr p)) = true := by rw [hpc]; cases ok <;> rfl
            dsimp only at hs'
            rw [e] at hs'
            cases hs'
            exact skip v O weak0 rfl rfl
          | eff ok v ds d =>
            rw [hst'] at hs'
            simp only [hpc, cond_false] at hs'
            cases hs'
            exact skip .u O weak0 rfl rfl
          | tot v O1 =>
            rw [hst'] at hs' hW
            cases hs'
            exact skip v _ hW rfl rfl
          | call r os ro x ids O1 =>
            rw [hst'] at hs' hW
            cases ro with
            | true =>
              simp only [hpc, cond_false] at hs'
              cases hs'
              exact skip _ _ hW rfl rfl
            | false =>
              simp only [hpc, cond_false] at hs'
              cases hs'
              exact skip .u O weak0 rfl rfl
end
end Go.Ev
namespace Go.Ev
open Go
theorem stepR_form {cx : Cx} {ops : List Oper} {G : List (Nat × Path)} {o : Oper} {fr fr' : List V} {O O' : List Ob} (h : stepR cx ops G o fr O = some (fr', O')) : ∃ ds v, fr' = put (disAll fr ds) o.dst v := by
  unfold stepR at h
  cases hpo : pathOf ops G o with
  | none => rw [hpo] at h; cases h
  | some p =>
    rw [hpo] at h
    cases p with
    | nil =>
      dsimp only at h
      cases hst : stepAt cx ops G o [] fr O with
      | no => rw [hst] at h; cases h
      | pure ok v =>
        rw [hst] at h
        cases ok with
        | false => cases h
        | true => cases h; exact ⟨[], v, rfl⟩
      | eff ok v ds d =>
        rw [hst] at h
        cases ok with
        | false => cases h
        | true => cases h; exact ⟨ds, v, rfl⟩
      | tot v O1 => rw [hst] at h; cases h; exact ⟨[], v, rfl⟩
      | call r os ro x ids O1 =>
        rw [hst] at h
        cases x with
        | none => cases h
        | some y => cases h; exact ⟨[], _, rfl⟩
    | cons q p =>
      dsimp only at h
      cases hr : ready fr (q :: p) with
      | false => rw [hr] at h; cases h
      | true =>
        rw [hr] at h
        cases hst : stepAt cx ops G o (q :: p) fr O with
        | no => rw [hst] at h; cases h
        | pure ok v =>
          rw [hst] at h
          dsimp only at h
          cases hc : bNot (bAnd (bNot ok) (pcOf fr (q :: p))) with
          | false => rw [hc] at h; cases h
          | true => rw [hc] at h; cases h; exact ⟨[], v, rfl⟩
        | eff ok v ds d =>
          rw [hst] at h
          dsimp only at h
          cases hc : pcOf fr (q :: p) with
          | false => rw [hc] at h; cases h; exact ⟨[], .u, rfl⟩
          | true =>
            rw [hc] at h
            cases ok with
            | false => cases h
            | true => cases h; exact ⟨ds, v, rfl⟩
        | tot v O1 => rw [hst] at h; cases h; exact ⟨[], v, rfl⟩
        | call r os ro x ids O1 =>
          rw [hst] at h
          cases ro with
          | true =>
            dsimp only at h
            cases hb : (bif pcOf fr (q :: p) then x else some (dfS r, dfObs os)) with
            | none => rw [hb] at h; cases h
            | some y => rw [hb] at h; cases h; exact ⟨[], _, rfl⟩
          | false =>
            dsimp only at h
            cases hc : pcOf fr (q :: p) with
            | false => rw [hc] at h; cases h; exact ⟨[], .u, rfl⟩
            | true =>
              rw [hc] at h
              cases x with
              | none => cases h
              | some y => cases h; exact ⟨[], _, rfl⟩
theorem stepR_u {cx : Cx} {ops : List Oper} {G : List (Nat × Path)} {o : Oper} {fr fr' : List V} {O O' : List Ob} (h : stepR cx ops G o fr O = some (fr', O')) {e : Nat} (hd : o.dst ≠ some e) (hu : fr.getD e .u = .u) : fr'.getD e .u = .u := by
  obtain ⟨ds, v, rfl⟩ := stepR_form h
  cases hd' : o.dst with
  | none => exact disAll_u ds fr e hu
  | some d =>
    rw [put_some, getD_set, if_neg (fun q => hd (by rw [hd', q.1]))]
    exact disAll_u ds fr e hu
def PathsOK (ops : List Oper) (G : List (Nat × Path)) : Prop := ∀ o ∈ ops, ∀ d p, o.dst = some d → pathOf ops G o = some p → (p = [] ∧ look d G = none) ∨ (p ≠ [] ∧ look d G = some p)
def Apart (G : List (Nat × Path)) (o q : Oper) : Prop := ∀ d s r, o.dst = some d → look s G = some r → d ∈ slotsOf r → q.dst ≠ some d
def FreshFr (G : List (Nat × Path)) (l : List Oper) (fr : List V) : Prop := ∀ o ∈ l, ∀ d s r, o.dst = some d → look s G = some r → d ∈ slotsOf r → fr.getD d .u = .u
theorem runR_sound {P : Program} {cx : Cx} (T0 : TabOK P cx) (hM : ModelsOK P cx) {g : Gh} (hgl : GlOK cx.gl g.H0) {G : List (Nat × Path)} {opsA : Array Oper} (hP : PathsOK opsA.toList G) {Q : Exit → Act → World → Prop} {fr' : List V} {O' : List Ob} :
    ∀ (ls : List (Nat × Oper)) {H : HM} {μ : MU} {fr : List V} {O : List Ob} {a : Act} {w : World}, Inv g G H μ fr O a.tmps w → (∀ x ∈ ls, opsA[x.1]? = some x.2) → (ls.map (·.2)).Pairwise (Apart G) → FreshFr G (ls.map (·.2)) fr →
      runR cx opsA.toList G (ls.map (·.2)) fr O = some (fr', O') → (∀ H' μ' a' w', a'.defers = a.defers → Inv g G H' μ' fr' O' a'.tmps w' → Q .normal a' w') → wpOps P opsA Q (ls.map (·.1)) a w
  | [], H, μ, fr, O, a, w, h, _, _, _, hr, hQ => by
    simp only [List.map_nil, runR] at hr
    cases hr
    exact hQ H μ a w rfl h
  | (i, o) :: ls, H, μ, fr, O, a, w, h, hi, hpw, hf, hr, hQ => by
    simp only [List.map_cons] at hr hpw hf ⊢
    rw [wpOps_cons]
    rw [runR] at hr
    cases hs : stepR cx opsA.toList G o fr O with
    | none => rw [hs] at hr; cases hr
    | some s =>
      rw [hs] at hr
      have ho : opsA[i]? = some o := hi (i, o) (by simp)
      have hm : o ∈ opsA.toList := by
        rw [← Array.getElem?_toList] at ho; exact List.mem_of_getElem? ho
      rw [List.pairwise_cons] at hpw
      refine stepR_sound T0 hM h (hgl.le h.hle) ho (hP o hm) (fun d s q e => hf o (by simp) d s q e) (fr' := s.1) (O' := s.2) hs _ Q fun H' μ' a' w' hdef hI => ?_
      refine runR_sound T0 hM hgl hP ls hI (fun x hx => hi x (by simp [hx])) hpw.2 (fun o' ho' d t r e1 e2 e3 => ?_) hr fun H'' μ'' a'' w'' hd2 hI2 => hQ H'' μ'' a'' w'' (hd2.trans hdef) hI2
      refine stepR_u (o := o) hs (fun e => ?_) (hf o' (by simp [ho']) d t r e1 e2 e3)
      exact hpw.1 o' ho' d t r e e2 e3 e1
end Go.Ev
namespace Go.Ev
open Go
theorem eqPath_eq : ∀ (p q : Path), eqPath p q = true → p = q
  | [], [], _ => rfl
  | [], _ :: _, h => by simp [eqPath] at h
  | _ :: _, [], h => by simp [eqPath] at h
  | (s, w) :: p, (t, z) :: q, h => by
    simp only [eqPath, Bool.and_eq_true, beq_iff_eq] at h
    obtain ⟨⟨h1, h2⟩, h3⟩ := h
    rw [Nat.eq_of_beq_eq_true h1, h2, eqPath_eq p q h3]
theorem gOK_paths {ops : List Oper} {G : List (Nat × Path)} : ∀ (l : List Oper), gOK ops G l = true → ∀ o ∈ l, ∀ d p, o.dst = some d → pathOf ops G o = some p → (p = [] ∧ look d G = none) ∨ (p ≠ [] ∧ look d G = some p)
  | [], _, o, ho => by cases ho
  | q :: r, h, o, ho => by
    simp only [gOK, Bool.and_eq_true] at h
    cases ho with
    | tail _ hm => exact gOK_paths r h.2 o hm
    | head =>
      intro d p e1 e2
      have h1 := h.1
      rw [e1, e2] at h1
      dsimp only at h1
      cases hl : look d G with
      | none =>
        rw [hl] at h1
        cases p with
        | nil => exact .inl ⟨rfl, rfl⟩
        | cons x p => cases h1
      | some q' =>
        rw [hl] at h1
        cases p with
        | nil => cases h1
        | cons x p => exact .inr ⟨by simp, by rw [eqPath_eq _ _ h1]⟩
theorem look_mem : ∀ (G : List (Nat × Path)) (s : Nat) (q : Path), look s G = some q → (s, q) ∈ G
  | [], s, q, h => by cases h
  | (t, p) :: r, s, q, h => by
    simp only [look] at h
    split at h
    · rename_i e
      cases h
      rw [Nat.eq_of_beq_eq_true e]; simp
    · exact List.mem_cons_of_mem _ (look_mem r s q h)
theorem hasN_iff {l : List Nat} {n : Nat} : hasN l n = true ↔ n ∈ l := by
  simp [hasN, List.any_eq_true]
theorem single_slot {G : List (Nat × Path)} {s : Nat} {q : Path} (h : look s G = some q) : s ∈ singles G ∧ ∀ d ∈ slotsOf q, d ∈ singles G := by
  have hm := look_mem G s q h
  refine ⟨List.mem_flatMap.2 ⟨(s, q), hm, by simp⟩, fun d hd => List.mem_flatMap.2 ⟨(s, q), hm, by simp only [List.mem_cons]; exact .inr hd⟩⟩
theorem once_apart {G : List (Nat × Path)} : ∀ (l : List Oper), onceOK (singles G) l = true → l.Pairwise (Apart G)
  | [], _ => .nil
  | o :: r, h => by
    simp only [onceOK] at h
    refine List.pairwise_cons.2 ⟨fun q hq d s p e1 e2 e3 e4 => ?_, ?_⟩
    · rw [e1] at h
      dsimp only at h
      rw [hasN_iff.2 ((single_slot e2).2 d e3), Bool.and_eq_true] at h
      have h1 := h.1
      dsimp only at h1
      rw [List.all_eq_true] at h1
      have := h1 q hq
      rw [e4] at this
      simp at this
    · refine once_apart r ?_
      cases hd : o.dst with
      | none => rw [hd] at h; exact h
      | some d => rw [hd, Bool.and_eq_true] at h; exact h.2
theorem Apart.symm {G : List (Nat × Path)} {o q : Oper} (h : Apart G o q) : Apart G q o := fun d s r e1 e2 e3 e4 => h d s r e4 e2 e3 e1
theorem len_clean : ∀ (S : List Nat) (fr : List V), (clean S fr).length = fr.length
  | [], fr => rfl
  | s :: S, fr => by
    have := len_clean S (fr.set s .u)
    simp only [clean, List.foldl_cons] at this ⊢
    rw [this]; simp
theorem get_clean : ∀ (S : List Nat) (fr : List V) (s : Nat) (v : V), (clean S fr)[s]? = some v → (v = .u ∨ fr[s]? = some v) ∧ (s ∈ S → v = .u)
  | [], fr, s, v, h => ⟨.inr h, fun hm => by cases hm⟩
  | t :: S, fr, s, v, h => by
    have h' : (clean S (fr.set t .u))[s]? = some v := h
    obtain ⟨h1, h2⟩ := get_clean S (fr.set t .u) s v h'
    by_cases e : t = s
    · subst e
      have hv : v = .u := by
        rcases h1 with h1 | h1
        · exact h1
        · have hl := lt_of_get h1
          rw [List.getElem?_set_self (by simpa using hl)] at h1
          cases h1; rfl
      exact ⟨.inl hv, fun _ => hv⟩
    · refine ⟨?_, fun hm => ?_⟩
      · rcases h1 with h1 | h1
        · exact .inl h1
        · rw [List.getElem?_set_ne e] at h1; exact .inr h1
      · cases hm with
        | head => exact absurd rfl e
        | tail _ hm => exact h2 hm
theorem clean_u {S : List Nat} {fr : List V} {s : Nat} (h : s ∈ S) : (clean S fr).getD s .u = .u := by
  cases hg : (clean S fr)[s]? with
  | none => simp [List.getD, hg]
  | some v => simp [List.getD, hg, (get_clean S fr s v hg).2 h]
theorem Inv.forget {g : Gh} {G G' : List (Nat × Path)} {H : HM} {μ : MU} {fr fr' : List V} {O : List Ob} {tmps : Array Value} {w : World} (h : Inv g G H μ fr O tmps w) (hl : fr'.length = fr.length)
    (hs : ∀ (s : Nat) v, fr'[s]? = some v → v = .u ∨ (fr[s]? = some v ∧ look s G = none ∧ look s G' = none)) : Inv g G' H μ fr' O tmps w := by
  have own : ∀ q b, owns fr' O μ tmps w q b → owns fr O μ tmps w q b := by
    intro q b hq
    rcases hq with h1 | ⟨v, x, h1, hb⟩
    · exact .inl h1
    · cases q with
      | obj n => cases h1
      | cell n j => exact .inr ⟨v, x, h1, hb⟩
      | slot s =>
        rcases hs s v h1.1 with rfl | ⟨h2, _⟩
        · simp [blkOf] at hb
        · exact .inr ⟨v, x, ⟨h2, h1.2⟩, hb⟩
  refine ⟨by rw [hl]; exact h.len, fun s v x h1 h2 => ?_, h.olen, h.obs, h.hob, h.agree, fun q q' b h1 h2 => h.uniq q q' b (own q b h1) (own q' b h2), fun q b h1 => h.rng q b (own q b h1), h.frame, h.hle, h.hnew, h.os, h.tape, h.output, h.size, h.mle⟩
  unfold SlotR
  rcases hs s v h1 with rfl | ⟨h3, h4, h5⟩
  · cases look s G' with
    | none => exact .of_dis (.u _) rfl
    | some q => exact .inl rfl
  · have := h.slots s v x h3 h2
    unfold SlotR at this
    rw [h4] at this
    rw [h5]
    exact this
theorem Inv.clean {g : Gh} {G : List (Nat × Path)} {H : HM} {μ : MU} {fr : List V} {O : List Ob} {tmps : Array Value} {w : World} (h : Inv g [] H μ fr O tmps w) : Inv g G H μ (clean (singles G) fr) O tmps w :=
  h.forget (len_clean _ _) fun s v hv => by
    obtain ⟨h1, h2⟩ := get_clean _ _ s v hv
    rcases h1 with h1 | h1
    · exact .inl h1
    · cases hl : look s G with
      | none => exact .inr ⟨h1, rfl, rfl⟩
      | some q => exact .inl (h2 (single_slot hl).1)
theorem Inv.unclean {g : Gh} {G : List (Nat × Path)} {H : HM} {μ : MU} {fr : List V} {O : List Ob} {tmps : Array Value} {w : World} (h : Inv g G H μ fr O tmps w) : Inv g [] H μ (Ev.clean (singles G) fr) O tmps w :=
  h.forget (len_clean _ _) fun s v hv => by
    obtain ⟨h1, h2⟩ := get_clean _ _ s v hv
    rcases h1 with h1 | h1
    · exact .inl h1
    · cases hl : look s G with
      | none => exact .inr ⟨h1, rfl, rfl⟩
      | some q => exact .inl (h2 (single_slot hl).1)
theorem fresh_clean {G : List (Nat × Path)} {l : List Oper} {fr : List V} : FreshFr G l (clean (singles G) fr) := fun _ _ d s r _ e2 e3 => clean_u ((single_slot e2).2 d e3)
end Go.Ev
namespace Go.Ev
open Go
def opsAt (ops : Array Oper) (l : List Nat) : List (Nat × Oper) := l.map fun i => (i, ops.toList.getD i default)
theorem opsAt_fst (ops : Array Oper) (l : List Nat) : (opsAt ops l).map (·.1) = l := by simp [opsAt, Function.comp_def]
theorem opsAt_range (ops : Array Oper) : (opsAt ops (List.range ops.size)).map (·.2) = ops.toList := by
  apply List.ext_getElem?
  intro i
  simp only [opsAt, List.map_map, List.getElem?_map]
  by_cases h : i < ops.size
  · rw [List.getElem?_range h]
    simp [List.getD, h]
  · rw [List.getElem?_eq_none (by simpa using h), List.getElem?_eq_none (by simpa using h)]
    rfl
theorem opsAt_get {ops : Array Oper} {l : List Nat} (hl : ∀ i ∈ l, i < ops.size) : ∀ x ∈ opsAt ops l, ops[x.1]? = some x.2 := by
  intro x hx
  simp only [opsAt, List.mem_map] at hx
  obtain ⟨i, hi, rfl⟩ := hx
  have := hl i hi
  simp [List.getD, this]
theorem region_order {P : Program} {cx : Cx} (T0 : TabOK P cx) (hM : ModelsOK P cx) {g : Gh} (hgl : GlOK cx.gl g.H0) {ops : Array Oper} (h1 : onceOK (singles (guarded ops.toList ops.toList [])) ops.toList = true) (h2 : gOK ops.toList (guarded ops.toList ops.toList []) ops.toList = true)
    {Q : Exit → Act → World → Prop} {fr fr' : List V} {O O' : List Ob} {H : HM} {μ : MU} {a : Act} {w : World} (h : Inv g [] H μ fr O a.tmps w) (l : List Nat) (hl : l.Perm (List.range ops.size))
    (hr : runR cx ops.toList (guarded ops.toList ops.toList []) ((opsAt ops l).map (·.2)) (clean (singles (guarded ops.toList ops.toList [])) fr) O = some (fr', O'))
    (hQ : ∀ H' μ' a' w', a'.defers = a.defers → Inv g [] H' μ' (clean (singles (guarded ops.toList ops.toList [])) fr') O' a'.tmps w' → Q .normal a' w') : wpOps P ops Q l a w := by
  have hin : ∀ i ∈ l, i < ops.size := fun i hi => by simpa using (hl.mem_iff).1 hi
  have hperm : ((opsAt ops l).map (·.2)).Perm ops.toList := by
    rw [← opsAt_range]
    exact (hl.map _).map _
  have := runR_sound T0 hM hgl (G := guarded ops.toList ops.toList []) (gOK_paths ops.toList h2) (Q := Q) (opsAt ops l) h.clean (opsAt_get hin)
    ((hperm.pairwise_iff (fun h => Apart.symm h)).2 (once_apart _ h1)) fresh_clean hr fun H' μ' a' w' hd hI => hQ H' μ' a' w' hd hI.unclean
  rw [opsAt_fst] at this
  exact this
end Go.Ev
namespace Go.Ev
open Go
def AgreeF (l : List Nat) (fr fr2 : List V) : Prop := ∀ s ∈ l, fr.getD s .u = fr2.getD s .u
def AgreeO (t : Touch) (O O2 : List Ob) : Prop := (∀ n, n ∈ t.rs ∨ n ∈ t.ws → O[n]? = O2[n]?) ∧ (t.al = true → O.length = O2.length)
theorem ov_local {cx : Cx} {fr fr2 : List V} {x : Operand} (h : AgreeF (slotOf x) fr fr2) : ov cx fr2 x = ov cx fr x := by
  cases x with
  | tmp t => exact (h t (by simp [slotOf])).symm
  | _ => rfl
theorem argsV_local {cx : Cx} {fr fr2 : List V} : ∀ (xs : List Operand) (ts : List Nat), (∀ x ∈ xs, ov cx fr2 x = ov cx fr x) → argsV cx fr2 xs ts = argsV cx fr xs ts
  | [], [], _ => rfl
  | [], _ :: _, _ => rfl
  | _ :: _, [], _ => rfl
  | x :: r, t :: ts, h => by
    simp only [argsV]
    rw [argsV_local r ts (fun y hy => h y (by simp [hy])), h x (by simp)]
theorem getObs_local {O O2 : List Ob} : ∀ (ids : List Nat), (∀ n ∈ ids, O[n]? = O2[n]?) → getObs O2 ids = getObs O ids
  | [], _ => rfl
  | n :: r, h => by
    simp only [getObs]
    rw [getObs_local r (fun m hm => h m (by simp [hm])), h n (by simp)]
theorem loadV_local {cx : Cx} {t : Nat} {O O2 : List Ob} {v : V} (h : ∀ n ∈ refs1 v, O[n]? = O2[n]?) : loadV cx t O2 v = loadV cx t O v := by
  cases v <;> first | rfl | skip
  · simp only [loadV, obAt]; rw [h _ (by simp [refs1])]
  · simp only [loadV, obAt]; rw [h _ (by simp [refs1])]
theorem storeV_local {cx : Cx} {t : Nat} {O O2 : List Ob} {q v : V} (h : ∀ n ∈ refs1 q, O[n]? = O2[n]?) : storeV cx t O2 q v = storeV cx t O q v := by
  cases q <;> first | rfl | skip
  · simp only [storeV, obAt]; rw [h _ (by simp [refs1])]
  · simp only [storeV, obAt]; rw [h _ (by simp [refs1])]
theorem nrm_refs {cx : Cx} {t : Nat} {v : V} : refs1 (nrm cx t v) = refs1 v := by
  unfold nrm
  split
  · split
    · split <;> rfl
    · rfl
  · rfl
theorem idxV_local {cx : Cx} {t : Nat} {O O2 : List Ob} {x i : V} (h : ∀ n ∈ refs1 x, O[n]? = O2[n]?) : idxV cx t O2 x i = idxV cx t O x i := by
  have key : ∀ n, x = .ms n → O[n]? = O2[n]? := fun n e => h n (by rw [e]; simp [refs1])
  unfold idxV
  cases (cx.ti t).k <;> cases x <;> first | rfl | (cases i <;> first | rfl | (dsimp only; rw [key _ rfl]))
theorem lenV_local {cx : Cx} {t : Nat} {O O2 : List Ob} {x : V} (h : ∀ n ∈ refs1 x, O[n]? = O2[n]?) : lenV cx t O2 x = lenV cx t O x := by
  have key : ∀ n, x = .ms n → O[n]? = O2[n]? := fun n e => h n (by rw [e]; simp [refs1])
  unfold lenV
  cases (cx.ti t).k <;> cases x <;> first | rfl | (dsimp only; rw [key _ rfl])
theorem clearV_local {cx : Cx} {t : Nat} {O O2 : List Ob} {x : V} (h : ∀ n ∈ refs1 x, O[n]? = O2[n]?) : clearV cx t O2 x = clearV cx t O x := by
  have key : ∀ n, x = .ms n → O[n]? = O2[n]? := fun n e => h n (by rw [e]; simp [refs1])
  unfold clearV
  cases x <;> cases (cx.ti t).k <;> first | rfl | (dsimp only; rw [key _ rfl])
theorem copyV_local {cx : Cx} {t : Nat} {O O2 : List Ob} {x y : V} (h : ∀ n ∈ refs1 x, O[n]? = O2[n]?) : copyV cx t O2 x y = copyV cx t O x y := by
  have key : ∀ n, x = .ms n → O[n]? = O2[n]? := fun n e => h n (by rw [e]; simp [refs1])
  unfold copyV
  cases x <;> cases y <;> cases (cx.ti t).k <;> first | rfl | (dsimp only; rw [key _ rfl])
end Go.Ev
namespace Go.Ev
open Go
theorem argsV_refs {cx : Cx} {fr : List V} : ∀ (xs : List Operand) (ts : List Nat) (vs : List V), argsV cx fr xs ts = some vs → ∀ v ∈ vs, ∃ x ∈ xs, refs1 v = refs1 (ov cx fr x)
  | [], [], vs, h => by simp only [argsV] at h; cases h; intro v hv; cases hv
  | [], _ :: _, vs, h => by simp [argsV] at h
  | _ :: _, [], vs, h => by simp [argsV] at h
  | x :: r, t :: ts, vs, h => by
    simp only [argsV] at h
    split at h
    · rename_i vs' h'
      cases h
      intro v hv
      cases hv with
      | head => exact ⟨x, by simp, nrm_refs⟩
      | tail _ hm =>
        obtain ⟨y, h1, h2⟩ := argsV_refs r ts vs' h' v hm
        exact ⟨y, by simp [h1], h2⟩
    · cases h
def DelOK (t : Touch) (O : List Ob) : Del → Prop
  | .no => True
  | .new _ => t.al = true
  | .set n _ => n ∈ t.ws ∧ n < O.length
def StLoc (W : List Nat) (t : Touch) (O O2 : List Ob) : St → St → Prop
  | .no, st2 => st2 = .no
  | .pure ok v, st2 => st2 = .pure ok v
  | .eff ok v ds d, st2 => st2 = .eff ok v ds d ∧ (∀ s ∈ ds, s ∈ W) ∧ DelOK t O d
  | _, _ => False
section
variable {W : List Nat} {t : Touch} {O O2 : List Ob}
theorem StLoc.ofP {st : St} (h : st.isP = true) : StLoc W t O O2 st st := by
  cases st <;> first | rfl | cases h
theorem StLoc.ite {c : Prop} [Decidable c] {A B A2 B2 : St} (hA : StLoc W t O O2 A A2) (hB : StLoc W t O O2 B B2) : StLoc W t O O2 (if c then A else B) (if c then A2 else B2) := by
  split
  · exact hA
  · exact hB
theorem StLoc.eff {ok : Bool} {v : V} {ds : List Nat} {d : Del} (h1 : ∀ s ∈ ds, s ∈ W) (h2 : DelOK t O d) : StLoc W t O O2 (.eff ok v ds d) (.eff ok v ds d) := ⟨rfl, h1, h2⟩
theorem lt_of_some {n : Nat} {o : Ob} (h : O[n]? = some o) : n < O.length := by
  rcases Nat.lt_or_ge n O.length with h' | h'
  · exact h'
  · rw [List.getElem?_eq_none h'] at h; cases h
theorem appendV_loc (cx : Cx) (e : Nat) (x y : V) (s : List Nat) (hs : ∀ n ∈ s, n ∈ W) : StLoc W t O O2 (appendV cx e x y s) (appendV cx e x y s) := by
  unfold appendV
  split <;> (try split) <;> first | exact .eff hs trivial | rfl
theorem clearV_loc (cx : Cx) (e : Nat) (x : V) (h : ∀ n ∈ refs1 x, n ∈ t.ws) : StLoc W t O O2 (clearV cx e O x) (clearV cx e O x) := by
  unfold clearV
  split
  · split
    · rename_i h1 _
      split
      · exact .eff (fun _ h => by cases h) ⟨h _ (by simp [refs1]), lt_of_some h1⟩
      · rfl
    · rfl
  · rfl
theorem copyV_loc (cx : Cx) (e : Nat) (x y : V) (h : ∀ n ∈ refs1 x, n ∈ t.ws) : StLoc W t O O2 (copyV cx e O x y) (copyV cx e O x y) := by
  unfold copyV
  split
  · split
    · rename_i h1
      split
      · exact .eff (fun _ h => by cases h) ⟨h _ (by simp [refs1]), lt_of_some h1⟩
      · rfl
    · rfl
  · rfl
theorem builtinV_loc {cx : Cx} {bt : Builtin} {xs : List Operand} {ts : List Nat} {fr fr2 : List V} (hx : ∀ x ∈ xs, ov cx fr2 x = ov cx fr x) (hO : ∀ x ∈ xs, ∀ n ∈ refs1 (ov cx fr x), O[n]? = O2[n]?)
    (hW : bt = .append → ∀ x ∈ xs.head?, ∀ s ∈ slotOf x, s ∈ W) (ht : bt ≠ .len → ∀ x ∈ xs, ∀ n ∈ refs1 (ov cx fr x), n ∈ t.ws) :
    StLoc W t O O2 (builtinV cx bt xs ts fr O) (builtinV cx bt xs ts fr2 O2) := by
  have hv : ∀ vs, argsV cx fr xs ts = some vs → ∀ v ∈ vs, (∀ n ∈ refs1 v, O[n]? = O2[n]?) ∧ (bt ≠ .len → ∀ n ∈ refs1 v, n ∈ t.ws) := fun vs h v hm => by
    obtain ⟨x, h1, h2⟩ := argsV_refs xs ts vs h v hm
    rw [h2]; exact ⟨hO x h1, fun e => ht e x h1⟩
  unfold builtinV
  rw [argsV_local xs ts hx]
  generalize argsV cx fr xs ts = r at hv
  split
  · rename_i v
    have h1 := hv _ rfl v (by simp)
    rw [lenV_local h1.1]
    split <;> rfl
  · exact .ofP (ofOpt_isP _)
  · exact .ofP (ofOpt_isP _)
  · split
    · exact appendV_loc _ _ _ _ _ (hW rfl _ rfl)
    · rfl
  · rename_i a
    have h1 := hv _ rfl a (by simp)
    rw [clearV_local h1.1]
    exact clearV_loc _ _ _ (h1.2 (by simp))
  · rename_i a b
    have h1 := hv _ rfl a (by simp)
    split
    · rw [copyV_local h1.1]
      exact copyV_loc _ _ _ _ (h1.2 (by simp))
    · rfl
  · rfl
inductive SF where
  | no
  | tot (v : V) (ids : List Nat) (os : List Ob)
  | call (r : Shp) (os : List ObS) (ro : Bool) (x : Option (ShT r × ObTs os)) (ids : List Nat) (osv : List Ob)
def SF.at (O : List Ob) : SF → St
  | .no => .no
  | .tot v ids os => .tot v (setObs O ids os)
  | .call r os ro x ids osv => .call r os ro x ids (setObs O ids osv)
def SF.ids : SF → List Nat
  | .no => []
  | .tot _ ids _ => ids
  | .call _ _ _ _ ids _ => ids
theorem callG_loc {cx : Cx} {g : Nat} {vs : List V} (ht : ∀ v ∈ vs, ∀ n ∈ refs1 v, n ∈ t.ws) : ∃ F : SF, (∀ n ∈ F.ids, n ∈ t.ws ∧ n < O.length) ∧ ∀ O2, (∀ n, n ∈ t.ws → O[n]? = O2[n]?) → callG cx g vs O2 = F.at O2 := by
  have hget : ∀ O2 : List Ob, (∀ n, n ∈ t.ws → O[n]? = O2[n]?) → getObs O2 (refsAll vs) = getObs O (refsAll vs) := fun O2 hO => getObs_local (refsAll vs) fun n hn => by
    obtain ⟨v, h1, h2⟩ := (mem_refsAll vs n).1 hn
    exact hO n (ht v h1 n h2)
  unfold callG
  dsimp only
  cases hok : vs.all argOK with
  | false => exact ⟨.no, fun n h => by (cases h), fun O2 hO => rfl⟩
  | true =>
    cases hos : getObs O (refsAll vs) with
    | none => exact ⟨.no, fun n h => by (cases h), fun O2 hO => by rw [hget O2 hO, hos]; rfl⟩
    | some os =>
      obtain ⟨hg1, hg2⟩ := getObs_get _ _ _ hos
      have hids : ∀ n ∈ refsAll vs, n ∈ t.ws ∧ n < O.length := fun n hn => by
        obtain ⟨v, h1, h2⟩ := (mem_refsAll vs n).1 hn
        obtain ⟨k, hk⟩ := List.mem_iff_getElem?.1 hn
        obtain ⟨ob, h3, _⟩ := hg2 k n hk
        exact ⟨ht v h1 n h2, lt_of_some h3⟩
      have key : ∀ l : List FM, ∃ F : SF, (∀ n ∈ F.ids, n ∈ t.ws ∧ n < O.length) ∧ ∀ O2, pickFM ((vs.map V.dis).map (ren (idxOf (refsAll vs)))) os (refsAll vs) O2 l = F.at O2 := by
        intro l
        induction l with
        | nil => exact ⟨.no, fun n h => by (cases h), fun O2 => rfl⟩
        | cons m r ih =>
          simp only [pickFM]
          split
          · rename_i a0 o0 h1 h2
            split
            · exact ⟨.tot _ _ _, hids, fun O2 => rfl⟩
            · exact ⟨.call _ _ _ _ _ _, hids, fun O2 => rfl⟩
          · exact ih
      obtain ⟨F, h1, h2⟩ := key (cx.cm g)
      exact ⟨F, h1, fun O2 hO => by rw [hget O2 hO, hos]; exact h2 O2⟩
end
end Go.Ev
namespace Go.Ev
open Go
theorem StLoc.iteH {W : List Nat} {t : Touch} {O O2 : List Ob} {c : Prop} [Decidable c] {A B A2 B2 : St} (hA : c → StLoc W t O O2 A A2) (hB : ¬c → StLoc W t O O2 B B2) : StLoc W t O O2 (if c then A else B) (if c then A2 else B2) := by
  split
  · exact hA ‹_›
  · exact hB ‹_›
theorem parts_local {cx : Cx} {fr fr2 : List V} (ps : List (Nat × Operand)) (h : ∀ p ∈ ps, ov cx fr2 p.2 = ov cx fr p.2) : (ps.map fun p => (p.1, ov cx fr2 p.2)) = ps.map fun p => (p.1, ov cx fr p.2) :=
  List.map_congr_left fun p hp => by rw [h p hp]
theorem parts_local' {cx : Cx} {e : Nat} {fr fr2 : List V} (ps : List (Nat × Operand)) (h : ∀ p ∈ ps, ov cx fr2 p.2 = ov cx fr p.2) : (ps.map fun p => (p.1, nrm cx e (ov cx fr2 p.2))) = ps.map fun p => (p.1, nrm cx e (ov cx fr p.2)) :=
  List.map_congr_left fun p hp => by rw [h p hp]
theorem flat_mem {cx : Cx} {fr : List V} {xs : List Operand} {x : Operand} (hx : x ∈ xs) {n : Nat} (hn : n ∈ refs1 (ov cx fr x)) : n ∈ xs.flatMap fun x => refs1 (ov cx fr x) := List.mem_flatMap.2 ⟨x, hx, hn⟩
theorem refs_nil_of {v : V} (h : ref1 v = false) (hf : ∀ g caps, v ≠ .fn g caps) : refs1 v = [] := by
  cases v <;> first | rfl | (simp [ref1] at h; done) | exact absurd rfl (hf _ _)
theorem storeV_del {cx : Cx} {e : Nat} {O : List Ob} {q v : V} {d : Del} (h : storeV cx e O q v = some d) {t : Touch} (ht : ∀ n ∈ refs1 q, n ∈ t.ws) : DelOK t O d := by
  unfold storeV at h
  split at h
  · split at h
    · rename_i h1
      split at h
      · cases h; exact ⟨ht _ (by simp [refs1]), lt_of_some h1⟩
      · cases h
    · cases h
  · split at h
    · rename_i h1
      dsimp only at h
      split at h
      · split at h
        · cases h; exact ⟨ht _ (by simp [refs1]), lt_of_some h1⟩
        · cases h
      · cases h
    · cases h
  · cases h
def isCallV (o : Oper) : Bool := match o.op with
  | .call c => (match c.callee with | .value _ => true | _ => false)
  | _ => false
theorem stepCall_loc {cx : Cx} {ops : List Oper} {o : Oper} {rd : Operand → Bool} {fr : List V} {O : List Ob} (hc : isCallV o = true) :
    ∃ F : SF, (∀ n ∈ F.ids, n ∈ (touchOf cx o fr O).ws ∧ n < O.length) ∧ ∀ fr2 O2, (∀ x ∈ o.op.operands.toList, ov cx fr2 x = ov cx fr x) → AgreeO (touchOf cx o fr O) O O2 → stepOp cx ops o rd fr2 O2 = F.at O2 := by
  unfold stepOp
  cases hall : o.op.operands.toList.all rd with
  | false => exact ⟨.no, fun n h => by (cases h), fun _ _ _ _ => rfl⟩
  | true =>
    simp only [if_true]
    unfold isCallV at hc
    split at hc
    · rename_i c ho
      split at hc
      · rename_i f hf
        have hxa : ∀ fr2, (∀ x ∈ o.op.operands.toList, ov cx fr2 x = ov cx fr x) → (∀ x ∈ c.args.toList, ov cx fr2 x = ov cx fr x) ∧ ov cx fr2 f = ov cx fr f := fun fr2 hx => by
          rw [ho] at hx
          exact ⟨fun x h => hx x (by simp only [Op.operands, Call.operands, Array.toList_append, List.mem_append]; exact .inr h), hx f (by simp [Op.operands, Call.operands, hf])⟩
        simp only [ho, hf]
        cases hv : ov cx fr f with
        | fn gf caps =>
          cases hvs : argsV cx fr c.args.toList c.argTypes.toList with
          | none => exact ⟨.no, fun n h => by (cases h), fun fr2 O2 hx hO => by rw [← ho] at hx; rw [(hxa fr2 hx).2, hv]; dsimp only; rw [argsV_local _ _ (hxa fr2 hx).1, hvs]; rfl⟩
          | some vs =>
            have hw : (touchOf cx o fr O).ws = refsAll (c.args.toList.map (ov cx fr) ++ caps) := by simp only [touchOf, ho, hf, hv]
            have hin : ∀ v ∈ vs ++ caps, ∀ n ∈ refs1 v, n ∈ (touchOf cx o fr O).ws := by
              intro v hv n hn
              rw [hw, mem_refsAll]
              rw [List.mem_append] at hv
              rcases hv with hv | hv
              · obtain ⟨x, h1, h2⟩ := argsV_refs _ _ _ hvs v hv
                exact ⟨ov cx fr x, List.mem_append_left _ (List.mem_map_of_mem h1), by rw [← h2]; exact hn⟩
              · exact ⟨v, List.mem_append_right _ hv, hn⟩
            obtain ⟨F, h1, h2⟩ := callG_loc (cx := cx) (g := gf) (O := O) hin
            exact ⟨F, h1, fun fr2 O2 hx hO => by rw [← ho] at hx; rw [(hxa fr2 hx).2, hv]; dsimp only; rw [argsV_local _ _ (hxa fr2 hx).1, hvs]; exact h2 O2 fun n hn => hO.1 n (.inr hn)⟩
        | _ => exact ⟨.no, fun n h => by (cases h), fun fr2 O2 hx hO => by rw [← ho] at hx; rw [(hxa fr2 hx).2, hv]; rfl⟩
      · cases hc
    · cases hc
theorem stepOp_loc {cx : Cx} {ops : List Oper} {o : Oper} {rd : Operand → Bool} {fr fr2 : List V} {O O2 : List Ob} (hn : isCallV o = false) (hx : ∀ x ∈ o.op.operands.toList, ov cx fr2 x = ov cx fr x) (hO : AgreeO (touchOf cx o fr O) O O2) :
    StLoc (writesOf cx ops o) (touchOf cx o fr O) O O2 (stepOp cx ops o rd fr O) (stepOp cx ops o rd fr2 O2) := by
  unfold stepOp
  refine StLoc.ite ?_ rfl
  cases ho : o.op with
  | move x =>
    rw [ho] at hx
    dsimp only
    rw [hx x (by simp [Op.operands])]
    refine StLoc.iteH (fun hst => ?_) fun _ => rfl
    refine .eff (fun s hs => ?_) ?_
    · simp only [writesOf, ho]
      cases hd : o.dst with
      | none => rw [hd] at hst; cases hst
      | some d =>
        rw [hd] at hst
        dsimp only at hst ⊢
        rw [hst]
        exact List.mem_append_right _ hs
    · trivial
  | assign x =>
    rw [ho] at hx
    dsimp only
    rw [hx x (by simp [Op.operands])]
    refine .eff (fun s hs => ?_) ?_
    · simp only [writesOf, ho]
      exact List.mem_append_right _ hs
    · trivial
  | alloc e =>
    simp only [touchOf, ho, AgreeO] at hO ⊢
    rw [← hO.2 trivial]
    split
    · exact .eff (fun _ h => by cases h) rfl
    · rfl
  | box e x =>
    rw [ho] at hx
    simp only [touchOf, ho, AgreeO] at hO ⊢
    rw [hx x (by simp [Op.operands]), ← hO.2 trivial]
    refine StLoc.ite (.eff (fun s hs => ?_) rfl) rfl
    simp only [writesOf, ho]
    exact List.mem_append_right _ hs
  | build t parts =>
    rw [ho] at hx
    dsimp only
    rw [parts_local parts.toList fun p hp => hx p.2 (by simp only [Op.operands, List.mem_map]; exact ⟨p, hp, rfl⟩)]
    refine .ofP ?_
    split <;> (try split) <;> rfl
  | buildSlice t len parts =>
    rw [ho] at hx
    dsimp only
    cases (cx.ti t).k <;> first | rfl | skip
    rename_i e
    dsimp only
    rw [parts_local' parts.toList fun p hp => hx p.2 (by simp only [Op.operands, List.mem_map]; exact ⟨p, hp, rfl⟩)]
    refine .ofP ?_
    split <;> (try split) <;> (try split) <;> rfl
  | load e x =>
    rw [ho] at hx
    dsimp only
    have hx := hx x (by simp [Op.operands])
    simp only [touchOf, ho, AgreeO] at hO
    rw [hx, loadV_local fun n hn => hO.1 n (.inl hn)]
    exact .ofP (ofOpt_isP _)
  | store e a x =>
    rw [ho] at hx
    dsimp only
    have hx1 := hx a (by simp [Op.operands])
    have hx2 := hx x (by simp [Op.operands])
    have hw : (touchOf cx o fr O).ws = refs1 (ov cx fr a) := by simp only [touchOf, ho]
    simp only [AgreeO, hw] at hO
    rw [hx1, hx2, storeV_local fun n hn => hO.1 n (.inr hn)]
    split
    · rename_i d hd
      refine .eff (fun s hs => ?_) (storeV_del hd fun n hn => by rw [hw]; exact hn)
      simp only [writesOf, ho]
      exact List.mem_append_right _ hs
    · rfl
  | nilCheck x =>
    rw [ho] at hx
    dsimp only
    rw [hx x (by simp [Op.operands])]
    refine .ofP ?_
    split <;> rfl
  | binOp op e x y e' =>
    rw [ho] at hx
    dsimp only
    rw [hx x (by simp [Op.operands]), hx y (by simp [Op.operands])]
    exact .ofP (bin_isP ..)
  | unOp op e x =>
    rw [ho] at hx
    dsimp only
    rw [hx x (by simp [Op.operands])]
    exact .ofP (un_isP ..)
  | convert s d x =>
    rw [ho] at hx
    dsimp only
    rw [hx x (by simp [Op.operands])]
    refine .ofP ?_
    split <;> rfl
  | makeSlice e l c =>
    rw [ho] at hx
    simp only [touchOf, ho, AgreeO] at hO ⊢
    rw [hx l (by simp [Op.operands]), hx c (by simp [Op.operands]), ← hO.2 trivial]
    split
    · split
      · split
        · rfl
        · exact .eff (fun _ h => by cases h) rfl
      · rfl
    · rfl
  | makeFunc f first caps =>
    rw [ho] at hx
    dsimp only
    have : caps.toList.map (ov cx fr2) = caps.toList.map (ov cx fr) := List.map_congr_left fun x h => hx x (by simp only [Op.operands, Array.toList_append, List.mem_append]; exact .inr h)
    rw [this]
    refine .ofP ?_
    split <;> rfl
  | slice e x lo hi mx =>
    rw [ho] at hx
    cases mx with
    | some _ => rfl
    | none =>
      dsimp only
      have h1 : loV cx fr2 lo = loV cx fr lo := by
        cases lo with
        | none => rfl
        | some y => exact hx y (by simp [Op.operands])
      have h2 : hiV cx fr2 hi = hiV cx fr hi := by
        cases hi with
        | none => rfl
        | some y => simp only [hiV]; rw [hx y (by simp [Op.operands])]
      rw [hx x (by simp [Op.operands]), h1, h2]
      exact .ofP (sliceLH_isP ..)
  | fieldAddr s x f =>
    rw [ho] at hx
    dsimp only
    rw [hx x (by simp [Op.operands])]
    refine .ofP ?_
    split <;> rfl
  | field s x f =>
    rw [ho] at hx
    dsimp only
    rw [hx x (by simp [Op.operands])]
    refine .ofP ?_
    split
    · exact ofOpt_isP _
    · rfl
  | indexAddr e x ix =>
    rw [ho] at hx
    dsimp only
    simp only [touchOf, ho, AgreeO] at hO
    rw [hx x (by simp [Op.operands]), hx ix (by simp [Op.operands]), idxV_local (O := O) (O2 := O2) fun n hn => by rw [nrm_refs] at hn; exact hO.1 n (.inl hn)]
    exact .ofP (idxV_isP ..)
  | index e x ix =>
    rw [ho] at hx
    dsimp only
    rw [hx x (by simp [Op.operands]), hx ix (by simp [Op.operands])]
    exact .ofP (indexV_isP ..)
  | extract x i =>
    rw [ho] at hx
    dsimp only
    rw [hx x (by simp [Op.operands])]
    refine .ofP ?_
    split
    · exact ofOpt_isP _
    · rfl
  | call c =>
    rw [ho] at hx
    have hxa : ∀ x ∈ c.args.toList, ov cx fr2 x = ov cx fr x := fun x h => hx x (by simp only [Op.operands, Call.operands, Array.toList_append, List.mem_append]; exact .inr h)
    dsimp only
    cases hc : c.callee with
    | invoke r m => rfl
    | builtin bt =>
      dsimp only
      have hcases : (bt = .len ∧ (touchOf cx o fr O).rs = c.args.toList.flatMap fun x => refs1 (ov cx fr x)) ∨ (bt ≠ .len ∧ (touchOf cx o fr O).ws = c.args.toList.flatMap fun x => refs1 (ov cx fr x)) := by
        simp only [touchOf, ho, hc]
        cases bt <;> simp
      refine builtinV_loc hxa (fun x h n hn => ?_) (fun e x h s hs => ?_) (fun e x h n hn => ?_)
      · rcases hcases with ⟨_, h1⟩ | ⟨_, h1⟩
        · exact hO.1 n (.inl (by rw [h1]; exact flat_mem h hn))
        · exact hO.1 n (.inr (by rw [h1]; exact flat_mem h hn))
      · subst e
        simp only [writesOf, ho, hc]
        refine List.mem_append_right _ ?_
        cases hl : c.args.toList with
        | nil => rw [hl] at h; cases h
        | cons y r => rw [hl] at h; cases h; exact hs
      · rcases hcases with ⟨h0, _⟩ | ⟨_, h1⟩
        · exact absurd h0 e
        · rw [h1]; exact flat_mem h hn
    | value f => unfold isCallV at hn; rw [ho] at hn; dsimp only at hn; rw [hc] at hn; cases hn
  | _ => rfl
theorem pickOp_loc {cx : Cx} {G : List (Nat × Path)} {p : Path} {fr fr2 : List V} {c a b : Operand} (hc : ov cx fr2 c = ov cx fr c) (ha : ov cx fr2 a = ov cx fr a) (hb : ov cx fr2 b = ov cx fr b) : pickOp cx G p fr2 c a b = pickOp cx G p fr c a b := by
  unfold pickOp
  cases c <;> first | rfl | skip
  dsimp only
  rw [hc, ha, hb]
theorem stepAt_loc {cx : Cx} {ops : List Oper} {G : List (Nat × Path)} {o : Oper} {p : Path} {fr fr2 : List V} {O O2 : List Ob} (hn : isCallV o = false) (hx : ∀ x ∈ o.op.operands.toList, ov cx fr2 x = ov cx fr x) (hO : AgreeO (touchOf cx o fr O) O O2) :
    StLoc (writesOf cx ops o) (touchOf cx o fr O) O O2 (stepAt cx ops G o p fr O) (stepAt cx ops G o p fr2 O2) := by
  unfold stepAt
  split
  · rename_i c a b ho
    rw [ho] at hx
    rw [pickOp_loc (hx c (by simp [Op.operands])) (hx a (by simp [Op.operands])) (hx b (by simp [Op.operands]))]
    exact .ofP (pickOp_isP ..)
  · exact stepOp_loc hn hx hO
theorem stepAt_call {cx : Cx} {ops : List Oper} {G : List (Nat × Path)} {o : Oper} {p : Path} {fr : List V} {O : List Ob} (hc : isCallV o = true) :
    ∃ F : SF, (∀ n ∈ F.ids, n ∈ (touchOf cx o fr O).ws ∧ n < O.length) ∧ ∀ fr2 O2, (∀ x ∈ o.op.operands.toList, ov cx fr2 x = ov cx fr x) → AgreeO (touchOf cx o fr O) O O2 → stepAt cx ops G o p fr2 O2 = F.at O2 := by
  unfold stepAt
  split
  · rename_i c a b ho
    unfold isCallV at hc
    rw [ho] at hc
    cases hc
  · exact stepCall_loc hc
theorem touchOf_loc {cx : Cx} {o : Oper} {fr fr2 : List V} {O O2 : List Ob} (hx : ∀ x ∈ o.op.operands.toList, ov cx fr2 x = ov cx fr x) (hO : AgreeO (touchOf cx o fr O) O O2) : touchOf cx o fr2 O2 = touchOf cx o fr O := by
  cases ho : o.op with
  | load e x => rw [ho] at hx; simp only [touchOf, ho]; rw [hx x (by simp [Op.operands])]
  | indexAddr e x ix => rw [ho] at hx; simp only [touchOf, ho]; rw [hx x (by simp [Op.operands])]
  | store e a x => rw [ho] at hx; simp only [touchOf, ho]; rw [hx a (by simp [Op.operands])]
  | alloc e => simp only [touchOf, ho, AgreeO] at hO ⊢; rw [hO.2 trivial]
  | box e x => simp only [touchOf, ho, AgreeO] at hO ⊢; rw [hO.2 trivial]
  | makeSlice e l c => simp only [touchOf, ho, AgreeO] at hO ⊢; rw [hO.2 trivial]
  | call c =>
    rw [ho] at hx
    have hxa : ∀ x ∈ c.args.toList, ov cx fr2 x = ov cx fr x := fun x h => hx x (by simp only [Op.operands, Call.operands, Array.toList_append, List.mem_append]; exact .inr h)
    have h1 : (c.args.toList.flatMap fun x => refs1 (ov cx fr2 x)) = c.args.toList.flatMap fun x => refs1 (ov cx fr x) := by simp only [List.flatMap]; rw [List.map_congr_left fun x h => by rw [hxa x h]]
    have h2 : c.args.toList.map (ov cx fr2) = c.args.toList.map (ov cx fr) := List.map_congr_left hxa
    cases hc : c.callee with
    | invoke r m => simp only [touchOf, ho, hc]
    | builtin bt => cases bt <;> simp only [touchOf, ho, hc, h1]
    | value f => simp only [touchOf, ho, hc]; rw [hx f (by simp [Op.operands, Call.operands, hc]), h2]
  | _ => simp only [touchOf, ho]
end Go.Ev
namespace Go.Ev
open Go
def setL (O : List Ob) : List (Nat × Ob) → List Ob
  | [] => O
  | x :: r => setL (O.set x.1 x.2) r
theorem setObs_setL : ∀ (ids : List Nat) (O os : List Ob), ∃ l, (∀ O2, setObs O2 ids os = setL O2 l) ∧ ∀ x ∈ l, x.1 ∈ ids
  | [], O, os => ⟨[], fun O2 => by cases os <;> rfl, fun x h => by cases h⟩
  | n :: r, O, [] => ⟨[], fun O2 => rfl, fun x h => by cases h⟩
  | n :: r, O, o :: os => by
    obtain ⟨l, h1, h2⟩ := setObs_setL r O os
    refine ⟨(n, o) :: l, fun O2 => by rw [setObs, h1]; rfl, fun x h => ?_⟩
    cases h with
    | head => simp
    | tail _ h => exact List.mem_cons_of_mem _ (h2 x h)
theorem len_setL : ∀ (l : List (Nat × Ob)) (O : List Ob), (setL O l).length = O.length
  | [], O => rfl
  | x :: r, O => by rw [setL, len_setL]; simp
theorem setL_set_comm {n : Nat} {o : Ob} : ∀ (l : List (Nat × Ob)) (O : List Ob), (∀ x ∈ l, x.1 ≠ n) → setL (O.set n o) l = (setL O l).set n o
  | [], O, _ => rfl
  | x :: r, O, h => by
    rw [setL, setL, List.set_comm _ _ (fun e => h x (by simp) e.symm), setL_set_comm r _ fun y hy => h y (by simp [hy])]
theorem setL_comm : ∀ (a b : List (Nat × Ob)) (O : List Ob), (∀ x ∈ a, ∀ y ∈ b, x.1 ≠ y.1) → setL (setL O a) b = setL (setL O b) a
  | [], b, O, _ => rfl
  | x :: a, b, O, h => by
    rw [setL, setL_comm a b _ fun y hy => h y (by simp [hy]), setL, setL_set_comm b O fun y hy e => h x (by simp) y hy e.symm]
theorem setL_app : ∀ (l : List (Nat × Ob)) (O nw : List Ob), (∀ x ∈ l, x.1 < O.length) → setL (O ++ nw) l = setL O l ++ nw
  | [], O, nw, _ => rfl
  | x :: r, O, nw, h => by
    rw [setL, setL, List.set_append_left _ _ (h x (by simp)), setL_app r _ _ fun y hy => by simpa using h y (by simp [hy])]
theorem setL_out : ∀ (l : List (Nat × Ob)) (O : List Ob) (n : Nat), (∀ x ∈ l, x.1 ≠ n) → (setL O l)[n]? = O[n]?
  | [], O, n, _ => rfl
  | x :: r, O, n, h => by rw [setL, setL_out r _ n fun y hy => h y (by simp [hy]), List.getElem?_set_ne (h x (by simp))]
structure Dl where
  ds : List Nat
  v : V
  sets : List (Nat × Ob)
  nw : List Ob
def Dl.fr (o : Oper) (d : Dl) (fr : List V) : List V := put (disAll fr d.ds) o.dst d.v
def Dl.ob (d : Dl) (O : List Ob) : List Ob := setL O d.sets ++ d.nw
def Dl.OK (cx : Cx) (ops : List Oper) (o : Oper) (t : Touch) (O : List Ob) (d : Dl) : Prop :=
  (∀ s ∈ d.ds, s ∈ writesOf cx ops o) ∧ (∀ x ∈ d.sets, x.1 ∈ t.ws ∧ x.1 < O.length) ∧ (d.nw = [] ∨ ∃ ob, d.nw = [ob] ∧ t.al = true)
theorem agree_ready {fr fr2 : List V} {p : Path} (h : AgreeF (slotsOf p) fr fr2) : ready fr2 p = ready fr p ∧ pcOf fr2 p = pcOf fr p := by
  have hh : ∀ s ∈ slotsOf p, ∀ c, fr2.getD s .u = .b c ↔ fr.getD s .u = .b c := fun s hs c => by rw [h s hs]
  exact ⟨ready_congr hh, pcOf_congr hh⟩
section
variable {cx : Cx} {ops : List Oper} {G : List (Nat × Path)} {o : Oper} {fr : List V} {O : List Ob}
inductive Shape (W : List Nat) (t : Touch) (O : List Ob) : (List Ob → St) → Prop
  | no : Shape W t O (fun _ => .no)
  | pure (ok : Bool) (v : V) : Shape W t O (fun _ => .pure ok v)
  | eff (ok : Bool) (v : V) (ds : List Nat) (d : Del) (h1 : ∀ s ∈ ds, s ∈ W) (h2 : DelOK t O d) : Shape W t O (fun _ => .eff ok v ds d)
  | tot (v : V) (ids : List Nat) (os : List Ob) (h : ∀ n ∈ ids, n ∈ t.ws ∧ n < O.length) : Shape W t O (fun O2 => .tot v (setObs O2 ids os))
  | call (r : Shp) (os : List ObS) (ro : Bool) (x : Option (ShT r × ObTs os)) (ids : List Nat) (osv : List Ob) (h : ∀ n ∈ ids, n ∈ t.ws ∧ n < O.length) : Shape W t O (fun O2 => .call r os ro x ids (setObs O2 ids osv))
theorem stepAt_shape {p : Path} : ∃ F, Shape (writesOf cx ops o) (touchOf cx o fr O) O F ∧ ∀ fr2 O2, (∀ x ∈ o.op.operands.toList, ov cx fr2 x = ov cx fr x) → AgreeO (touchOf cx o fr O) O O2 → stepAt cx ops G o p fr2 O2 = F O2 := by
  cases hc : isCallV o with
  | true =>
    obtain ⟨F, h1, h2⟩ := stepAt_call (cx := cx) (ops := ops) (G := G) (p := p) (fr := fr) (O := O) hc
    refine ⟨fun O2 => F.at O2, ?_, h2⟩
    cases F with
    | no => exact .no
    | tot v ids os => exact .tot v ids os h1
    | call r os ro x ids osv => exact .call r os ro x ids osv h1
  | false =>
    refine ⟨fun _ => stepAt cx ops G o p fr O, ?_, fun fr2 O2 hx hO => ?_⟩
    · have h := stepAt_loc (cx := cx) (ops := ops) (G := G) (p := p) (fr := fr) (fr2 := fr) (O := O) (O2 := O) hc (fun _ _ => rfl) ⟨fun _ _ => rfl, fun _ => rfl⟩
      cases hst : stepAt cx ops G o p fr O with
      | no => exact .no
      | pure ok v => exact .pure ok v
      | eff ok v ds d => rw [hst] at h; exact .eff ok v ds d h.2.1 h.2.2
      | tot v O' => rw [hst] at h; exact h.elim
      | call r os ro x ids O' => rw [hst] at h; exact h.elim
    · have h := stepAt_loc (cx := cx) (ops := ops) (G := G) (p := p) (fr := fr) (fr2 := fr2) (O := O) (O2 := O2) hc hx hO
      cases hst : stepAt cx ops G o p fr O with
      | no => rw [hst] at h; exact h
      | pure ok v => rw [hst] at h; exact h
      | eff ok v ds d => rw [hst] at h; exact h.1
      | tot v O' => rw [hst] at h; exact h.elim
      | call r os ro x ids O' => rw [hst] at h; exact h.elim
def Local (cx : Cx) (ops : List Oper) (G : List (Nat × Path)) (o : Oper) (fr : List V) (O : List Ob) (d : Dl) : Prop :=
  ∀ fr2 O2, AgreeF (readsOf ops G o) fr fr2 → AgreeO (touchOf cx o fr O) O O2 → stepR cx ops G o fr2 O2 = some (d.fr o fr2, d.ob O2) ∧ touchOf cx o fr2 O2 = touchOf cx o fr O
theorem stepR_delta {s : List V × List Ob} (h : stepR cx ops G o fr O = some s) :
    ∃ d : Dl, s = (d.fr o fr, d.ob O) ∧ d.OK cx ops o (touchOf cx o fr O) O ∧ Local cx ops G o fr O d := by
  have hops : ∀ fr2, AgreeF (readsOf ops G o) fr fr2 → ∀ x ∈ o.op.operands.toList, ov cx fr2 x = ov cx fr x := fun fr2 hA x hx => ov_local fun s hs => hA s (by
    simp only [readsOf, List.mem_append, List.mem_flatMap]
    exact .inl ⟨x, hx, hs⟩)
  have fin : ∀ d : Dl, s = (d.fr o fr, d.ob O) → d.OK cx ops o (touchOf cx o fr O) O → (∀ fr2 O2, AgreeF (readsOf ops G o) fr fr2 → AgreeO (touchOf cx o fr O) O O2 → stepR cx ops G o fr2 O2 = some (d.fr o fr2, d.ob O2)) →
      ∃ d : Dl, s = (d.fr o fr, d.ob O) ∧ d.OK cx ops o (touchOf cx o fr O) O ∧ Local cx ops G o fr O d := fun d h1 h2 h3 =>
    ⟨d, h1, h2, fun fr2 O2 hA hO => ⟨h3 fr2 O2 hA hO, touchOf_loc (hops fr2 hA) hO⟩⟩
  have dNone : ∀ v, (⟨[], v, [], []⟩ : Dl).OK cx ops o (touchOf cx o fr O) O := fun v => ⟨fun _ h => by (cases h), fun _ h => by (cases h), .inl rfl⟩
  have dEff : ∀ {v ds del}, (∀ s ∈ ds, s ∈ writesOf cx ops o) → DelOK (touchOf cx o fr O) O del → ∃ d : Dl, d.OK cx ops o (touchOf cx o fr O) O ∧ (∀ fr2, put (disAll fr2 ds) o.dst v = d.fr o fr2) ∧ ∀ O2, del.app O2 = d.ob O2 := by
    intro v ds del h1 h2
    cases del with
    | no => exact ⟨⟨ds, v, [], []⟩, ⟨h1, fun _ h => by (cases h), .inl rfl⟩, fun _ => rfl, fun O2 => by simp [Dl.ob, setL, Del.app]⟩
    | new ob => exact ⟨⟨ds, v, [], [ob]⟩, ⟨h1, fun _ h => by (cases h), .inr ⟨ob, rfl, h2⟩⟩, fun _ => rfl, fun O2 => rfl⟩
    | set n ob => exact ⟨⟨ds, v, [(n, ob)], []⟩, ⟨h1, fun x h => by simp at h; subst h; exact h2, .inl rfl⟩, fun _ => rfl, fun O2 => by simp [Dl.ob, setL, Del.app]⟩
  have dSets : ∀ (v : V) (ids : List Nat) (os : List Ob), (∀ n ∈ ids, n ∈ (touchOf cx o fr O).ws ∧ n < O.length) → ∃ d : Dl, d.OK cx ops o (touchOf cx o fr O) O ∧ (∀ fr2, put fr2 o.dst v = d.fr o fr2) ∧ ∀ O2, setObs O2 ids os = d.ob O2 := by
    intro v ids os h1
    obtain ⟨l, h2, h3⟩ := setObs_setL ids O os
    exact ⟨⟨[], v, l, []⟩, ⟨fun _ h => by (cases h), fun x hx => h1 x.1 (h3 x hx), .inl rfl⟩, fun _ => rfl, fun O2 => by simp [Dl.ob, h2]⟩
  cases hpo : pathOf ops G o with
  | none => unfold stepR at h; rw [hpo] at h; cases h
  | some p =>
    obtain ⟨F, hF, hat⟩ := stepAt_shape (cx := cx) (ops := ops) (G := G) (o := o) (p := p) (fr := fr) (O := O)
    have h0 := hat fr O (fun _ _ => rfl) ⟨fun _ _ => rfl, fun _ => rfl⟩
    have hrd : ∀ fr2, AgreeF (readsOf ops G o) fr fr2 → ready fr2 p = ready fr p ∧ pcOf fr2 p = pcOf fr p := fun fr2 hA => agree_ready fun s hs => hA s (by
      simp only [readsOf, hpo, List.mem_append]
      exact .inr hs)
    unfold stepR at h
    rw [hpo] at h
    cases p with
    | nil =>
      dsimp only at h
      rw [h0] at h
      have at2 : ∀ fr2 O2, AgreeF (readsOf ops G o) fr fr2 → AgreeO (touchOf cx o fr O) O O2 → ∀ d : Dl, (match F O2 with
        | .no => none
        | .pure ok v => chk ok (some (put fr2 o.dst v, O2))
        | .tot v O' => some (put fr2 o.dst v, O')
        | .eff ok v ds d => chk ok (some (put (disAll fr2 ds) o.dst v, d.app O2))
        | .call r os ro x ids O' => x.bind fun y => some (put fr2 o.dst (pk r y.1), match ro with | true => O' | false => setObs O2 ids (pkObs os y.2))) = some (d.fr o fr2, d.ob O2) → stepR cx ops G o fr2 O2 = some (d.fr o fr2, d.ob O2) := by
        intro fr2 O2 hA hO d hd
        unfold stepR
        rw [hpo]
        dsimp only
        rw [hat fr2 O2 (hops fr2 hA) hO]
        exact hd
      cases hF with
      | no => cases h
      | pure ok v =>
        cases ok with
        | false => cases h
        | true =>
          cases h
          exact fin ⟨[], v, [], []⟩ (by simp [Dl.fr, Dl.ob, setL, disAll]) (dNone v) fun fr2 O2 hA hO => at2 fr2 O2 hA hO _ (by simp [Dl.fr, Dl.ob, setL, disAll, chk_true])
      | eff ok v ds d h1 h2 =>
        cases ok with
        | false => cases h
        | true =>
          cases h
          obtain ⟨d', e1, e2, e3⟩ := dEff (v := v) h1 h2
          exact fin d' (by rw [e2, e3]) e1 fun fr2 O2 hA hO => at2 fr2 O2 hA hO _ (by rw [← e2, ← e3]; rfl)
      | tot v ids os h1 =>
        cases h
        obtain ⟨d', e1, e2, e3⟩ := dSets v ids os h1
        exact fin d' (by rw [e2, e3]) e1 fun fr2 O2 hA hO => at2 fr2 O2 hA hO _ (by rw [← e2, ← e3])
      | call r os ro x ids osv h1 =>
        cases x with
        | none => cases h
        | some y =>
          cases h
          cases ro with
          | true =>
            obtain ⟨d', e1, e2, e3⟩ := dSets (pk r y.1) ids osv h1
            exact fin d' (by rw [e2, e3]) e1 fun fr2 O2 hA hO => at2 fr2 O2 hA hO _ (by rw [← e2, ← e3]; rfl)
          | false =>
            obtain ⟨d', e1, e2, e3⟩ := dSets (pk r y.1) ids (pkObs os y.2) h1
            exact fin d' (by rw [e2, e3]) e1 fun fr2 O2 hA hO => at2 fr2 O2 hA hO _ (by rw [← e2, ← e3]; rfl)
    | cons q p =>
      dsimp only at h
      cases hr : ready fr (q :: p) with
      | false => rw [hr] at h; cases h
      | true =>
      rw [hr, h0] at h
      have at2 : ∀ fr2 O2, AgreeF (readsOf ops G o) fr fr2 → AgreeO (touchOf cx o fr O) O O2 → ∀ d : Dl, (match true, F O2 with
        | true, .tot v O' => some (put fr2 o.dst v, O')
        | true, .pure ok v => chk (bNot (bAnd (bNot ok) (pcOf fr (q :: p)))) (some (put fr2 o.dst v, O2))
        | true, .eff ok v ds d => bif pcOf fr (q :: p) then chk ok (some (put (disAll fr2 ds) o.dst v, d.app O2)) else some (put fr2 o.dst .u, O2)
        | true, .call r os ro x ids O' => match ro with
          | true => (bif pcOf fr (q :: p) then x else some (dfS r, dfObs os)).bind fun y => some (put fr2 o.dst (pk r y.1), O')
          | false => bif pcOf fr (q :: p) then (x.bind fun y => some (put fr2 o.dst (pk r y.1), setObs O2 ids (pkObs os y.2))) else some (put fr2 o.dst .u, O2)
        | _, _ => none) = some (d.fr o fr2, d.ob O2) → stepR cx ops G o fr2 O2 = some (d.fr o fr2, d.ob O2) := by
        intro fr2 O2 hA hO d hd
        unfold stepR
        rw [hpo]
        dsimp only
        rw [hat fr2 O2 (hops fr2 hA) hO, (hrd fr2 hA).1, (hrd fr2 hA).2, hr]
        exact hd
      cases hF with
      | no => cases h
      | pure ok v =>
        dsimp only at h at2
        cases hc : bNot (bAnd (bNot ok) (pcOf fr (q :: p))) with
        | false => rw [hc] at h; cases h
        | true =>
          rw [hc] at h
          cases h
          exact fin ⟨[], v, [], []⟩ (by simp [Dl.fr, Dl.ob, setL, disAll]) (dNone v) fun fr2 O2 hA hO => at2 fr2 O2 hA hO _ (by rw [hc]; simp [Dl.fr, Dl.ob, setL, disAll, chk_true])
      | eff ok v ds d h1 h2 =>
        dsimp only at h at2
        cases hc : pcOf fr (q :: p) with
        | false =>
          rw [hc] at h
          cases h
          exact fin ⟨[], .u, [], []⟩ (by simp [Dl.fr, Dl.ob, setL, disAll]) (dNone .u) fun fr2 O2 hA hO => at2 fr2 O2 hA hO _ (by rw [hc]; simp [Dl.fr, Dl.ob, setL, disAll])
        | true =>
          rw [hc] at h
          cases ok with
          | false => cases h
          | true =>
            cases h
            obtain ⟨d', e1, e2, e3⟩ := dEff (v := v) h1 h2
            exact fin d' (by rw [e2, e3]) e1 fun fr2 O2 hA hO => at2 fr2 O2 hA hO _ (by rw [hc, ← e2, ← e3]; rfl)
      | tot v ids os h1 =>
        cases h
        obtain ⟨d', e1, e2, e3⟩ := dSets v ids os h1
        exact fin d' (by rw [e2, e3]) e1 fun fr2 O2 hA hO => at2 fr2 O2 hA hO _ (by rw [← e2, ← e3])
      | call r os ro x ids osv h1 =>
        cases ro with
        | true =>
          dsimp only at h at2
          generalize hxx : (bif pcOf fr (q :: p) then x else some (dfS r, dfObs os)) = xx at h at2
          cases xx with
          | none => cases h
          | some y =>
            cases h
            obtain ⟨d', e1, e2, e3⟩ := dSets (pk r y.1) ids osv h1
            exact fin d' (by rw [e2, e3]) e1 fun fr2 O2 hA hO => at2 fr2 O2 hA hO _ (by rw [← e2, ← e3]; rfl)
        | false =>
          dsimp only at h at2
          cases hc : pcOf fr (q :: p) with
          | false =>
            rw [hc] at h
            cases h
            exact fin ⟨[], .u, [], []⟩ (by simp [Dl.fr, Dl.ob, setL, disAll]) (dNone .u) fun fr2 O2 hA hO => at2 fr2 O2 hA hO _ (by rw [hc]; simp [Dl.fr, Dl.ob, setL, disAll])
          | true =>
            rw [hc] at h
            cases x with
            | none => cases h
            | some y =>
              cases h
              obtain ⟨d', e1, e2, e3⟩ := dSets (pk r y.1) ids (pkObs os y.2) h1
              exact fin d' (by rw [e2, e3]) e1 fun fr2 O2 hA hO => at2 fr2 O2 hA hO _ (by rw [hc, ← e2, ← e3]; rfl)
end
end Go.Ev
namespace Go.Ev
open Go
theorem disAll_get (ds : List Nat) : ∀ (fr : List V) (s : Nat), (disAll fr ds)[s]? = if s ∈ ds then (fr[s]?).map V.dis else fr[s]? := by
  induction ds with
  | nil => intro fr s; simp [disAll]
  | cons d r ih =>
    intro fr s
    simp only [disAll]
    rw [ih]
    have hset : (fr.set d (fr.getD d .u).dis)[s]? = if s = d then (fr[s]?).map V.dis else fr[s]? := by
      by_cases e : s = d
      · subst e
        rw [if_pos rfl]
        rcases Nat.lt_or_ge s fr.length with hl | hl
        · rw [List.getElem?_set_self hl]; simp [List.getD, hl]
        · simp [List.getElem?_eq_none, hl]
      · rw [if_neg e, List.getElem?_set_ne (fun e' => e e'.symm)]
    rw [hset]
    by_cases e : s = d
    · subst e
      simp only [if_pos rfl, List.mem_cons_self]
      cases fr[s]? with
      | none => simp
      | some v => by_cases hm : s ∈ r <;> simp [hm, V.dis_dis]
    · simp [e]
theorem Dl.fr_get (o : Oper) (d : Dl) (fr : List V) (s : Nat) : (d.fr o fr)[s]? = if o.dst = some s then (fr[s]?).map (fun _ => d.v) else if s ∈ d.ds then (fr[s]?).map V.dis else fr[s]? := by
  unfold Dl.fr
  cases hd : o.dst with
  | none => simp [put, disAll_get]
  | some e =>
    rw [put_some]
    by_cases h : e = s
    · subst h
      rw [if_pos rfl]
      rcases Nat.lt_or_ge e fr.length with hl | hl
      · rw [List.getElem?_set_self (by rw [len_disAll]; exact hl)]; simp [hl]
      · rw [List.getElem?_eq_none (by simpa [len_disAll] using hl), List.getElem?_eq_none hl]; rfl
    · rw [List.getElem?_set_ne h, disAll_get, if_neg (c := some e = some s) (fun e' => h (by injection e'))]
theorem apartN_iff {a b : List Nat} : apartN a b = true ↔ ∀ x ∈ a, x ∉ b := by
  simp only [apartN, List.all_eq_true]
  constructor
  · intro h x hx hb
    have := h x hx
    rw [hasN_iff.2 hb] at this; cases this
  · intro h x hx
    cases hb : hasN b x with
    | false => rfl
    | true => exact absurd (hasN_iff.1 hb) (h x hx)
theorem dst_writes {cx : Cx} {ops : List Oper} {o : Oper} {s : Nat} (h : o.dst = some s) : s ∈ writesOf cx ops o := by
  simp [writesOf, h]
theorem touch_al {cx : Cx} {o : Oper} {fr : List V} {O : List Ob} (h : (touchOf cx o fr O).al = true) : O.length ∈ (touchOf cx o fr O).ws := by
  unfold touchOf at h ⊢
  split at h <;> first | (simp; done) | (cases h; done) | skip
  split at h <;> first | (cases h; done) | skip
  split at h <;> cases h
theorem fr_keep {cx : Cx} {ops : List Oper} {o : Oper} {t : Touch} {O : List Ob} {d : Dl} (h : d.OK cx ops o t O) {fr : List V} {s : Nat} (hs : s ∉ writesOf cx ops o) : (d.fr o fr)[s]? = fr[s]? := by
  rw [Dl.fr_get, if_neg fun e => hs (dst_writes e), if_neg fun e => hs (h.1 s e)]
theorem ob_keep {cx : Cx} {ops : List Oper} {o : Oper} {fr : List V} {O : List Ob} {d : Dl} (h : d.OK cx ops o (touchOf cx o fr O) O) {O2 : List Ob} (hl : (touchOf cx o fr O).al = true → O2.length = O.length) {n : Nat} (hn : n ∉ (touchOf cx o fr O).ws) : (d.ob O2)[n]? = O2[n]? := by
  unfold Dl.ob
  have hset : (setL O2 d.sets)[n]? = O2[n]? := setL_out _ _ _ fun x hx e => hn (e ▸ (h.2.1 x hx).1)
  rcases h.2.2 with h1 | ⟨ob, h1, h2⟩
  · rw [h1, List.append_nil, hset]
  · have hne : n ≠ O2.length := fun e => hn (by rw [e, hl h2]; exact touch_al h2)
    rw [h1]
    rcases Nat.lt_or_ge n O2.length with hlt | hge
    · rw [List.getElem?_append_left (by rw [len_setL]; exact hlt), hset]
    · rw [List.getElem?_append_right (by rw [len_setL]; exact hge), len_setL, List.getElem?_eq_none hge, List.getElem?_eq_none (by simp; omega)]
theorem ob_len {cx : Cx} {ops : List Oper} {o : Oper} {t : Touch} {O : List Ob} {d : Dl} (h : d.OK cx ops o t O) (O2 : List Ob) (ha : t.al = false) : (d.ob O2).length = O2.length := by
  unfold Dl.ob
  rcases h.2.2 with h1 | ⟨ob, _, h2⟩
  · rw [h1, List.append_nil, len_setL]
  · rw [ha] at h2; cases h2
section
variable {cx : Cx} {ops : List Oper} {G : List (Nat × Path)}
theorem swap {a b : Oper} {fr : List V} {O : List Ob} {s1 s2 : List V × List Ob} (h1 : stepR cx ops G a fr O = some s1) (h2 : stepR cx ops G b s1.1 s1.2 = some s2)
    (hs : swapOK cx ops G a b (touchOf cx a fr O) (touchOf cx b s1.1 s1.2) = true) :
    ∃ s3 : List V × List Ob, stepR cx ops G b fr O = some s3 ∧ touchOf cx b fr O = touchOf cx b s1.1 s1.2 ∧ stepR cx ops G a s3.1 s3.2 = some s2 ∧ touchOf cx a s3.1 s3.2 = touchOf cx a fr O := by
  obtain ⟨da, rfl, okA, locA⟩ := stepR_delta h1
  obtain ⟨db, rfl, okB, locB⟩ := stepR_delta h2
  generalize hta : touchOf cx a fr O = ta at *
  generalize htb : touchOf cx b (da.fr a fr) (da.ob O) = tb at *
  simp only [swapOK, touchOK, Bool.and_eq_true, apartN_iff, Bool.not_eq_true'] at hs
  obtain ⟨⟨hw1, hw2⟩, ⟨ht1, ht2⟩, ht3⟩ := hs
  have hal : ta.al = true → tb.al = false := fun e => by rw [e] at ht3; simpa using ht3
  have e1 : AgreeF (readsOf ops G b) (da.fr a fr) fr := fun s hs => by
    have := fr_keep okA (fr := fr) (s := s) fun h => hw1 s h (List.mem_append_left _ hs)
    simp only [List.getD, this]
  have e2 : AgreeO tb (da.ob O) O := by
    refine ⟨fun n hn => ?_, fun e => ?_⟩
    · subst hta
      exact ob_keep okA (fun _ => rfl) fun h => ht1 n h (by rw [List.mem_append]; exact hn)
    · refine ob_len okA O ?_
      cases h : ta.al with
      | false => rfl
      | true => rw [hal h] at e; cases e
  subst htb
  obtain ⟨hb, htb⟩ := locB fr O e1 e2
  refine ⟨_, hb, htb, ?_⟩
  have okB' : ∀ x ∈ db.sets, x.1 < O.length := fun x hx => by
    have h1 := (okB.2.1 x hx)
    rcases okA.2.2 with h2 | ⟨ob, h2, h3⟩
    · have := h1.2
      simp [Dl.ob, h2, len_setL] at this
      exact this
    · have h4 := h1.2
      simp [Dl.ob, h2, len_setL] at h4
      have h5 : O.length ∈ ta.ws := by subst hta; exact touch_al h3
      have h6 : x.1 ≠ O.length := fun e => ht1 _ h5 (by rw [← e]; exact List.mem_append_right _ h1.1)
      omega
  have okB2 : db.OK cx ops b (touchOf cx b fr O) O := ⟨okB.1, fun x hx => ⟨by rw [htb]; exact (okB.2.1 x hx).1, okB' x hx⟩, by rw [htb]; exact okB.2.2⟩
  have e3 : AgreeF (readsOf ops G a) fr (db.fr b fr) := fun s hs => by
    have := fr_keep okB2 (fr := fr) (s := s) fun h => hw2 s h hs
    simp only [List.getD, this]
  have e4 : AgreeO (touchOf cx a fr O) O (db.ob O) := by
    rw [hta]
    refine ⟨fun n hn => (ob_keep okB2 (fun _ => rfl) fun h => ?_).symm, fun e => (ob_len okB2 O (by rw [htb]; exact hal e)).symm⟩
    rw [htb] at h
    rcases hn with hn | hn
    · exact ht2 n h hn
    · exact ht1 n hn (List.mem_append_right _ h)
  obtain ⟨ha, hta2⟩ := locA (db.fr b fr) (db.ob O) e3 e4
  refine ⟨?_, by rw [← hta]; exact hta2⟩
  dsimp only
  rw [ha]
  congr 1
  congr 1
  · apply List.ext_getElem?
    intro s
    by_cases hsa : s ∈ writesOf cx ops a
    · have hsb : s ∉ writesOf cx ops b := fun h => hw1 s hsa (List.mem_append_right _ h)
      rw [fr_keep okB (fr := da.fr a fr) hsb, Dl.fr_get a da (db.fr b fr), fr_keep okB2 (fr := fr) hsb, ← Dl.fr_get a da fr]
    · rw [fr_keep okA (fr := db.fr b fr) hsa]
      rw [Dl.fr_get b db fr, Dl.fr_get b db (da.fr a fr), fr_keep okA (fr := fr) hsa]
  · unfold Dl.ob
    have hdis : ∀ x ∈ da.sets, ∀ y ∈ db.sets, x.1 ≠ y.1 := fun x hx y hy e => ht1 x.1 (okA.2.1 x hx).1 (by rw [e]; exact List.mem_append_right _ (okB.2.1 y hy).1)
    rcases okA.2.2 with ha1 | ⟨oa, ha1, ha2⟩
    · rcases okB.2.2 with hb1 | ⟨ob, hb1, hb2⟩
      · rw [ha1, hb1]; simp only [List.append_nil]
        exact (setL_comm _ _ _ hdis).symm
      · rw [ha1, hb1]; simp only [List.append_nil]
        rw [setL_app _ _ _ fun x hx => by rw [len_setL]; exact (okA.2.1 x hx).2, setL_comm _ _ _ hdis]
    · have hb1 : db.nw = [] := by
        rcases okB.2.2 with hb1 | ⟨ob, _, hb2⟩
        · exact hb1
        · rw [hal ha2] at hb2; cases hb2
      rw [ha1, hb1]; simp only [List.append_nil]
      rw [setL_app _ _ _ fun x hx => by rw [len_setL]; exact okB' x hx, setL_comm _ _ _ hdis]
end
end Go.Ev
namespace Go.Ev
open Go
section
variable {cx : Cx} {ops : List Oper} {G : List (Nat × Path)}
def RunT (cx : Cx) (ops : List Oper) (G : List (Nat × Path)) : List (Oper × Touch) → List V × List Ob → List V × List Ob → Prop
  | [], s, e => s = e
  | x :: r, s, e => touchOf cx x.1 s.1 s.2 = x.2 ∧ ∃ s1, stepR cx ops G x.1 s.1 s.2 = some s1 ∧ RunT cx ops G r s1 e
theorem runT_of : ∀ (l : List Oper) (fr : List V) (O : List Ob) (e : List V × List Ob), runR cx ops G l fr O = some e → RunT cx ops G (l.zip (touches cx ops G l fr O)) (fr, O) e ∧ (touches cx ops G l fr O).length = l.length
  | [], fr, O, e, h => by
    simp only [runR] at h
    cases h
    exact ⟨rfl, rfl⟩
  | o :: r, fr, O, e, h => by
    rw [runR] at h
    simp only [touches]
    cases hs : stepR cx ops G o fr O with
    | none => rw [hs] at h; cases h
    | some s =>
      rw [hs] at h
      obtain ⟨h1, h2⟩ := runT_of r s.1 s.2 e h
      exact ⟨⟨rfl, s, hs, h1⟩, by simp [h2]⟩
theorem runT_front : ∀ (pre : List (Oper × Touch)) (x : Oper × Touch) (post : List (Oper × Touch)) (s e : List V × List Ob), RunT cx ops G (pre ++ x :: post) s e → (∀ y ∈ pre, swapOK cx ops G y.1 x.1 y.2 x.2 = true) → RunT cx ops G (x :: (pre ++ post)) s e
  | [], x, post, s, e, h, _ => h
  | y :: pre, x, post, s, e, h, hs => by
    obtain ⟨h1, s1, h2, h3⟩ := h
    obtain ⟨h4, s2, h5, h6⟩ := runT_front pre x post s1 e h3 fun z hz => hs z (by simp [hz])
    have hsw := hs y (by simp)
    obtain ⟨s3, h7, h8, h9, h10⟩ := swap (a := y.1) (b := x.1) h2 h5 (by rw [h1, h4]; exact hsw)
    exact ⟨by rw [h8, h4], s3, h7, by rw [h10, h1], s2, h9, h6⟩
theorem drawRow_spec {o : Oper} {t : Touch} {bef : List Nat} : ∀ (qs : List Oper) (us : List Touch) (i : Nat), drawRow cx ops G o t bef i qs us = true → ∀ (k : Nat) q u, qs[k]? = some q → us[k]? = some u → i + k ∈ bef ∨ swapOK cx ops G q o u t = true
  | [], us, i, _, k, q, u, h1, _ => by simp at h1
  | _ :: _, [], i, _, k, q, u, _, h2 => by simp at h2
  | q0 :: qs, u0 :: us, i, h, k, q, u, h1, h2 => by
    simp only [drawRow, Bool.and_eq_true] at h
    cases k with
    | zero =>
      simp at h1 h2
      subst h1; subst h2
      have h3 := h.1
      cases hb : hasN bef i with
      | true => exact .inl (by simpa using hasN_iff.1 hb)
      | false => rw [hb] at h3; exact .inr h3
    | succ k =>
      have := drawRow_spec qs us (i + 1) h.2 k q u (by simpa using h1) (by simpa using h2)
      rw [show i + (k + 1) = i + 1 + k by omega]; exact this
theorem drawOK_spec {tc : List Touch} {bs : List (List Nat)} (hl : tc.length = ops.length) (hb : bs.length = ops.length) : ∀ (n k : Nat), k + n = ops.length → drawOK cx ops G tc (ops.drop k) (tc.drop k) (bs.drop k) = true →
    ∀ (i j : Nat) q o u t b, i < j → k ≤ j → ops[i]? = some q → ops[j]? = some o → tc[i]? = some u → tc[j]? = some t → bs[j]? = some b → i ∈ b ∨ swapOK cx ops G q o u t = true
  | 0, k, hk, _, i, j, q, o, u, t, b, _, hkj, _, ho, _, _, _ => by
    have := lt_of_get ho
    omega
  | n + 1, k, hk, h, i, j, q, o, u, t, b, hij, hkj, hq, ho, hu, ht, hbj => by
    have hk1 : k < ops.length := by omega
    rw [List.drop_eq_getElem_cons hk1, List.drop_eq_getElem_cons (by omega : k < tc.length), List.drop_eq_getElem_cons (by omega : k < bs.length)] at h
    simp only [drawOK, Bool.and_eq_true] at h
    by_cases e : j = k
    · subst e
      have e1 : ops[j] = o := by simpa [hk1] using ho
      have e2 : tc[j]'(by omega) = t := by simpa [show j < tc.length by omega] using ht
      have e3 : bs[j]'(by omega) = b := by simpa [show j < bs.length by omega] using hbj
      have h1 := h.1
      rw [e1, e2, e3] at h1
      have := drawRow_spec _ _ 0 h1 i q u (by
        have e4 : ops.length - ((ops.drop (j + 1)).length + 1) = j := by rw [List.length_drop]; omega
        rw [e4, List.getElem?_take, if_pos hij]; exact hq) hu
      rwa [Nat.zero_add] at this
    · exact drawOK_spec hl hb n (k + 1) (by omega) h.2 i j q o u t b hij (by omega) hq ho hu ht hbj
theorem edgesOK_spec : ∀ (l : List Oper) (i : Nat), edgesOK i l = true → ∀ (k : Nat) o, l[k]? = some o → ∀ e ∈ o.after.toList, bindsE e = true → e.on < i + k
  | [], i, _, k, o, h, _, _, _ => by simp at h
  | q :: r, i, h, k, o, ho, e, he, hb => by
    simp only [edgesOK] at h
    split at h
    · rename_i h1
      cases k with
      | zero =>
        simp at ho; subst ho
        rw [List.all_eq_true] at h1
        have := h1 e he
        rw [hb] at this
        simpa [Nat.blt_eq] using this
      | succ k =>
        have := edgesOK_spec r (i + 1) h k o (by simpa using ho) e he hb
        omega
    · cases h
theorem len_befores : ∀ (l : List Oper) (acc : List (List Nat)), (befores l acc).length = l.length + acc.length
  | [], acc => by simp [befores]
  | o :: r, acc => by rw [befores, len_befores]; simp; omega
theorem befores_spec {L : Nat → Prop} (hcl : ∀ (j : Nat) o, ops[j]? = some o → L j → ∀ e ∈ o.after.toList, bindsE e = true → L e.on) : ∀ (l : List Oper) (acc : List (List Nat)) (done : List Oper), ops = done ++ l → acc.length = done.length →
    (∀ (j : Nat) o b, ops[j]? = some o → acc.reverse[j]? = some b → (∀ e ∈ o.after.toList, bindsE e = true → L e.on) → ∀ m ∈ b, L m) →
    ∀ (j : Nat) o b, ops[j]? = some o → (befores l acc).reverse[j]? = some b → (∀ e ∈ o.after.toList, bindsE e = true → L e.on) → ∀ m ∈ b, L m
  | [], acc, done, _, _, hA => hA
  | q :: r, acc, done, hops, hlen, hA => by
    rw [befores]
    refine befores_spec hcl r _ (done ++ [q]) (by rw [hops]; simp) (by simp [hlen]) fun j o b ho hb he m hm => ?_
    rw [List.reverse_cons] at hb
    by_cases hj : j < acc.reverse.length
    · rw [List.getElem?_append_left hj] at hb
      exact hA j o b ho hb he m hm
    · rw [List.getElem?_append_right (by omega)] at hb
      have hj0 : j - acc.reverse.length = 0 := by
        rcases Nat.eq_zero_or_pos (j - acc.reverse.length) with h | h
        · exact h
        · rw [List.getElem?_eq_none (by simp at h ⊢; omega)] at hb; cases hb
      have hjl : j = done.length := by simp at hj hj0; omega
      rw [hj0] at hb
      cases hb
      have hqo : q = o := by rw [hops, hjl] at ho; simpa using ho
      subst hqo
      rw [List.mem_flatMap] at hm
      obtain ⟨e, he1, he2⟩ := hm
      cases hbe : bindsE e with
      | false => rw [hbe] at he2; cases he2
      | true =>
        rw [hbe] at he2
        dsimp only at he2
        have hL := he e he1 hbe
        cases he2 with
        | head => exact hL
        | tail _ hm =>
          have hm : m ∈ acc.reverse.getD e.on [] := hm
          cases hg : acc.reverse[e.on]? with
          | none => simp [List.getD, hg] at hm
          | some b' =>
            have hm' : m ∈ b' := by simpa [List.getD, hg] using hm
            have hlt : e.on < ops.length := by
              have := lt_of_get hg
              rw [hops]; simp at this ⊢; omega
            exact hA e.on _ b' (List.getElem?_eq_getElem hlt) hg (hcl e.on _ (List.getElem?_eq_getElem hlt) hL) m hm'
end
theorem binds_any (e : Edge) : Region.binds .any e = bindsE e := by
  unfold Region.binds bindsE
  cases e.ground <;> rfl
end Go.Ev
namespace Go.Ev
open Go
theorem Inv.drawn {g : Gh} {G : List (Nat × Path)} {H : HM} {μ : MU} {fr : List V} {O : List Ob} {tmps : Array Value} {w : World} (h : Inv g G H μ fr O tmps w) (n : Nat) : Inv g G H μ fr O tmps { w with drawn := n } :=
  ⟨h.len, h.slots, h.olen, h.obs, h.hob, h.agree, h.uniq, h.rng, h.frame, h.hle, h.hnew, h.os, h.tape, h.output, h.size, h.mle⟩
section
variable {P : Program} {cx : Cx}
theorem wpAny_of (T0 : TabOK P cx) (hM : ModelsOK P cx) {g : Gh} (hgl : GlOK cx.gl g.H0) {G : List (Nat × Path)} {opsA : Array Oper} (hP : PathsOK opsA.toList G) (hA : opsA.toList.Pairwise (Apart G)) (hE : edgesOK 0 opsA.toList = true)
    {tc : List Touch} (hD : ∀ (i j : Nat) q o u t b, i < j → opsA.toList[i]? = some q → opsA.toList[j]? = some o → tc[i]? = some u → tc[j]? = some t → (befores opsA.toList []).reverse[j]? = some b → i ∈ b ∨ swapOK cx opsA.toList G q o u t = true)
    {Q : Exit → Act → World → Prop} {fin : List V × List Ob} :
    ∀ (fuel : Nat) (listed : Array Bool) (rem : List (Nat × Oper × Touch)) (s : List V × List Ob) (H : HM) (μ : MU) (a : Act) (w : World), rem.length = fuel → Inv g G H μ s.1 s.2 a.tmps w → RunT cx opsA.toList G (rem.map (·.2)) s fin →
      (rem.map (·.1)).Pairwise (· < ·) → (∀ x ∈ rem, opsA.toList[x.1]? = some x.2.1 ∧ tc[x.1]? = some x.2.2) → listed.size = opsA.size → (∀ i, i < opsA.size → (listed.getD i true = false ↔ i ∈ rem.map (·.1))) →
      (∀ (j : Nat) o, opsA.toList[j]? = some o → listed.getD j false = true → ∀ e ∈ o.after.toList, bindsE e = true → listed.getD e.on false = true) →
      FreshFr G (rem.map (·.2.1)) s.1 → (∀ H' μ' a' w', a'.defers = a.defers → Inv g G H' μ' fin.1 fin.2 a'.tmps w' → Q .normal a' w') → wpAny P .any opsA Q fuel listed a w := by
  have getD_tf : ∀ (l : Array Bool) i, i < l.size → (l.getD i true = false ↔ ¬ l.getD i false = true) := fun l i hi => by
    simp [Array.getD, hi]
  intro fuel
  induction fuel with
  | zero =>
    intro listed rem s H μ a w hf hI hR _ _ hsz hL _ _ hQ
    have : rem = [] := List.eq_nil_of_length_eq_zero hf
    subst this
    refine ⟨?_, ?_⟩
    · rw [List.eq_nil_iff_forall_not_mem]
      intro i hi
      obtain ⟨h1, o, h2, _⟩ := mem_ready.1 hi
      have := (hL i (Array.getElem?_eq_some_iff.1 h2).1).1 h1
      cases this
    · simp only [List.map_nil, RunT] at hR
      subst hR
      exact hQ H μ a w rfl hI
  | succ fuel ih =>
    intro listed rem s H μ a w hf hI hR hsort hrem hsz hL hcl hfr hQ
    refine ⟨fun hr => ?_, fun i hi => ?_⟩
    · exfalso
      cases rem with
      | nil => simp at hf
      | cons x r =>
        obtain ⟨hx1, _⟩ := hrem x (by simp)
        have hlt : x.1 < opsA.size := by have := lt_of_get hx1; simpa using this
        have hun : listed.getD x.1 true = false := (hL x.1 hlt).2 (by simp)
        have : x.1 ∈ Region.ready .any opsA listed := by
          refine mem_ready.2 ⟨hun, x.2.1, by simpa using hx1, fun e he hb => ?_⟩
          rw [binds_any] at hb
          have hlt2 := edgesOK_spec _ 0 hE x.1 _ hx1 e (by simpa using he) hb
          have hlt3 : e.on < listed.size := by omega
          cases hg : listed.getD e.on false with
          | true => rfl
          | false =>
            have h1 := (hL e.on (by omega)).1 ((getD_tf listed e.on hlt3).2 (by rw [hg]; simp))
            simp only [List.map_cons, List.mem_cons] at h1
            simp only [List.map_cons, List.pairwise_cons] at hsort
            rcases h1 with h1 | h1
            · omega
            · have := hsort.1 _ h1; omega
        rw [hr] at this
        cases this
    · obtain ⟨hun, o, ho, hed⟩ := mem_ready.1 hi
      have hlt : i < opsA.size := (Array.getElem?_eq_some_iff.1 ho).1
      have hmem := (hL i hlt).1 hun
      rw [List.mem_map] at hmem
      obtain ⟨x, hx, rfl⟩ := hmem
      obtain ⟨pre, post, hsplit⟩ := List.append_of_mem hx
      obtain ⟨hx1, hx2⟩ := hrem x hx
      have hoe : o = x.2.1 := by rw [← Array.getElem?_toList] at ho; rw [hx1] at ho; cases ho; rfl
      subst hoe
      have hclL : ∀ (j : Nat) o, opsA.toList[j]? = some o → (listed.getD j false = true) → ∀ e ∈ o.after.toList, bindsE e = true → listed.getD e.on false = true := hcl
      have hedL : ∀ e ∈ x.2.1.after.toList, bindsE e = true → listed.getD e.on false = true := fun e he hb => hed e (by simpa using he) (by rw [binds_any]; exact hb)
      obtain ⟨bb, hbb⟩ : ∃ b, (befores opsA.toList []).reverse[x.1]? = some b := by
        have : x.1 < (befores opsA.toList []).reverse.length := by rw [List.length_reverse, len_befores]; simpa using hlt
        exact ⟨_, List.getElem?_eq_getElem this⟩
      have hbL := befores_spec (L := fun m => listed.getD m false = true) hclL opsA.toList [] [] rfl rfl (fun j o b _ hb => by simp at hb) x.1 x.2.1 bb hx1 hbb hedL
      have hmap : rem.map (·.1) = pre.map (·.1) ++ x.1 :: post.map (·.1) := by rw [hsplit]; simp
      have hpre : ∀ y ∈ pre, swapOK cx opsA.toList G y.2.1 x.2.1 y.2.2 x.2.2 = true := by
        intro y hy
        have hym : y ∈ rem := by rw [hsplit]; simp [hy]
        obtain ⟨hy1, hy2⟩ := hrem y hym
        have hlt2 : y.1 < x.1 := by
          rw [hmap, List.pairwise_append] at hsort
          exact hsort.2.2 y.1 (List.mem_map_of_mem hy) x.1 (by simp)
        rcases hD y.1 x.1 _ _ _ _ bb hlt2 hy1 hx1 hy2 hx2 hbb with h1 | h1
        · exfalso
          have h2 := hbL y.1 h1
          have h3 := (hL y.1 (by omega)).2 (List.mem_map_of_mem hym)
          exact (getD_tf listed y.1 (by omega)).1 h3 h2
        · exact h1
      have hR' : RunT cx opsA.toList G (x.2 :: (pre.map (·.2) ++ post.map (·.2))) s fin := by
        refine runT_front _ _ _ _ _ (by rw [hsplit] at hR; simpa using hR) fun y hy => ?_
        rw [List.mem_map] at hy
        obtain ⟨z, hz, rfl⟩ := hy
        exact hpre z hz
      obtain ⟨_, s1, hs1, hR1⟩ := hR'
      have hom : x.2.1 ∈ opsA.toList := List.mem_of_getElem? hx1
      refine stepR_sound T0 hM hI (hgl.le hI.hle) ho (hP x.2.1 hom) (fun d s q e => hfr x.2.1 (List.mem_map_of_mem (f := fun x => x.2.1) hx) d s q e) (fr' := s1.1) (O' := s1.2) hs1 _ Q fun H' μ' a' w' hdef hI' => ?_
      have hsub : ∀ y ∈ pre ++ post, y ∈ rem := fun y hy => by
        rw [hsplit]; rw [List.mem_append] at hy ⊢
        rcases hy with h | h
        · exact .inl h
        · exact .inr (by simp [h])
      have hne : ∀ y ∈ pre ++ post, y.1 ≠ x.1 := by
        intro y hy
        rw [hmap, List.pairwise_append, List.pairwise_cons] at hsort
        rw [List.mem_append] at hy
        rcases hy with h | h
        · have := hsort.2.2 y.1 (List.mem_map_of_mem h) x.1 (by simp); omega
        · have := hsort.2.1.1 y.1 (List.mem_map_of_mem h); omega
      refine ih (listed.setIfInBounds x.1 true) (pre ++ post) s1 H' μ' a' w' ?_ hI' (by rw [List.map_append]; exact hR1) ?_ (fun y hy => hrem y (hsub y hy)) (by simpa using hsz) (fun j hj => ?_) (fun j oj hoj hjl e he hb => ?_) ?_ fun H'' μ'' a'' w'' hd2 hI2 => hQ H'' μ'' a'' w'' (hd2.trans hdef) hI2
      · rw [hsplit] at hf; simp at hf ⊢; omega
      · rw [hmap] at hsort
        rw [List.map_append]
        refine hsort.sublist ?_
        exact List.Sublist.append (List.Sublist.refl _) (List.sublist_cons_self _ _)
      · by_cases e : x.1 = j
        · subst e
          have : (listed.setIfInBounds x.1 true).getD x.1 true = true := by
            have : x.1 < listed.size := by omega
            simp [Array.getD, this]
          rw [this]
          refine ⟨fun h => (by cases h), fun h => ?_⟩
          rw [List.mem_map] at h
          obtain ⟨y, hy, hyx⟩ := h
          exact absurd hyx (hne y hy)
        · rw [getD_set_ne true e, hL j hj, hmap, List.map_append]
          simp only [List.mem_append, List.mem_cons]
          constructor
          · rintro (h | h | h)
            · exact .inl h
            · exact absurd h.symm e
            · exact .inr h
          · rintro (h | h)
            · exact .inl h
            · exact .inr (.inr h)
      · by_cases e1 : x.1 = j
        · subst e1
          rw [hx1] at hoj
          cases hoj
          exact getD_set_true (hedL e he hb)
        · rw [getD_set_ne false e1] at hjl
          exact getD_set_true (hcl j oj hoj hjl e he hb)
      · intro o' ho' d t r e1 e2 e3
        rw [List.mem_map] at ho'
        obtain ⟨y, hy, rfl⟩ := ho'
        obtain ⟨hy1, _⟩ := hrem y (hsub y hy)
        refine stepR_u (o := x.2.1) hs1 (fun e => ?_) (hfr y.2.1 (List.mem_map_of_mem (f := fun x => x.2.1) (hsub y hy)) d t r e1 e2 e3)
        have hap : Apart G x.2.1 y.2.1 := by
          rw [List.pairwise_iff_getElem] at hA
          have l1 := lt_of_get hx1
          have l2 := lt_of_get hy1
          have g1 : opsA.toList[x.1] = x.2.1 := by rw [List.getElem?_eq_getElem l1] at hx1; injection hx1
          have g2 : opsA.toList[y.1] = y.2.1 := by rw [List.getElem?_eq_getElem l2] at hy1; injection hy1
          rcases Nat.lt_or_ge x.1 y.1 with h | h
          · have := hA x.1 y.1 l1 l2 h; rwa [g1, g2] at this
          · have := hA y.1 x.1 l2 l1 (by have := hne y hy; omega); rw [g1, g2] at this; exact this.symm
        exact hap d t r e e2 e3 e1
theorem region_sound (T0 : TabOK P cx) (hM : ModelsOK P cx) (hmix : P.follows .mixedOrders = true) {g : Gh} (hgl : GlOK cx.gl g.H0) {ops : Array Oper} {draw : Bool} {id : Nat} (h1 : onceOK (singles (guarded ops.toList ops.toList [])) ops.toList = true) (h2 : gOK ops.toList (guarded ops.toList ops.toList []) ops.toList = true)
    {Q : Exit → Act → World → Prop} {fr : List V} {O : List Ob} {H : HM} {μ : MU} {a : Act} {w : World} (h : Inv g [] H μ fr O a.tmps w) {ρ : Type} {k : List V → List Ob → Option ρ} {r : ρ}
    (hr : regionK cx ops.toList draw (guarded ops.toList ops.toList []) (singles (guarded ops.toList ops.toList [])) ops.toList (clean (singles (guarded ops.toList ops.toList [])) fr) O [] k = some r)
    (hQ : ∀ fr' O', k fr' O' = some r → ∀ H' μ' a' w', a'.defers = a.defers → Inv g [] H' μ' fr' O' a'.tmps w' → Q .normal a' w') : (Code.region id ops draw).wp P Q a w := by
  obtain ⟨fr', O', h3, h4, h5⟩ := regionK_run _ _ _ _ _ hr
  cases draw with
  | false =>
    refine wp_region (region_order T0 hM hgl h1 h2 h (List.range ops.size) (List.Perm.refl _) (by rw [opsAt_range]; exact h3) fun H' μ' a' w' hd hI => hQ _ _ h4 H' μ' a' w' hd hI)
  | true =>
    obtain ⟨hE, hD⟩ := h5 rfl
    simp only [List.reverse_nil, List.nil_append] at hD
    obtain ⟨hRT, hlen⟩ := runT_of _ _ _ _ h3
    generalize htc : touches cx ops.toList (guarded ops.toList ops.toList []) ops.toList (clean (singles (guarded ops.toList ops.toList [])) fr) O = tc at *
    have hb : (befores ops.toList []).reverse.length = ops.toList.length := by rw [List.length_reverse, len_befores]; simp
    have hspec := drawOK_spec (cx := cx) (G := guarded ops.toList ops.toList []) hlen hb ops.toList.length 0 (by simp) (by simpa using hD)
    refine wp_region_any hmix ?_
    let rem : List (Nat × Oper × Touch) := (List.range ops.size).zip (ops.toList.zip tc)
    have hl1 : (ops.toList.zip tc).length = ops.size := by simp [hlen]
    have e1 : rem.map (·.2) = ops.toList.zip tc := by
      have := List.map_snd_zip (l₁ := List.range ops.size) (l₂ := ops.toList.zip tc) (by simp [hlen])
      simpa [rem] using this
    have e2 : rem.map (·.1) = List.range ops.size := by
      have := List.map_fst_zip (l₁ := List.range ops.size) (l₂ := ops.toList.zip tc) (by simp [hlen])
      simpa [rem] using this
    have e3 : rem.map (·.2.1) = ops.toList := by
      have : rem.map (·.2.1) = (rem.map (·.2)).map (·.1) := by simp
      rw [this, e1]
      exact List.map_fst_zip (by omega)
    refine wpAny_of (g := g) (G := guarded ops.toList ops.toList []) T0 hM hgl (gOK_paths ops.toList h2) (once_apart _ h1) hE (tc := tc) (fun i j q o u t b hij hq ho hu ht hbb => hspec i j q o u t b hij (by omega) hq ho hu ht hbb) (fin := (fr', O'))
      ops.size (Array.replicate ops.size false) rem (clean (singles (guarded ops.toList ops.toList [])) fr, O) H μ a _ ?_ (h.clean.drawn _) ?_ ?_ ?_ (by simp) ?_ ?_ ?_ ?_
    · have := congrArg List.length e2; simpa using this
    · rw [e1]; exact hRT
    · rw [e2]; exact List.pairwise_lt_range
    · intro x hx
      obtain ⟨n, hn⟩ := List.mem_iff_getElem?.1 hx
      have h6 : (rem.map (·.1))[n]? = some x.1 := by rw [List.getElem?_map, hn]; rfl
      have h7 : (rem.map (·.2))[n]? = some x.2 := by rw [List.getElem?_map, hn]; rfl
      rw [e2] at h6
      rw [e1] at h7
      have hnl : n < ops.size := by have := lt_of_get h6; simpa using this
      rw [List.getElem?_range hnl] at h6
      cases h6
      rw [List.getElem?_zip_eq_some] at h7
      exact h7
    · intro i hi
      rw [e2]
      simp [hi]
    · intro j o _ hj
      have : j < ops.size ∨ ops.size ≤ j := by omega
      rcases this with h6 | h6
      · simp [h6] at hj
      · simp [Array.getD, h6] at hj
    · rw [e3]; exact fresh_clean
    · intro H' μ' a' w' hd hI
      exact hQ _ _ h4 H' μ' a' w' hd hI.unclean
end
end Go.Ev
namespace Go.Ev
open Go
section
variable {g : Gh} {H : HM} {μ : MU} {fr fr' : List V} {O : List Ob} {tmps : Array Value} {w : World}
theorem Inv.weakFr (h : Inv g [] H μ fr O tmps w) (hl : fr'.length = fr.length) (hs : ∀ (s : Nat) v', fr'[s]? = some v' → v' = .u ∨ ∃ v, fr[s]? = some v ∧ Wk v v') : Inv g [] H μ fr' O tmps w := by
  have own : ∀ q b, owns fr' O μ tmps w q b → owns fr O μ tmps w q b := by
    intro q b hq
    rcases hq with h1 | ⟨v, x, h1, hb⟩
    · exact .inl h1
    · cases q with
      | obj n => cases h1
      | cell n j => exact .inr ⟨v, x, h1, hb⟩
      | slot s =>
        rcases hs s v h1.1 with rfl | ⟨v0, h2, h3⟩
        · simp [blkOf] at hb
        · exact .inr ⟨v0, x, ⟨h2, h1.2⟩, h3.blk hb⟩
  refine ⟨by rw [hl]; exact h.len, fun s v x h1 h2 => ?_, h.olen, h.obs, h.hob, h.agree, fun q q' b h1 h2 => h.uniq q q' b (own q b h1) (own q' b h2), fun q b h1 => h.rng q b (own q b h1), h.frame, h.hle, h.hnew, h.os, h.tape, h.output, h.size, h.mle⟩
  show Val H μ w v x
  rcases hs s v h1 with rfl | ⟨v0, h3, h4⟩
  · exact .of_dis (.u _) rfl
  · exact h4.val (h.slots s v0 x h3 h2)
theorem len_pkFr (n : Nat) : ∀ (l : List (Nat × Shp)) (x : FrT l), (pkFr n l x).length = n
  | [], _ => by simp [pkFr]
  | (s, a) :: r, x => by rw [pkFr, List.length_set]; exact len_pkFr n r x.2
theorem pkFr_get {n : Nat} {fr : List V} (hn : fr.length = n) : ∀ (l : List (Nat × Shp)) (x : FrT l), upkFr fr l = some x → ∀ (s : Nat) v', (pkFr n l x)[s]? = some v' → v' = .u ∨ ∃ v, fr[s]? = some v ∧ Wk v v'
  | [], x, _, s, v', h => by
    simp only [pkFr, List.getElem?_replicate] at h
    split at h
    · cases h; exact .inl rfl
    · cases h
  | (t, a) :: r, x, hx, s, v', h => by
    simp only [upkFr] at hx
    split at hx
    · rename_i y ys h1 h2
      cases hx
      simp only [pkFr] at h
      by_cases e : t = s
      · subst e
        have hlt : t < n := by have := lt_of_get h; rw [List.length_set, len_pkFr] at this; exact this
        rw [List.getElem?_set_self (by rw [len_pkFr]; exact hlt)] at h
        cases h
        have hg : fr[t]? = some (fr.getD t .u) := by simp [List.getD, show t < fr.length by omega]
        exact .inr ⟨_, hg, upk_wk a _ y h1⟩
      · rw [List.getElem?_set_ne e] at h
        exact pkFr_get hn r ys h2 s v' h
    · cases hx
mutual
def ltV (k : Nat) : V → Bool
  | .ptr n _ => Nat.blt n k
  | .ept n _ _ => Nat.blt n k
  | .ms n => Nat.blt n k
  | .agg cs => ltVs k cs
  | .tup cs => ltVs k cs
  | .rp cs => ltVs k cs
  | .fn _ cs => ltVs k cs
  | .ifc _ v => ltV k v
  | _ => true
def ltVs (k : Nat) : List V → Bool
  | [] => true
  | v :: r => match ltV k v with | true => ltVs k r | false => false
end
theorem ltVs_get {k : Nat} {vs : List V} (h : ltVs k vs = true) {j : Nat} {v : V} (hv : vs[j]? = some v) : ltV k v = true := by
  induction vs generalizing j with
  | nil => simp at hv
  | cons a r ih =>
    simp only [ltVs] at h
    split at h
    · rename_i ha
      cases j with
      | zero => simp at hv; subst hv; exact ha
      | succ j => exact ih h (by simpa using hv)
    · cases h
theorem take_get {n k : Nat} {α : Type} {l : List α} {x : α} (h : l[n]? = some x) (hk : n < k) : (l.take k)[n]? = some x := by
  rw [List.getElem?_take, if_pos hk]; exact h
theorem take_of {n k : Nat} {α : Type} {l : List α} {x : α} (h : (l.take k)[n]? = some x) : n < k ∧ l[n]? = some x := by
  rw [List.getElem?_take] at h
  split at h
  · exact ⟨‹_›, h⟩
  · cases h
theorem VR.lt {k : Nat} {v : V} {x : Value} (h : VR H μ v x) (hn : ltV k v = true) : VR H (μ.take k) v x := by
  induction h with
  | u x => exact .u x
  | b x => exact .b x
  | i k n => exact .i k n
  | s x => exact .s x
  | agg vs xs hl _ ih => exact .agg vs xs hl fun j v x hv hx => ih j v x hv hx (ltVs_get (by simpa [ltV] using hn) hv)
  | tup vs xs hl _ ih => exact .tup vs xs hl fun j v x hv hx => ih j v x hv hx (ltVs_get (by simpa [ltV] using hn) hv)
  | sl0 t own a cap => exact .sl0 t own a cap
  | sl t xs own a cap f ha hl h1 h2 _ => exact .sl t xs own a cap f ha hl h1 fun i x j v hx hv => (h2 i x j v hx hv).noref (enc_noref hv)
  | nils => exact .nils
  | nilp => exact .nilp
  | ptr n off e h => exact .ptr n off e (take_get h (by simpa [ltV, Nat.blt_eq] using hn))
  | ept n j off e h hj => exact .ept n j off e (take_get h (by simpa [ltV, Nat.blt_eq] using hn)) hj
  | ms n e h => exact .ms n e (take_get h (by simpa [ltV, Nat.blt_eq] using hn))
  | rp cs a f ha h1 _ ih => exact .rp cs a f ha h1 fun j v hv => ih j v hv (ltVs_get (by simpa [ltV] using hn) hv)
  | fn g caps xs hl _ ih => exact .fn g caps xs hl fun j v x hv hx => ih j v x hv hx (ltVs_get (by simpa [ltV] using hn) hv)
  | nilf => exact .nilf
  | ifc t v x _ ih => exact .ifc t v x (ih (by simpa [ltV] using hn))
  | nili => exact .nili
def ltOb (k : Nat) : Ob → Bool
  | .box cs => ltVs k cs
  | .arr _ _ => true
theorem ltOb_obR {k : Nat} {o : Ob} (hc : ltOb k o = true) {e : MO} (hr : ObR H μ w e o) : ObR H (μ.take k) w e o := by
  obtain ⟨cur, el, hh, hv⟩ := hr
  refine ⟨cur, el, hh, ?_⟩
  cases o with
  | box cs => exact ⟨hv.1, fun j v x h1 h2 => ⟨(hv.2 j v x h1 h2).1.lt (ltVs_get (by simpa [ltOb] using hc) h1), (hv.2 j v x h1 h2).2⟩⟩
  | arr t xs => exact ⟨hv.1, hv.2.1, hv.2.2.1, fun i x j v y h1 h2 h3 => (hv.2.2.2 i x j v y h1 h2 h3).noref (enc_noref h2)⟩
theorem Inv.cut (h : Inv g [] H μ fr O tmps w) (k : Nat) (hk : g.m0.length ≤ k) (hfr : ∀ (s : Nat) v, fr[s]? = some v → ltV k v = true) (hob : ∀ (n : Nat) o, n < k → O[n]? = some o → ltOb k o = true) :
    Inv g [] H (μ.take k) fr (O.take k) tmps w := by
  have own : ∀ q b, owns fr (O.take k) (μ.take k) tmps w q b → owns fr O μ tmps w q b := by
    intro q b hq
    rcases hq with ⟨n, e, rfl, he, rfl⟩ | ⟨v, x, h1, hb⟩
    · exact .inl ⟨n, e, rfl, (take_of he).2, rfl⟩
    · cases q with
      | obj n => cases h1
      | slot s => exact .inr ⟨v, x, h1, hb⟩
      | cell n j =>
        obtain ⟨e, cs, h2, h3, h4, h5⟩ := h1
        exact .inr ⟨v, x, ⟨e, cs, (take_of h2).2, (take_of h3).2, h4, h5⟩, hb⟩
  refine ⟨h.len, fun s v x h1 h2 => ?_, by simp [h.olen], fun n o e h1 h2 => ?_, fun n e h1 => h.hob n e (take_of h1).2, h.agree, fun q q' b h1 h2 => h.uniq q q' b (own q b h1) (own q' b h2), fun q b h1 => h.rng q b (own q b h1), h.frame, h.hle, h.hnew, h.os, h.tape, h.output, h.size, fun n e he => ?_⟩
  · have := h.slots s v x h1 h2
    exact ⟨this.1.lt (hfr s v h1), this.2⟩
  · obtain ⟨h3, h4⟩ := take_of h1
    exact ltOb_obR (hob n o h3 h4) (h.obs n o e h4 (take_of h2).2)
  · have := lt_of_get he
    exact take_get (h.mle n e he) (by omega)
end
mutual
def ltS (k : Nat) : Shp → Bool
  | .ty _ => true
  | .own _ => true
  | .ptr n _ => Nat.blt n k
  | .ms n => Nat.blt n k
  | .fn _ cs => ltSs k cs
  | .agg cs => ltSs k cs
  | .tup cs => ltSs k cs
  | .rp cs => ltSs k cs
def ltSs (k : Nat) : List Shp → Bool
  | [] => true
  | a :: r => match ltS k a with | true => ltSs k r | false => false
end
theorem noref_lt {k : Nat} : ∀ (vs : List V), (∀ v ∈ vs, Plain v) → ltVs k vs = true
  | [], _ => rfl
  | v :: r, h => by
    have h1 := h v (by simp)
    have h2 : ltV k v = true := by cases v <;> first | rfl | (simp [Plain] at h1)
    simp only [ltVs, h2]
    exact noref_lt r fun u1 hu => h u1 (by simp [hu])
theorem enc_lt (k : Nat) (t : Ty) (x : T t) : ltV k (enc t x) = true := by
  have h := noref_lt (k := k) (enc t x).cells (enc_plain t x)
  cases t <;> first | rfl | exact h
mutual
theorem pk_lt (k : Nat) : (a : Shp) → (x : ShT a) → ltS k a = true → ltV k (pk a x) = true
  | .ty t, x, _ => enc_lt k t x
  | .own t, x, _ => rfl
  | .ptr n off, x, h => h
  | .ms n, x, h => h
  | .fn f cs, x, h => pks_lt k cs x h
  | .agg cs, x, h => pks_lt k cs x h
  | .tup cs, x, h => pks_lt k cs x h
  | .rp cs, x, h => pks_lt k cs x h
theorem pks_lt (k : Nat) : (l : List Shp) → (x : ShTs l) → ltSs k l = true → ltVs k (pks l x) = true
  | [], _, _ => rfl
  | a :: r, x, h => by
    simp only [ltSs] at h
    split at h
    · rename_i h1
      simp only [pks, ltVs, pk_lt k a x.1 h1]
      exact pks_lt k r x.2 h
    · cases h
end
def ltO (k : Nat) : ObS → Bool
  | .box cs => ltSs k cs
  | .arr _ => true
def lmOK (m : LM) : Bool := m.fs.all (fun x => ltS m.os.length x.2) && m.os.all (ltO m.os.length)
theorem pkFr_lt (k n : Nat) : ∀ (l : List (Nat × Shp)) (x : FrT l), l.all (fun y => ltS k y.2) = true → ∀ (s : Nat) v, (pkFr n l x)[s]? = some v → ltV k v = true
  | [], x, _, s, v, h => by
    simp only [pkFr, List.getElem?_replicate] at h
    split at h
    · cases h; rfl
    · cases h
  | (t, a) :: r, x, hl, s, v, h => by
    simp only [List.all_cons, Bool.and_eq_true] at hl
    simp only [pkFr] at h
    by_cases e : t = s
    · subst e
      have hlt : t < n := by have := lt_of_get h; rw [List.length_set, len_pkFr] at this; exact this
      rw [List.getElem?_set_self (by rw [len_pkFr]; exact hlt)] at h
      cases h
      exact pk_lt k a x.1 hl.1
    · rw [List.getElem?_set_ne e] at h
      exact pkFr_lt k n r x.2 hl.2 s v h
theorem pkObs_get : ∀ (l : List ObS) (o : ObTs l) (n : Nat) ob, (pkObs l o)[n]? = some ob → ∃ a x, l[n]? = some a ∧ ob = pkOb a x
  | [], _, n, ob, h => by simp [pkObs] at h
  | a :: r, o, n, ob, h => by
    cases n with
    | zero => simp [pkObs] at h; exact ⟨a, o.1, rfl, h.symm⟩
    | succ n => exact pkObs_get r o.2 n ob (by simpa [pkObs] using h)
theorem len_pkObs : ∀ (l : List ObS) (o : ObTs l), (pkObs l o).length = l.length
  | [], _ => rfl
  | a :: r, o => by simp [pkObs, len_pkObs r o.2]
theorem pkOb_lt (k : Nat) (a : ObS) (x : ObT a) (h : ltO k a = true) : ltOb k (pkOb a x) = true := by
  cases a with
  | box cs => exact pks_lt k cs x h
  | arr t => rfl
theorem wp_loop_n {P : Program} {Q : Exit → Act → World → Prop} {c : Code} (I : Nat → Act → World → Prop)
    (round : ∀ n a w, I n a w → c.wp P (Exit.then (fun a' w' => ∃ n', n' < n ∧ I n' a' w') Q) a w) {n : Nat} {a : Act} {w : World} (h₀ : I n a w) : (Code.loop c).wp P Q a w := by
  intro b k cs
  have key : ∀ n a w, I n a w →
      ∃ e a' w', Q e a' w' ∧ Arrives P (lone (b.at a (.code c :: .inLoop c :: k)) cs w) b k cs e a' w' := by
    intro n
    induction n using Nat.strongRecOn with
    | _ n ih =>
      intro a w hI
      obtain ⟨e, a₁, w₁, hq, harr⟩ := round n a w hI b (.inLoop c :: k) cs
      cases e with
      | normal =>
        obtain ⟨n', hlt, hI₁⟩ := hq
        obtain ⟨e₂, a₂, w₂, hq₂, harr₂⟩ := ih n' hlt a₁ w₁ hI₁
        exact ⟨e₂, a₂, w₂, hq₂, .of_steps (Steps.trans harr (.one step_inLoop)) harr₂⟩
      | exit id => exact ⟨_, a₁, w₁, hq, .pass (x := .inLoop c) rfl (fun _ _ => .inl (by simp)) harr⟩
      | goto l => exact ⟨_, a₁, w₁, hq, .pass (x := .inLoop c) rfl (fun _ _ => .inl (by simp)) harr⟩
      | ret => exact ⟨_, a₁, w₁, hq, .pass (x := .inLoop c) rfl (fun _ _ => .inl (by simp)) harr⟩
      | panic ch => exact ⟨_, a₁, w₁, hq, .pass (x := .inLoop c) rfl (fun _ _ => .inl (by simp)) harr⟩
      | outgrown => exact ⟨_, a₁, w₁, hq, .pass (x := .inLoop c) rfl (fun _ _ => .inl (by simp)) harr⟩
  obtain ⟨e, a', w', hq, harr⟩ := key n a w h₀
  exact ⟨e, a', w', hq, .of_steps (.one step_loop) harr⟩
end Go.Ev
