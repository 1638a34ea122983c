/- New rows. -/
import Derived.Test.YtjepeadpofpadaaGreatDoorLsK1
import Derived.Laws.AppendOwn
import Derived.Laws.MakeOwn
import Derived.Orders
set_option linter.unusedSimpArgs false
set_option linter.unusedVariables false
set_option linter.unusedSectionVars false
namespace Go.Ev
open Go
def ElR (H : HM) (μ : MU) (c : Ty) (xs : List (T c)) (ys : Array Value) : Prop :=
  ∀ (i : Nat) x (j : Nat) v y, xs[i]? = some x → (enc c x).cells[j]? = some v → ys[i * c.sz + j]? = some y → VR H μ v y
theorem ElR.mono {H H' : HM} {μ μ' : MU} {c : Ty} {xs : List (T c)} {ys : Array Value} (h : ElR H μ c xs ys) (hH : H.le H') (hμ : μ.le μ') : ElR H' μ' c xs ys :=
  fun i x j v y h1 h2 h3 => (h i x j v y h1 h2 h3).mono hH hμ
def newH (H : HM) (b n : Nat) (ys : Array Value) : HM := fun b' o => if b' = b then (if o < n then ys[o]? else none) else H b' o
theorem H_new {H : HM} {w : World} (ha : ∀ b o v, H b o = some v → w.cell? ⟨b, o, none⟩ = some v) {b : Nat} (hb : w.heap.size ≤ b) (o : Nat) : H b o = none := by
  cases h : H b o with
  | none => rfl
  | some v =>
    have := ha b o v h
    simp [World.cell?, Array.getElem?_eq_none hb] at this
theorem newH_le {H : HM} {w : World} (ha : ∀ b o v, H b o = some v → w.cell? ⟨b, o, none⟩ = some v) (n : Nat) (ys : Array Value) : H.le (newH H w.heap.size n ys) := by
  intro b o v h
  unfold newH
  split
  · rename_i e; rw [e, H_new ha (Nat.le_refl _)] at h; cases h
  · exact h
structure Grown (w w' : World) (ys : Array Value) (e : TypeId) : Prop where
  new : w'.heap[w.heap.size]? = some (.cells ys e (0, 0))
  old : ∀ b, b < w.heap.size → w'.heap[b]? = w.heap[b]?
  size : w'.heap.size = w.heap.size + 1
  os : w'.os = w.os
  tape : w'.tape = w.tape
  output : w'.output = w.output
theorem Grown.alloc (w : World) (ys : Array Value) (e : TypeId) : Grown w (w.alloc (.cells ys e)) ys e :=
  ⟨heap_alloc_new w _, fun b hb => heap_alloc_old w _ b hb, World.size_alloc w _, rfl, rfl, rfl⟩
theorem Grown.drew {w : World} {ys : Array Value} {e : TypeId} : Grown w (w.drew.alloc (.cells ys e)) ys e :=
  ⟨heap_alloc_new w.drew _, fun b hb => heap_alloc_old w.drew _ b hb, World.size_alloc w.drew _, rfl, rfl, rfl⟩
theorem Grown.goes {H H' : HM} {w w' : World} {ys : Array Value} {e : TypeId} (k : Grown w w' ys e) (hle : H.le H') (hs : ∀ b o, b < w.heap.size → H' b o = H b o) : Goes H H' w w' [] :=
  ⟨hle, fun b hb _ => k.old b hb, by rw [k.size]; omega, fun b o hb _ => hs b o hb, k.os, k.tape, k.output⟩
theorem idx_lt {i j sz n : Nat} (hi : i < n) (hj : j < sz) : i * sz + j < n * sz := by
  calc i * sz + j < i * sz + sz := by omega
    _ = (i + 1) * sz := by rw [Nat.add_mul, Nat.one_mul]
    _ ≤ n * sz := Nat.mul_le_mul_right _ hi
theorem lt_of_get {α : Type} {l : List α} {i : Nat} {x : α} (h : l[i]? = some x) : i < l.length := by
  rcases Nat.lt_or_ge i l.length with h' | h'
  · exact h'
  · rw [List.getElem?_eq_none h'] at h; cases h
theorem lt_of_getA {α : Type} {l : Array α} {i : Nat} {x : α} (h : l[i]? = some x) : i < l.size := by
  rcases Nat.lt_or_ge i l.size with h' | h'
  · exact h'
  · rw [Array.getElem?_eq_none h'] at h; cases h
theorem fresh_row {H : HM} {μ : MU} {w w' : World} (ha : ∀ b o v, H b o = some v → w.cell? ⟨b, o, none⟩ = some v) {c : Ty} {xs : List (T c)} {ys : Array Value} {e : TypeId} {cap : Nat}
    (k : Grown w w' ys e) (hsz : ys.size = cap * c.sz) (hl : xs.length ≤ cap) (he : ElR H μ c xs ys) :
    ∃ H', Goes H H' w w' [] ∧ (∀ b o v, H' b o = some v → w'.cell? ⟨b, o, none⟩ = some v) ∧ VR H' μ (.sl c xs true) (.slice (some ⟨w.heap.size, 0, none⟩) xs.length cap) ∧
      OwnOK H' w' (.sl c xs true) (.slice (some ⟨w.heap.size, 0, none⟩) xs.length cap) := by
  have hle := newH_le ha (xs.length * c.sz) ys
  refine ⟨newH H w.heap.size (xs.length * c.sz) ys, k.goes hle (fun b o hb => ?_), fun b o v h => ?_, ?_, ?_⟩
  · unfold newH; rw [if_neg (by omega)]
  · unfold newH at h
    split at h
    · rename_i hb
      subst hb
      split at h
      · rw [cell_of_heap k.new]; exact h
      · cases h
    · have h' := ha b o v h
      have hlt : b < w.heap.size := by
        rcases Nat.lt_or_ge b w.heap.size with h1 | h1
        · exact h1
        · rw [H_new ha h1] at h; cases h
      rw [← h']; simp [World.cell?, k.old b hlt]
  · refine .sl c xs true ⟨w.heap.size, 0, none⟩ cap (fun i j => (ys[i * c.sz + j]?).getD undef) rfl hl (fun i x j v hx hv => ?_) (fun i x j v hx hv => ?_)
    · have hi := lt_of_get hx
      have hj : j < c.sz := by rw [← enc_len c x]; exact lt_of_get hv
      have h1 := idx_lt hi hj
      have h2 : i * c.sz + j < ys.size := by rw [hsz]; exact Nat.lt_of_lt_of_le h1 (Nat.mul_le_mul_right _ hl)
      simp only [newH, Nat.zero_add, if_true, if_pos h1]
      rw [Array.getElem?_eq_getElem h2]; rfl
    · have hi := lt_of_get hx
      have hj : j < c.sz := by rw [← enc_len c x]; exact lt_of_get hv
      have h2 : i * c.sz + j < ys.size := by rw [hsz]; exact Nat.lt_of_lt_of_le (idx_lt hi hj) (Nat.mul_le_mul_right _ hl)
      rw [Array.getElem?_eq_getElem h2]
      exact (he i x j v _ hx hv (Array.getElem?_eq_getElem h2)).mono hle (MU.le.refl μ)
  · intro t xs' eq
    cases eq
    refine .inr ⟨w.heap.size, cap, ys, e, rfl, k.new, hl, hsz, fun o ho => ?_⟩
    simp only [newH, if_true]
    rw [if_neg (by omega)]
theorem ElR.zeros {H : HM} {μ : MU} {c : Ty} (n : Nat) {zs ys : Array Value} (hz : ZRs (enc c (dflt c)).cells zs) (hy : ∀ i j y, j < c.sz → ys[i * c.sz + j]? = some y → zs[j]? = some y) :
    ElR H μ c (List.replicate n (dflt c)) ys := by
  intro i x j v y h1 h2 h3
  rw [List.getElem?_replicate] at h1
  split at h1
  · cases h1
    have hj : j < c.sz := by rw [← enc_len c (dflt c)]; exact lt_of_get h2
    exact (hz.2 j v y h2 (hy i j y hj h3) H μ default).1
  · cases h1
theorem get_overA : ∀ (us : List Value) (ys : Array Value) (o j : Nat), (overA ys o us)[j]? = if o ≤ j ∧ j < o + us.length ∧ j < ys.size then us[j - o]? else ys[j]?
  | [], cs, o, j => by
    simp only [overA, List.length_nil]
    rw [if_neg (by omega)]
  | v :: vs, cs, o, j => by
    rw [overA, get_overA vs (cs.setIfInBounds o v) (o + 1) j]
    simp only [Array.size_setIfInBounds, List.length_cons]
    by_cases h : o + 1 ≤ j ∧ j < o + 1 + vs.length ∧ j < cs.size
    · rw [if_pos h, if_pos (by omega)]
      have : j - o = (j - (o + 1)) + 1 := by omega
      rw [this]; rfl
    · rw [if_neg h]
      by_cases e : o = j
      · subst e
        by_cases hl : o < cs.size
        · rw [if_pos (by omega), Array.getElem?_setIfInBounds_self_of_lt hl]; simp
        · rw [if_neg (by omega)]; simp [hl]
      · rw [Array.getElem?_setIfInBounds_ne e, if_neg (by omega)]
theorem ElR.set {H : HM} {μ : MU} {c : Ty} {xs : List (T c)} {ys : Array Value} (h : ElR H μ c xs ys) (n : Nat) (x : T c) (us : List Value) (hl : us.length = c.sz)
    (hu : ∀ (j : Nat) v u, (enc c x).cells[j]? = some v → us[j]? = some u → VR H μ v u) : ElR H μ c (xs.set n x) (overA ys (n * c.sz) us) := by
  intro i x' j v y h1 h2 h3
  have hj : j < c.sz := by rw [← enc_len c x']; exact lt_of_get h2
  have hp := Ty.sz_pos c
  by_cases e : n = i
  · subst e
    have hi : n < xs.length := by have := lt_of_get h1; simpa using this
    rw [List.getElem?_set_self hi] at h1
    cases h1
    have h4 : n * c.sz + j < ys.size := by have := lt_of_getA h3; rw [size_overA] at this; exact this
    rw [get_overA, if_pos (by omega)] at h3
    rw [show n * c.sz + j - n * c.sz = j by omega] at h3
    exact hu j v y h2 h3
  · rw [List.getElem?_set_ne e] at h1
    rw [get_overA, if_neg] at h3
    · exact h i x' j v y h1 h2 h3
    · rintro ⟨h4, h5, _⟩
      rw [hl] at h5
      rcases Nat.lt_or_ge i n with h6 | h6
      · have := idx_lt h6 hj; omega
      · have h7 : (n + 1) * c.sz ≤ i * c.sz := Nat.mul_le_mul_right _ (by omega)
        rw [Nat.add_mul, Nat.one_mul] at h7
        omega
section
variable {P : Program} {cx : Cx} {g : Gh} {G : List (Nat × Path)} {H : HM} {μ : MU} {fr : List V} {O : List Ob} {a : Act} {w : World} {o : Oper} {p : Path}
theorem dec_cells {c : Ty} {v : V} {x : T c} {y : Value} (hd : dec c v = some x) (hv : VR H μ v y) : y.cells.size = c.sz ∧ ∀ (j : Nat) v u, (enc c x).cells[j]? = some v → y.cells[j]? = some u → VR H μ v u := by
  have h1 : VR H μ (enc c x) y := (dec_wk c v x hd).1 H μ y hv
  have h2 := h1.cells (by rw [List.all_eq_true]; exact enc_one c x)
  exact ⟨by rw [← h2.1, enc_len], h2.2⟩
theorem len_setAll {c : Ty} : ∀ (ps : List (Nat × V)) (xs r : List (T c)), setAll c xs ps = some r → r.length = xs.length
  | [], xs, r, e => by simp only [setAll] at e; cases e; rfl
  | (i, v) :: ps, xs, r, e => by
    simp only [setAll] at e
    split at e
    · rw [len_setAll ps _ r e]; simp
    · cases e
theorem fill_slice {c : Ty} {len : Nat} :
    ∀ (ps : List (Nat × V)) (qs : List (Nat × Value)) (xs : List (T c)) (ys : Array Value) (r : List (T c)), ps.length = qs.length → (∀ (j : Nat) x y, ps[j]? = some x → qs[j]? = some y → x.1 = y.1 ∧ VR H μ x.2 y.2) →
      (∀ q ∈ ps, q.1 < len) → ys.size = len * c.sz → ElR H μ c xs ys → setAll c xs ps = some r → ∃ zs, Instr.fill (fun i => some (i * c.sz, c.sz)) ys qs = some zs ∧ zs.size = len * c.sz ∧ ElR H μ c r zs
  | [], [], xs, ys, r, _, _, _, hs, h, e => by simp only [setAll] at e; cases e; exact ⟨ys, rfl, hs, h⟩
  | [], q :: qs, _, _, _, e, _, _, _, _, _ => by simp at e
  | x :: ps, [], _, _, _, e, _, _, _, _, _ => by simp at e
  | (i, v) :: ps, (i', y) :: qs, xs, ys, r, hl, hv, hin, hs, h, eq => by
    obtain ⟨hi, hvy⟩ := hv 0 _ _ rfl rfl
    simp only at hi hvy
    subst hi
    simp only [setAll] at eq
    split at eq
    · rename_i x hd
      obtain ⟨h1, h2⟩ := dec_cells hd hvy
      have hil : i < len := hin (i, v) (by simp)
      obtain ⟨zs, h3, h4, h5⟩ := fill_slice ps qs (xs.set i x) (overA ys (i * c.sz) y.cells.toList) r (by simpa using hl) (fun j x y h1 h2 => hv (j + 1) x y (by simpa using h1) (by simpa using h2)) (fun q hq => hin q (by simp [hq]))
        (by rw [size_overA]; exact hs) (h.set i x _ (by simpa using h1) (fun j v u h6 h7 => h2 j v u h6 (by simpa using h7))) eq
      refine ⟨zs, ?_, h4, h5⟩
      rw [Instr.fill]
      have hfit : i * c.sz + c.sz ≤ len * c.sz := by
        have := Nat.mul_le_mul_right c.sz (show i + 1 ≤ len by omega)
        rw [Nat.add_mul, Nat.one_mul] at this; exact this
      simp only [h1, hs]
      rw [if_neg (by simp; omega), fold_overA]
      exact h3
    · cases eq
theorem buildSlice_sound (T0 : TabOK P cx) (h : Inv g G H μ fr O a.tmps w) (hgl : GlOK cx.gl H) (hp : pcOf fr p = true) {t len e : Nat} {parts : Array (Nat × Operand)} (ho : o.op = .buildSlice t len parts) (hr : ∀ x ∈ parts.toList, readable G p x.2 = true)
    {c : Ty} {xs : List (T c)} (hk : (cx.ti t).k = .slice e) (hc : cx.ty e = some c) (hs : setAll c (List.replicate len (dflt c)) (parts.toList.map fun p => (p.1, nrm cx e (ov cx fr p.2))) = some xs)
    (hin : ∀ q ∈ parts.toList, q.1 < len) (hlim : len * c.sz ≤ 16777216) : PureRes P H μ w (execOp a.eval o) (.sl c xs true) := by
  have hok := TI.ok_of hk (by simp)
  obtain ⟨D, hD, hkD⟩ := T0.und hok
  rw [hk] at hkD; rw [tk_slice hkD] at hD
  obtain ⟨hoe, _, i, z, hi, hsz, hz, hzr⟩ := T0.ty e c hc
  have hse : (sizeOf e).run P w = .ok c.sz w := by simp [sizeOf, typeInfo, hi, hsz]
  have hzs : z.cells.size = c.sz := by rw [hzr.1, enc_len]
  have hp0 := Ty.sz_pos c
  let ys : Array Value := (Array.range (len * c.sz)).map (z.cells[· % z.cells.size]!)
  have hys : ys.size = len * c.sz := by simp [ys]
  have hel : ElR H μ c (List.replicate len (dflt c)) ys := by
    refine ElR.zeros len hzr fun i j y hj h1 => ?_
    have hlt := lt_of_getA h1
    simp only [ys] at h1
    simp only [ys, Array.size_map, Array.size_range] at hlt
    rw [Array.getElem?_map, Array.getElem?_range] at h1
    rw [if_pos hlt] at h1
    simp only [Option.map_some, Option.some.injEq] at h1
    rw [hzs, Nat.mul_comm, Nat.mul_add_mod, Nat.mod_eq_of_lt hj] at h1
    rw [← h1]
    rw [getElem!_pos z.cells j (by rw [hzs]; exact hj)]
    exact Array.getElem?_eq_getElem _
  obtain ⟨zs, h1, h2, h3⟩ := fill_slice (H := H) (μ := μ) (len := len) _ ((parts.map fun (i, x) => (i, a.eval x)).toList) _ ys xs (by simp) (fun j x y h1 h2 => by
      rw [Array.toList_map, List.getElem?_map] at h2
      rw [List.getElem?_map] at h1
      cases hc : parts.toList[j]? with
      | none => rw [hc] at h1; cases h1
      | some c' =>
        rw [hc] at h1 h2; cases h1; cases h2
        exact ⟨rfl, (nrm_val (cx := cx) e (ov_val h hgl hp (hr c' (mem_of_get hc)))).1⟩) (fun q hq => by
      rw [List.mem_map] at hq
      obtain ⟨q', hq', rfl⟩ := hq
      exact hin q' hq') hys hel hs
  have hxl : xs.length = len := by rw [len_setAll _ _ _ hs]; simp
  obtain ⟨H', hg1, hg2, hg3, hg4⟩ := fresh_row (e := e) (cap := len) h.agree (Grown.alloc w zs e) h2 (by omega) h3
  refine ⟨.slice (some ⟨w.heap.size, 0, none⟩) xs.length len, _, H', ?_, hg1, hg2, hg3, hg4, fun b hb => ?_⟩
  · simp only [execOp, ho]
    refine run_v ?_
    have hzero : (if len * c.sz = 0 then (pure #[] : Sem (Array Value)) else do pure (← zeroValue e).cells).run P w = .ok (if len * c.sz = 0 then #[] else z.cells) w := by
      split
      · rfl
      · simp [zeroValue, typeInfo, hi, hz]
    have hfill : Instr.fill (fun i => some (i * c.sz, c.sz)) ((Array.range (len * c.sz)).map ((if len * c.sz = 0 then #[] else z.cells)[· % (if len * c.sz = 0 then #[] else z.cells).size]!)) ((parts.map fun (i, x) => (i, a.eval x)).toList) = some zs := by
      by_cases h0 : len * c.sz = 0
      · have e1 : ys = #[] := by rw [← Array.size_eq_zero_iff, hys, h0]
        have : (Array.range (len * c.sz)).map ((if len * c.sz = 0 then #[] else z.cells)[· % (if len * c.sz = 0 then #[] else z.cells).size]!) = ys := by
          rw [e1]; simp [h0]
        rw [this]; exact h1
      · simp only [h0, if_false]; exact h1
    simp only [Instr.buildSlice, Sem.run_bind, run_underlying hD, Result.andThen_ok, hse]
    rw [if_neg (by omega)]
    by_cases h0 : len * c.sz = 0
    · simp only [h0, if_true] at hfill ⊢
      simp [newRow, hxl]
      simp at hfill
      simp [hfill]
    · simp only [h0, if_false] at hfill ⊢
      simp [zeroValue, typeInfo, hi, hz, newRow, hxl]
      simp at hfill
      simp [hfill]
  · simp [blkOf] at hb
    subst hb
    rw [World.size_alloc]; omega
end
end Go.Ev
namespace Go.Ev
open Go
theorem Inv.gen {g : Gh} {G : List (Nat × Path)} {H H' : HM} {μ μ' : MU} {fr : List V} {O O' : List Ob} {tmps : Array Value} {w w' : World} {ch : List Nat}
    (h : Inv g G H μ fr O tmps w) (k : Goes H H' w w' ch) (agree' : ∀ b o v, H' b o = some v → w'.cell? ⟨b, o, none⟩ = some v)
    (hμ : μ.le μ') (olen' : O'.length = μ'.length) (d : Option Nat) (ds : List Nat) (v : V) (x : Value) (hv : v.dis = v)
    (hslot : ∀ d', d = some d' → d' < fr.length → SlotR G (put (disAll fr ds) d v) H' μ' w' d' v x)
    (hS : ∀ d' s q, d = some d' → look s G = some q → d' ∈ slotsOf q → fr.getD d' .u = .u)
    (N : Nat → Prop) (hch : ∀ b ∈ ch, ∃ n e, N n ∧ μ[n]? = some e ∧ e.blk = b)
    (hold : ∀ (n : Nat) e, ¬ N n → μ'[n]? = some e → μ[n]? = some e ∧ O'[n]? = O[n]?)
    (hobs : ∀ (n : Nat) o e, N n → O'[n]? = some o → μ'[n]? = some e → ObR H' μ' w' e o)
    (hhob : ∀ (n : Nat) e, N n → μ'[n]? = some e → ∀ o, H' e.blk o = none)
    (tk : Own → Nat → Prop)
    (hobj : ∀ (n : Nat) e, N n → μ'[n]? = some e → μ[n]? = some e ∨ tk (.obj n) e.blk)
    (hcell : ∀ (n j b : Nat) v x e cs, N n → μ'[n]? = some e → O'[n]? = some (.box cs) → cs[j]? = some v → w'.cell? ⟨e.blk, j, none⟩ = some x → blkOf v x = some b → owns fr O μ tmps w (.cell n j) b ∨ tk (.cell n j) b)
    (htk : ∀ p b, tk p b → (w.heap.size ≤ b ∧ b < w'.heap.size) ∨ ∃ s ∈ ds, owns fr O μ tmps w (.slot s) b)
    (htk1 : ∀ p q b, tk p b → tk q b → p = q) :
    Inv g G H' μ' (put (disAll fr ds) d v) O' (putT tmps d x) w' := by
  have hlen : (put (disAll fr ds) d v).length = fr.length := by cases d <;> simp [put, len_disAll]
  have hbiff : ∀ s, d ≠ some s → ∀ c, fr.getD s .u = .b c ↔ (put (disAll fr ds) d v).getD s .u = .b c := by
    intro s hs c
    cases d with
    | none => exact disAll_b_iff ds fr s c
    | some d' => exact (disAll_b_iff ds fr s c).trans (set_b_iff (fun e => hs (by rw [e])) c)
  have old : ∀ (s : Nat) v' x', (put (disAll fr ds) d v)[s]? = some v' → (putT tmps d x)[s]? = some x' → d ≠ some s → ∃ v0, fr[s]? = some v0 ∧ tmps[s]? = some x' ∧ (v' = v0 ∨ v' = v0.dis) ∧ (s ∈ ds → v' = v'.dis) := by
    intro s v' x' h1 h2 hs
    have h1' : (disAll fr ds)[s]? = some v' := by
      cases d with
      | none => exact h1
      | some d' => rw [put_some, List.getElem?_set_ne (fun e => hs (by rw [e]))] at h1; exact h1
    have h2' : tmps[s]? = some x' := by
      cases d with
      | none => exact h2
      | some d' =>
        simp only [putT] at h2
        rw [Array.getElem?_setIfInBounds_ne (fun e => hs (by rw [e]))] at h2; exact h2
    obtain ⟨u0, hu, hv, hd⟩ := get_disAll ds fr s v' h1'
    exact ⟨u0, hu, h2', hv, hd⟩
  have new : ∀ v' x' d', d = some d' → (put (disAll fr ds) d v)[d']? = some v' → (putT tmps d x)[d']? = some x' → v' = v ∧ x' = x ∧ d' < fr.length := by
    intro v' x' d' hd h1 h2
    subst hd
    have hlt : d' < fr.length := by have := lt_of_get h1; rw [hlen] at this; exact this
    rw [put_some, List.getElem?_set_self (by rw [len_disAll]; exact hlt)] at h1
    simp only [putT] at h2
    rw [Array.getElem?_setIfInBounds_self_of_lt (by rw [← h.len]; exact hlt)] at h2
    cases h1; cases h2; exact ⟨rfl, rfl, hlt⟩
  have notch : ∀ p b, owns fr O μ tmps w p b → (∀ n, N n → p ≠ .obj n) → b ∉ ch := by
    intro p b hp hs hm
    obtain ⟨n, e, hN, he, rfl⟩ := hch b hm
    exact hs n hN (h.uniq p _ _ hp (.inl ⟨n, e, rfl, he, rfl⟩))
  have objlt : ∀ (n : Nat) e, μ[n]? = some e → e.blk < w.heap.size := fun n e he => (h.rng (.obj n) e.blk (.inl ⟨n, e, rfl, he, rfl⟩)).2
  have cellch : ∀ (n : Nat) e, μ[n]? = some e → ¬ N n → e.blk ∉ ch := fun n e he hN =>
    notch (.obj n) e.blk (.inl ⟨n, e, rfl, he, rfl⟩) (fun m hm e' => by injection e' with e'; exact hN (e' ▸ hm))
  have kept : ∀ p b, owns (put (disAll fr ds) d v) O' μ' (putT tmps d x) w' p b → (owns fr O μ tmps w p b ∧ ∀ s ∈ ds, p ≠ .slot s) ∨ tk p b := by
    intro p b hp
    rcases hp with ⟨n, e, rfl, he, rfl⟩ | ⟨v', x', hp, hb⟩
    · by_cases hN : N n
      · rcases hobj n e hN he with h1 | h1
        · exact .inl ⟨.inl ⟨n, e, rfl, h1, rfl⟩, fun s _ e' => by cases e'⟩
        · exact .inr h1
      · exact .inl ⟨.inl ⟨n, e, rfl, (hold n e hN he).1, rfl⟩, fun s _ e' => by cases e'⟩
    · cases p with
      | obj n => cases hp
      | slot s =>
        by_cases hd : d = some s
        · obtain ⟨e1, _, _⟩ := new v' x' s hd hp.1 hp.2
          subst e1
          rw [blkOf_of_dis hv] at hb; cases hb
        · obtain ⟨v0, h1, h2, h3, h4⟩ := old s v' x' hp.1 hp.2 hd
          rcases h3 with rfl | rfl
          · refine .inl ⟨.inr ⟨v', x', ⟨h1, h2⟩, hb⟩, fun s' hs' e => ?_⟩
            injection e with e; subst e
            rw [h4 hs', blkOf_dis] at hb; cases hb
          · rw [blkOf_dis] at hb; cases hb
      | cell n j =>
        obtain ⟨e, cs, h1, h2, h3, h4⟩ := hp
        by_cases hN : N n
        · rcases hcell n j b v' x' e cs hN h1 h2 h3 h4 hb with h5 | h5
          · exact .inl ⟨h5, fun s _ e' => by cases e'⟩
          · exact .inr h5
        · obtain ⟨h5, h6⟩ := hold n e hN h1
          rw [k.cell j (objlt n e h5) (cellch n e h5 hN)] at h4
          exact .inl ⟨.inr ⟨v', x', ⟨e, cs, h5, by rw [← h6]; exact h2, h3, h4⟩, hb⟩, fun s _ e' => by cases e'⟩
  refine ⟨by rw [hlen, h.len]; cases d <;> simp [putT], fun s v' x' h1 h2 => ?_, olen', fun n o e ho he => ?_, fun n e he => ?_, agree', fun p q b hp hq => ?_, fun p b hp => ?_, fun b hb hn => ?_,
    fun b o v hv => k.hle b o v (h.hle b o v hv), fun b o hne => ?_, k.os.trans h.os, k.tape.trans h.tape, k.output.trans h.output, Nat.le_trans h.size k.size, fun n e he => hμ n e (h.mle n e he)⟩
  · by_cases hd : d = some s
    · obtain ⟨e1, e2, hlt⟩ := new v' x' s hd h1 h2
      subst e1; subst e2
      exact hslot s hd hlt
    · obtain ⟨v0, h3, h4, h5, h6⟩ := old s v' x' h1 h2 hd
      refine SlotR.goes k hμ (h.slots s v0 x' h3 h4) h5 (fun q hq hu hr => ?_) (fun b hb => ?_)
      · have hh : ∀ t ∈ slotsOf q, ∀ c, fr.getD t .u = .b c ↔ (put (disAll fr ds) d v).getD t .u = .b c := by
          intro t ht
          refine hbiff t fun e => ?_
          obtain ⟨c, hc⟩ := ready_b hr ht
          rw [hS t s q e hq ht] at hc; cases hc
        exact ⟨(ready_congr hh).symm, (pcOf_congr hh).symm⟩
      · rcases h5 with rfl | rfl
        · exact notch (.slot s) b (.inr ⟨v', x', ⟨h3, h4⟩, hb⟩) (fun n _ e => by cases e)
        · rw [blkOf_dis] at hb; cases hb
  · by_cases hN : N n
    · exact hobs n o e hN ho he
    · obtain ⟨h5, h6⟩ := hold n e hN he
      rw [h6] at ho
      refine (h.obs n o e ho h5).goes k hμ (cellch n e h5 hN) fun cs hcs j v' x' b hj hc hb => ?_
      subst hcs
      exact notch (.cell n j) b (.inr ⟨v', x', ⟨e, cs, h5, ho, hj, hc⟩, hb⟩) (fun n _ e => by cases e)
  · by_cases hN : N n
    · exact hhob n e hN he
    · obtain ⟨h5, _⟩ := hold n e hN he
      intro o
      rw [k.hsame e.blk o (objlt n e h5) (cellch n e h5 hN)]; exact h.hob n e h5 o
  · rcases kept p b hp with ⟨h1, h2⟩ | h1 <;> rcases kept q b hq with ⟨h3, h4⟩ | h3
    · exact h.uniq p q b h1 h3
    · rcases htk q b h3 with h5 | ⟨s, hs, h5⟩
      · have := (h.rng p b h1).2; omega
      · exact absurd (h.uniq p _ b h1 h5) (h2 s hs)
    · rcases htk p b h1 with h5 | ⟨s, hs, h5⟩
      · have := (h.rng q b h3).2; omega
      · exact absurd (h.uniq q _ b h3 h5) (h4 s hs)
    · exact htk1 p q b h1 h3
  · rcases kept p b hp with ⟨h1, _⟩ | h1
    · exact ⟨(h.rng p b h1).1, Nat.lt_of_lt_of_le (h.rng p b h1).2 k.size⟩
    · rcases htk p b h1 with h5 | ⟨s, hs, h5⟩
      · exact ⟨.inl (Nat.le_trans h.size h5.1), h5.2⟩
      · exact ⟨(h.rng _ b h5).1, Nat.lt_of_lt_of_le (h.rng _ b h5).2 k.size⟩
  · have hc : b ∉ ch := fun hm => by
      obtain ⟨n, e, _, he, rfl⟩ := hch b hm
      rcases (h.rng (.obj n) e.blk (.inl ⟨n, e, rfl, he, rfl⟩)).1 with h1 | h1
      · omega
      · exact hn h1
    rw [k.heap b (Nat.lt_of_lt_of_le hb h.size) hc]; exact h.frame b hb hn
  · by_cases hb : b < w.heap.size
    · by_cases hc : b ∈ ch
      · obtain ⟨n, e, _, he, rfl⟩ := hch b hc
        exact (h.rng (.obj n) e.blk (.inl ⟨n, e, rfl, he, rfl⟩)).1
      · rw [k.hsame b o hb hc] at hne; exact h.hnew b o hne
    · exact .inl (by have := h.size; omega)
end Go.Ev
namespace Go.Ev
open Go
def DstOK (G : List (Nat × Path)) (p : Path) (fr : List V) (d : Option Nat) : Prop :=
  ∀ d', d = some d' → (look d' G = none ∨ (look d' G = some p ∧ ready fr p = true)) ∧ ∀ s q, look s G = some q → d' ∈ slotsOf q → fr.getD d' .u = .u
theorem DstOK.notin {G : List (Nat × Path)} {p : Path} {fr : List V} {d : Option Nat} (h : DstOK G p fr d) {d' : Nat} (hd : d = some d') (hl : look d' G = some p) (hr : ready fr p = true) : d' ∉ slotsOf p := fun hm => by
  obtain ⟨c, hc⟩ := ready_b hr hm
  rw [(h d' hd).2 d' p hl hm] at hc; cases hc
theorem DstOK.path {G : List (Nat × Path)} {p : Path} {fr : List V} {d : Option Nat} (h : DstOK G p fr d) {d' : Nat} (hd : d = some d') (hl : look d' G = some p) (hr : ready fr p = true) (ds : List Nat) (v : V) :
    ready (put (disAll fr ds) d v) p = ready fr p ∧ pcOf (put (disAll fr ds) d v) p = pcOf fr p := by
  have hh : ∀ t ∈ slotsOf p, ∀ c, fr.getD t .u = .b c ↔ (put (disAll fr ds) d v).getD t .u = .b c := by
    intro t ht c
    subst hd
    exact (disAll_b_iff ds fr t c).trans (set_b_iff (fun e => h.notin rfl hl hr (by rw [← e]; exact ht)) c)
  exact ⟨(ready_congr hh).symm, (pcOf_congr hh).symm⟩
theorem DstOK.slotR {G : List (Nat × Path)} {p : Path} {fr : List V} {d : Option Nat} (h : DstOK G p fr d) (hp : pcOf fr p = true) {H : HM} {μ : MU} {w : World} {ds : List Nat} {v : V} {x : Value} (hv : Val H μ w v x)
    (d' : Nat) (hd : d = some d') : SlotR G (put (disAll fr ds) d v) H μ w d' v x := by
  unfold SlotR
  rcases (h d' hd).1 with h1 | ⟨h1, h2⟩
  · simp only [h1]; exact hv
  · simp only [h1]
    obtain ⟨e1, e2⟩ := h.path hd h1 h2 ds v
    exact .inr ⟨by rw [e1]; exact h2, fun _ => hv, fun e => by rw [e2, hp] at e; cases e⟩
def EffRes (P : Program) (g : Gh) (G : List (Nat × Path)) (tmps : Array Value) (w : World) (d : Option Nat) (r : Sem Next) (fr' : List V) (O' : List Ob) : Prop :=
  ∃ n x w' H' μ', r.run P w = .ok n w' ∧ (n = .value x ∨ (n = .skip ∧ x = undef)) ∧ Inv g G H' μ' fr' O' (putT tmps d x) w'
section
variable {P : Program} {cx : Cx} {g : Gh} {G : List (Nat × Path)} {H : HM} {μ : MU} {fr : List V} {O : List Ob} {a : Act} {w : World} {o : Oper} {p : Path}
theorem PureRes.eff (h : Inv g G H μ fr O a.tmps w) (hp : pcOf fr p = true) (hd : DstOK G p fr o.dst) {r : Sem Next} {v : V} (hr : PureRes P H μ w r v) : EffRes P g G a.tmps w o.dst r (put fr o.dst v) O := by
  obtain ⟨x, w', H', h1, h2, h3, h4, h5, h6⟩ := hr
  refine ⟨.value x, x, w', H', μ, h1, .inl rfl, ?_⟩
  exact h.step h2 h3 o.dst [] v x (fun b hb => by cases hb) (fun d' e _ => hd.slotR hp ⟨h4, h5⟩ d' e) (fun b hb => .inl (h6 b hb)) (fun d' s q e => (hd d' e).2 s q)
theorem own_slot {x : Operand} (hv : Val H μ w (ov cx fr x) (a.eval x)) {t : Nat} {b : Nat} (hb : blkOf (nrm cx t (ov cx fr x)) (a.eval x) = some b) (hlen : fr.length = a.tmps.size) : ∃ s ∈ slotOf x, owns fr O μ a.tmps w (.slot s) b := by
  have hb' : blkOf (ov cx fr x) (a.eval x) = some b := by
    by_cases hn : ov cx fr x = .nils
    · rw [hn] at hv
      have := hv.1
      generalize a.eval x = z at this hb
      cases this
      rw [hn] at hb
      unfold blkOf at hb
      split at hb
      · rename_i e1 e2; cases e2
      · cases hb
    · have : nrm cx t (ov cx fr x) = ov cx fr x := by
        unfold nrm
        split
        · exact absurd ‹_› hn
        · rfl
      rw [this] at hb; exact hb
  cases x with
  | tmp s =>
    simp only [ov, Act.eval] at hb'
    have hlt : s < fr.length := by
      rcases Nat.lt_or_ge s fr.length with h' | h'
      · exact h'
      · rw [show fr.getD s .u = .u by simp [List.getD, List.getElem?_eq_none h']] at hb'
        simp [blkOf] at hb'
    refine ⟨s, by simp [slotOf], .inr ⟨fr.getD s .u, a.tmps.getD s undef, ⟨?_, ?_⟩, hb'⟩⟩
    · simp [List.getD, List.getElem?_eq_getElem hlt]
    · have : s < a.tmps.size := by rw [← hlen]; exact hlt
      simp [Array.getD, this]
  | const v =>
    simp only [ov] at hb'
    rw [blkOf_of_dis (constV_dis v)] at hb'; cases hb'
  | global n =>
    simp only [ov] at hb'
    split at hb' <;> simp [blkOf] at hb'
  | func f => simp [ov, blkOf] at hb'
theorem pass_sound (h : Inv g G H μ fr O a.tmps w) (hgl : GlOK cx.gl H) (hp : pcOf fr p = true) (hd : DstOK G p fr o.dst) {x : Operand} (ho : o.op = .move x ∨ o.op = .assign x) (hr : readable G p x = true) (t : Nat) :
    EffRes P g G a.tmps w o.dst (execOp a.eval o) (put (disAll fr (slotOf x)) o.dst (nrm cx t (ov cx fr x))) O := by
  have hv := ov_val h hgl hp hr
  refine ⟨.value (a.eval x), a.eval x, w, H, μ, by rcases ho with ho | ho <;> simp [execOp, ho], .inl rfl, ?_⟩
  exact h.step (Goes.refl H w) h.agree o.dst (slotOf x) _ _ (fun b hb => by cases hb) (fun d' e _ => hd.slotR hp (nrm_val (cx := cx) t hv) d' e)
    (fun b hb => .inr (own_slot hv hb h.len)) (fun d' s q e => (hd d' e).2 s q)
theorem Inv.newObj (h : Inv g G H μ fr O a.tmps w) (hp : pcOf fr p = true) (hd : DstOK G p fr o.dst) {w' : World} {ys : Array Value} {el : TypeId} (kw : Grown w w' ys el) (ob : Ob) (esz len : Nat)
    (hob : ObR H (μ ++ [⟨w.heap.size, esz, len⟩]) w' ⟨w.heap.size, esz, len⟩ ob) (ds : List Nat)
    (hcells : ∀ cs, ob = .box cs → ∀ (j : Nat) v x b, cs[j]? = some v → ys[j]? = some x → blkOf v x = some b → j = 0 ∧ ∃ s ∈ ds, owns fr O μ a.tmps w (.slot s) b)
    {v : V} (hvd : v.dis = v) {x : Value} (hx : VR H (μ ++ [⟨w.heap.size, esz, len⟩]) v x) :
    Inv g G H (μ ++ [⟨w.heap.size, esz, len⟩]) (put (disAll fr ds) o.dst v) (O ++ [ob]) (putT a.tmps o.dst x) w' := by
  have hget : ∀ (n : Nat) e, n ≠ O.length → (μ ++ [⟨w.heap.size, esz, len⟩])[n]? = some e → n < O.length ∧ μ[n]? = some e := by
    intro n e hn he
    have hl := lt_of_get he
    simp only [List.length_append, List.length_cons, List.length_nil] at hl
    rw [h.olen] at hn ⊢
    have hl' : n < μ.length := by omega
    rw [List.getElem?_append_left hl'] at he
    exact ⟨hl', he⟩
  have hlast : (μ ++ [⟨w.heap.size, esz, len⟩])[O.length]? = some (⟨w.heap.size, esz, len⟩ : MO) := by rw [h.olen]; simp
  refine h.gen (kw.goes (HM.le.refl H) (fun _ _ _ => rfl)) (fun b o v hv => ?_) (MU.le.app μ _) (by simp [h.olen]) o.dst ds v x hvd (fun d' e _ => hd.slotR hp (.of_dis hx hvd) d' e) (fun d' s q e => (hd d' e).2 s q)
    (fun n => n = O.length) (fun b hb => by cases hb) (fun n e hn he => ?_) (fun n o e hn ho he => ?_) (fun n e hn he o => ?_)
    (fun p b => (p = .obj O.length ∧ b = w.heap.size) ∨ (p = .cell O.length 0 ∧ ∃ s ∈ ds, owns fr O μ a.tmps w (.slot s) b)) (fun n e hn he => ?_) (fun n j b v x e cs hn he ho hj hc hb => ?_) (fun p b ht => ?_) (fun p q b hp hq => ?_)
  · have h' := h.agree b o v hv
    have hlt : b < w.heap.size := by
      rcases Nat.lt_or_ge b w.heap.size with h1 | h1
      · exact h1
      · rw [H_new h.agree h1] at hv; cases hv
    rw [← h']; simp [World.cell?, kw.old b hlt]
  · obtain ⟨h1, h2⟩ := hget n e hn he
    exact ⟨h2, List.getElem?_append_left h1⟩
  · subst hn
    rw [hlast] at he; cases he
    rw [List.getElem?_append_right (Nat.le_refl _)] at ho
    simp at ho; subst ho; exact hob
  · subst hn
    rw [hlast] at he; cases he
    exact H_new h.agree (Nat.le_refl _) o
  · subst hn
    rw [hlast] at he; cases he
    exact .inr (.inl ⟨rfl, rfl⟩)
  · subst hn
    rw [hlast] at he; cases he
    rw [List.getElem?_append_right (Nat.le_refl _)] at ho
    simp at ho
    rw [cell_of_heap kw.new] at hc
    obtain ⟨rfl, h1⟩ := hcells cs ho j v x b hj hc hb
    exact .inr (.inr ⟨rfl, h1⟩)
  · rcases ht with ⟨rfl, rfl⟩ | ⟨rfl, h1⟩
    · exact .inl ⟨Nat.le_refl _, by rw [kw.size]; omega⟩
    · exact .inr h1
  · rcases hp with ⟨rfl, h1⟩ | ⟨rfl, s, _, h1⟩ <;> rcases hq with ⟨rfl, h2⟩ | ⟨rfl, s', _, h2⟩
    · rfl
    · have := (h.rng _ b h2).2; omega
    · have := (h.rng _ b h1).2; omega
    · rfl
theorem alloc_sound (T0 : TabOK P cx) (h : Inv g G H μ fr O a.tmps w) (hp : pcOf fr p = true) (hd : DstOK G p fr o.dst) {e : Nat} (ho : o.op = .alloc e) (hok : (cx.ti e).ok = true) :
    EffRes P g G a.tmps w o.dst (execOp a.eval o) (put (disAll fr []) o.dst (.ptr O.length 0)) (O ++ [.box (zeroV cx 8 e)]) := by
  obtain ⟨i, z, hi, hz, hzr⟩ := T0.zero e hok
  refine ⟨_, .pointer (some ⟨w.heap.size, 0, none⟩), w.alloc (.cells z.cells e), H, _, ?_, .inl rfl, h.newObj hp hd (Grown.alloc w z.cells e) _ 0 0 ?_ [] ?_ rfl ?_⟩
  · simp [execOp, ho, Instr.alloc, zeroValue, typeInfo, hi, hz, newVar, newRow]
  · exact ⟨z.cells, e, (Grown.alloc w z.cells e).new, hzr.1, fun j v x h1 h2 => hzr.2 j v x h1 h2 H _ _⟩
  · intro cs hcs j v x b h1 h2 h3
    cases hcs
    exfalso
    have hown := (hzr.2 j v x h1 h2 H μ { w with heap := #[] }).2
    unfold blkOf at h3
    split at h3
    · rcases hown _ _ rfl with ⟨h4, _⟩ | ⟨_, _, _, _, _, h4, _⟩
      · cases h4
      · simp at h4
    · cases h3
  · exact .ptr O.length 0 ⟨w.heap.size, 0, 0⟩ (by rw [h.olen]; simp)
theorem one_agg {v : V} {x : Value} (h : VR H μ v x) (ho : v.cells.all V.one = true) : (∃ cs, v = .agg cs) ∨ (v.cellsD = [v] ∧ x.cells = #[x]) := by
  cases h <;> first | exact .inl ⟨_, rfl⟩ | exact .inr ⟨rfl, rfl⟩ | (simp [V.cells, V.one] at ho)
theorem cellsD_val {v : V} {x : Value} {w : World} (hv : Val H μ w v x) (ho : v.cells.all V.one = true) :
    v.cellsD.length = x.cells.size ∧ (∀ (j : Nat) c d, v.cellsD[j]? = some c → x.cells[j]? = some d → Val H μ w c d) ∧
      (∀ (j : Nat) c d b, v.cellsD[j]? = some c → x.cells[j]? = some d → blkOf c d = some b → j = 0 ∧ v.cellsD.length = 1 ∧ blkOf v x = some b) := by
  rcases one_agg hv.1 ho with ⟨cs, rfl⟩ | ⟨e1, e2⟩
  · obtain ⟨h1, h2⟩ := hv.1.cells ho
    refine ⟨by simpa [V.cellsD, V.cells] using h1, fun j c d h3 h4 => ?_, fun j c d b h3 h4 h5 => ?_⟩
    · simp only [V.cellsD, List.getElem?_map] at h3
      cases hc : cs[j]? with
      | none => rw [hc] at h3; cases h3
      | some c' => rw [hc] at h3; cases h3; exact .of_dis (h2 j c' d hc h4).dis (V.dis_dis _)
    · simp only [V.cellsD, List.getElem?_map] at h3
      cases hc : cs[j]? with
      | none => rw [hc] at h3; cases h3
      | some c' => rw [hc] at h3; cases h3; rw [blkOf_dis] at h5; cases h5
  · rw [e1, e2]
    refine ⟨rfl, fun j c d h3 h4 => ?_, fun j c d b h3 h4 h5 => ?_⟩
    · cases j with
      | zero => simp at h3 h4; subst h3; subst h4; exact hv
      | succ j => simp at h3
    · cases j with
      | zero => simp at h3 h4; subst h3; subst h4; exact ⟨rfl, rfl, h5⟩
      | succ j => simp at h3
theorem box_sound (h : Inv g G H μ fr O a.tmps w) (hgl : GlOK cx.gl H) (hp : pcOf fr p = true) (hd : DstOK G p fr o.dst) {e : Nat} {x : Operand} (ho : o.op = .box e x) (hr : readable G p x = true)
    (h1 : (nrm cx e (ov cx fr x)).cells.all V.one = true) :
    EffRes P g G a.tmps w o.dst (execOp a.eval o) (put (disAll fr (slotOf x)) o.dst (.ptr O.length 0)) (O ++ [.box (nrm cx e (ov cx fr x)).cellsD]) := by
  have hv := ov_val h hgl hp hr
  obtain ⟨h2, h3, h4⟩ := cellsD_val (nrm_val (cx := cx) e hv) h1
  have kw := Grown.alloc w (a.eval x).cells e
  refine ⟨_, .pointer (some ⟨w.heap.size, 0, none⟩), w.alloc (.cells (a.eval x).cells e), H, _, ?_, .inl rfl, h.newObj hp hd kw _ 0 0 ?_ (slotOf x) ?_ rfl ?_⟩
  · simp [execOp, ho, Instr.box, newVar, newRow]
  · refine ⟨_, e, kw.new, h2.symm, fun j v x' h5 h6 => ?_⟩
    exact (h3 j v x' h5 h6).goes (kw.goes (HM.le.refl H) (fun _ _ _ => rfl)) (MU.le.app μ _) (fun b _ hb => by cases hb)
  · intro cs hcs j v x' b h5 h6 h7
    cases hcs
    obtain ⟨h8, _, h9⟩ := h4 j v x' b h5 h6 h7
    exact ⟨h8, own_slot hv h9 h.len⟩
  · exact .ptr O.length 0 ⟨w.heap.size, 0, 0⟩ (by rw [h.olen]; simp)
end
end Go.Ev
namespace Go.Ev
open Go
section
variable {P : Program} {cx : Cx} {g : Gh} {G : List (Nat × Path)} {H : HM} {μ : MU} {fr : List V} {O : List Ob} {a : Act} {w : World} {o : Oper} {p : Path}
theorem get_madeCells {z : Array Value} {n i j sz : Nat} {y : Value} (hz : z.size = sz) (hj : j < sz) (h : (madeCells z n)[i * sz + j]? = some y) : z[j]? = some y := by
  have hlt := lt_of_getA h
  rw [size_madeCells] at hlt
  simp only [madeCells] at h
  rw [Array.getElem?_map, Array.getElem?_range, if_pos hlt] at h
  simp only [Option.map_some, Option.some.injEq] at h
  rw [hz, Nat.mul_comm, Nat.mul_add_mod, Nat.mod_eq_of_lt hj] at h
  rw [← h, getElem!_pos z j (by rw [hz]; exact hj)]
  exact Array.getElem?_eq_getElem _
theorem makeSlice_sound (T0 : TabOK P cx) (h : Inv g G H μ fr O a.tmps w) (hgl : GlOK cx.gl H) (hp : pcOf fr p = true) (hd : DstOK G p fr o.dst) {t e : Nat} {l c : Operand} (ho : o.op = .makeSlice t l c)
    (hr1 : readable G p l = true) (hr2 : readable G p c = true) {n : Int} {k : Ty} (hk : (cx.ti t).k = .slice e) (hl : ov cx fr l = .i .i64 n) (hc : ov cx fr c = .i .i64 n) (hn : 0 ≤ n) (hroom : n.toNat * (cx.ti e).bytes ≤ roomMax)
    (hty : cx.ty e = some k) :
    EffRes P g G a.tmps w o.dst (execOp a.eval o) (put (disAll fr []) o.dst (.ms O.length)) (O ++ [.arr k (xrep k n.toNat)]) := by
  have hok := TI.ok_of hk (by simp)
  obtain ⟨D, hD, hkD⟩ := T0.und hok
  rw [hk] at hkD; rw [tk_slice hkD] at hD
  obtain ⟨hoe, _, i, z, hi, hsz, hz, hzr⟩ := T0.ty e k hty
  obtain ⟨_, i', hi', hs', hb'⟩ := T0.ti e hoe
  rw [hi] at hi'; cases hi'
  have hbyt := T0.byt e hoe
  have hp0 := Ty.sz_pos k
  have hb1 : 1 ≤ i.bytes := by rw [hb']; omega
  have hz2 : z.cells.size = k.sz := by rw [hzr.1, enc_len]
  have hm : n.toNat * i.bytes ≤ 70368744177664 := by rw [hb']; exact hroom
  have hn2 : n.toNat ≤ n.toNat * i.bytes := Nat.le_mul_of_pos_right _ hb1
  have e1 := int_of (ov_val h hgl hp hr1 |>.1.mono (HM.le.refl H) (MU.le.refl μ) |> fun q => by rw [hl] at q; exact q)
  have e2 := int_of (ov_val h hgl hp hr2 |>.1.mono (HM.le.refl H) (MU.le.refl μ) |> fun q => by rw [hc] at q; exact q)
  have hbig : (i.bytes : Int) * n ≤ 281474976710656 := by
    have h1 : ((n.toNat * i.bytes : Nat) : Int) ≤ 281474976710656 := by omega
    rw [Int.natCast_mul, Int.toNat_of_nonneg hn, Int.mul_comm] at h1
    exact h1
  have hrun := run_make (P := P) w t e i z hD hi hz .i64 .i64 n n hn (Int.le_refl n) hbig (by omega)
  rw [hsz] at hrun
  have kw := Grown.alloc w (madeCells z.cells (n.toNat * k.sz)) e
  refine ⟨_, _, w.alloc (.cells (madeCells z.cells (n.toNat * k.sz)) e), H, _, ?_, .inl rfl, h.newObj hp hd kw _ k.sz n.toNat ?_ [] ?_ rfl (.ms O.length ⟨w.heap.size, k.sz, n.toNat⟩ (by rw [h.olen]; simp))⟩
  · simp only [execOp, ho, e1, e2]
    exact run_v hrun
  · refine ⟨_, e, kw.new, rfl, by simp [xrep], by rw [size_madeCells]; simp [xrep], ?_⟩
    exact ElR.zeros n.toNat hzr (fun i j y hj h1 => get_madeCells hz2 hj h1)
  · intro cs hcs; cases hcs
theorem Inv.setObj (h : Inv g G H μ fr O a.tmps w) (hp : pcOf fr p = true) (hd : DstOK G p fr o.dst) {n : Nat} {e : MO} {ob : Ob} (he : μ[n]? = some e) (hO : O[n]? = some ob) (ob' : Ob) (ys : Array Value)
    (hob : ObR H μ (w.setRow e.blk ys) e ob') (ds : List Nat)
    (hcells : ∀ cs, ob' = .box cs → ∀ (j : Nat) v x b, cs[j]? = some v → (w.setRow e.blk ys).cell? ⟨e.blk, j, none⟩ = some x → blkOf v x = some b → owns fr O μ a.tmps w (.cell n j) b ∨ ∃ s ∈ ds, owns fr O μ a.tmps w (.slot s) b)
    (hone : ∀ cs, ob' = .box cs → ∀ (j j' : Nat) v v' x x' b, cs[j]? = some v → cs[j']? = some v' → (w.setRow e.blk ys).cell? ⟨e.blk, j, none⟩ = some x → (w.setRow e.blk ys).cell? ⟨e.blk, j', none⟩ = some x' → blkOf v x = some b → blkOf v' x' = some b → (∃ s ∈ ds, owns fr O μ a.tmps w (.slot s) b) → j = j')
    {v : V} (hvd : v.dis = v) {x : Value} (hx : VR H μ v x) :
    Inv g G H μ (put (disAll fr ds) o.dst v) (O.set n ob') (putT a.tmps o.dst x) (w.setRow e.blk ys) := by
  have hset : ∀ b, b ≠ e.blk → (w.setRow e.blk ys).heap[b]? = w.heap[b]? := fun b hb => setRow_other w e.blk b ys hb
  have k : Goes H H w (w.setRow e.blk ys) [e.blk] := ⟨HM.le.refl H, fun b _ hn => hset b (by simpa using hn), by rw [setRow_size]; exact Nat.le_refl _, fun _ _ _ _ => rfl, rfl, rfl, rfl⟩
  have hnl : n < O.length := lt_of_get hO
  refine h.gen k (fun b o v hv => ?_) (MU.le.refl μ) (by simpa using h.olen) o.dst ds v x hvd (fun d' e _ => hd.slotR hp (.of_dis hx hvd) d' e) (fun d' s q e => (hd d' e).2 s q)
    (fun m => m = n) (fun b hb => ⟨n, e, rfl, he, (List.mem_singleton.1 hb).symm⟩) (fun m e' hm he' => ⟨he', ?_⟩) (fun m o' e' hm ho he' => ?_) (fun m e' hm he' o => ?_)
    (fun q b => ∃ j, q = .cell n j ∧ (∃ s ∈ ds, owns fr O μ a.tmps w (.slot s) b) ∧ ∃ cs v x, ob' = .box cs ∧ cs[j]? = some v ∧ (w.setRow e.blk ys).cell? ⟨e.blk, j, none⟩ = some x ∧ blkOf v x = some b) (fun m e' hm he' => .inl he') (fun m j b v x e' cs hm he' ho hj hc hb => ?_) (fun q b ht => ?_) (fun q r b hq hr => ?_)
  · have h' := h.agree b o v hv
    have hne : b ≠ e.blk := fun eq => by rw [eq, h.hob n e he] at hv; cases hv
    rw [← h']; simp [World.cell?, hset b hne]
  · rw [List.getElem?_set_ne (fun eq => hm eq.symm)]
  · subst hm
    rw [he] at he'; cases he'
    rw [List.getElem?_set_self hnl] at ho; cases ho
    exact hob
  · subst hm; exact h.hob _ e' he' o
  · subst hm
    rw [he] at he'; cases he'
    rw [List.getElem?_set_self hnl] at ho; cases ho
    rcases hcells cs rfl j v x b hj hc hb with h1 | h1
    · exact .inl h1
    · exact .inr ⟨j, rfl, h1, cs, v, x, rfl, hj, hc, hb⟩
  · obtain ⟨j, _, h1, _⟩ := ht; exact .inr h1
  · obtain ⟨j, rfl, h1, cs, v, x, e1, e2, e3, e4⟩ := hq
    obtain ⟨j', rfl, _, cs', v', x', e1', e2', e3', e4'⟩ := hr
    rw [e1] at e1'; cases e1'
    rw [hone cs e1 j j' v v' x x' b e2 e2' e3 e3' e4 e4' h1]
theorem overA_eq (cur : Array Value) (o : Nat) (vs : List Value) (h : o + vs.length ≤ cur.size) : (cur.toList.take o ++ vs ++ cur.toList.drop (o + vs.length)).toArray = overA cur o vs := by
  apply Array.ext_getElem?
  intro j
  rw [get_overA]
  simp only [List.getElem?_toArray, List.append_assoc]
  rw [List.getElem?_append, List.getElem?_append]
  simp only [List.length_take, Array.length_toList, List.getElem?_take, List.getElem?_drop, Array.getElem?_toList]
  have h1 : min o cur.size = o := by omega
  rw [h1]
  by_cases c1 : j < o
  · rw [if_pos c1, if_pos c1, if_neg (by omega)]
  · rw [if_neg c1]
    by_cases c2 : j - o < vs.length
    · rw [if_pos c2, if_pos (by omega)]
    · rw [if_neg c2, if_neg (by omega)]
      congr 1; omega
theorem run_store_over (P : Program) {b o : Nat} {el : TypeId} {cur : Array Value} {vs : List Value} (hg : w.heap[b]? = some (.cells cur el (0, 0))) (hl : o + vs.length ≤ cur.size) (h1 : ∀ v ∈ vs, v.oneCell' = true) :
    (storeCells ⟨b, o, none⟩ vs).run P w = .ok () (w.setRow b (overA cur o vs)) := by
  rw [run_storeCells_at P b o el vs 0 cur w hg (by simpa using hl) h1, Nat.add_zero, overA_eq cur o vs hl]
theorem run_storeAt (T0 : TabOK P cx) {t b o : Nat} {el : TypeId} {cur : Array Value} {y : Value} (hok : (cx.ti t).ok = true) (hs : y.cells.size = (cx.ti t).sz) (hg : w.heap[b]? = some (.cells cur el (0, 0))) (hl : o + y.cells.size ≤ cur.size)
    (h1 : ∀ v ∈ y.cells.toList, v.oneCell' = true) : (Instr.storeAt t (.pointer (some ⟨b, o, none⟩)) y).run P w = .ok () (w.setRow b (overA cur o y.cells.toList)) := by
  simp [Instr.storeAt, Instr.sureAddr, storeVar, T0.run_sizeOf hok, hs, run_store_over P hg (vs := y.cells.toList) (by simpa using hl) h1]
theorem cells_one {v : V} {y : Value} (hv : VR H μ v y) (ho : v.cells.all V.one = true) : ∀ u ∈ y.cells.toList, u.oneCell' = true := by
  intro u hu
  obtain ⟨h1, h2⟩ := hv.cells ho
  obtain ⟨j, hj, rfl⟩ := List.mem_iff_getElem.1 hu
  have hj' : j < v.cells.length := by rw [h1]; simpa using hj
  refine (h2 j _ _ (List.getElem?_eq_getElem hj') (by simp)).oneCell ?_
  rw [List.all_eq_true] at ho
  exact ho _ (List.getElem_mem hj')
theorem run_u {s : Sem Unit} {w' : World} (h : s.run P w = .ok () w') : (do s; pure .skip : Sem Next).run P w = .ok .skip w' := by simp [h]
end
end Go.Ev
namespace Go.Ev
open Go
section
variable {P : Program} {cx : Cx} {g : Gh} {G : List (Nat × Path)} {H : HM} {μ : MU} {fr : List V} {O : List Ob} {a : Act} {w : World} {o : Oper} {p : Path}
theorem goes_setRow {b : Nat} {ys : Array Value} : Goes H H w (w.setRow b ys) [b] :=
  ⟨HM.le.refl H, fun c _ hn => setRow_other w b c ys (by simpa using hn), by rw [setRow_size]; exact Nat.le_refl _, fun _ _ _ _ => rfl, rfl, rfl, rfl⟩
theorem over_cells {cs vs : List V} {cur : Array Value} {us : List Value} {off : Nat} (hs : cur.size = cs.length) (hl : vs.length = us.length) {j : Nat} {v : V} {x : Value} (h1 : (over cs off vs)[j]? = some v) (h2 : (overA cur off us)[j]? = some x) :
    (off ≤ j ∧ vs[j - off]? = some v ∧ us[j - off]? = some x) ∨ (cs[j]? = some v ∧ cur[j]? = some x) := by
  rw [get_over] at h1
  rw [get_overA] at h2
  by_cases c : off ≤ j ∧ j < off + vs.length ∧ j < cs.length
  · rw [if_pos c] at h1
    rw [if_pos (by omega)] at h2
    exact .inl ⟨c.1, h1, h2⟩
  · rw [if_neg c] at h1
    rw [if_neg (by omega)] at h2
    exact .inr ⟨h1, h2⟩
theorem store_box_sound (T0 : TabOK P cx) (h : Inv g G H μ fr O a.tmps w) (hgl : GlOK cx.gl H) (hp : pcOf fr p = true) (hd : DstOK G p fr o.dst) {t : Nat} {ad x : Operand} (ho : o.op = .store t ad x)
    (hr1 : readable G p ad = true) (hr2 : readable G p x = true) {n off : Nat} {cs : List V} (hpv : ov cx fr ad = .ptr n off) (hO : O[n]? = some (.box cs))
    (hok : (cx.ti t).ok = true) (h1 : (nrm cx t (ov cx fr x)).cells.all V.one = true) (hsz : (nrm cx t (ov cx fr x)).cells.length = (cx.ti t).sz) (hl : off + (nrm cx t (ov cx fr x)).cells.length ≤ cs.length) :
    EffRes P g G a.tmps w o.dst (execOp a.eval o) (put (disAll fr (slotOf x)) o.dst .u) (O.set n (.box (over cs off (nrm cx t (ov cx fr x)).cellsD))) := by
  have hpt := (ov_val h hgl hp hr1).1
  rw [hpv] at hpt
  have hv0 := ov_val h hgl hp hr2
  have hv := nrm_val (cx := cx) t hv0
  generalize hy : a.eval x = y at hv
  generalize hq : a.eval ad = q at hpt
  cases hpt with
  | ptr _ _ e he =>
    obtain ⟨cur, el, hh, hcs, hrel⟩ := h.obs n _ e hO he
    obtain ⟨hD1, hD2, hD3⟩ := cellsD_val hv h1
    obtain ⟨hc1, _⟩ := hv.1.cells h1
    have hst := run_storeAt T0 (y := y) (o := off) hok (by rw [← hc1]; exact hsz) hh (by rw [← hc1]; omega) (cells_one hv.1 h1)
    have hcell : ∀ j, (w.setRow e.blk (overA cur off y.cells.toList)).cell? ⟨e.blk, j, none⟩ = (overA cur off y.cells.toList)[j]? := fun j => cell_setRow_same w e.blk j cur _ el (0, 0) hh
    have hcurcell : ∀ j x, cur[j]? = some x → w.cell? ⟨e.blk, j, none⟩ = some x := fun j x hx => by rw [cell_of_heap hh]; exact hx
    refine ⟨_, undef, _, H, μ, by simp only [execOp, ho, hy, hq]; exact run_u hst, .inr ⟨rfl, rfl⟩, h.setObj hp hd he hO _ _ ?_ (slotOf x) ?_ ?_ rfl (.u _)⟩
    · refine ⟨_, el, setRow_heap w e.blk cur _ el (0, 0) hh, by rw [size_overA, len_over]; exact hcs, fun j v x' h5 h6 => ?_⟩
      rcases over_cells hcs (by simpa using hD1) h5 h6 with ⟨_, h7, h8⟩ | ⟨h7, h8⟩
      · refine (hD2 (j - off) v x' h7 (by simpa using h8)).goes goes_setRow (MU.le.refl μ) (fun b hb hm => ?_)
        obtain ⟨_, _, h9⟩ := hD3 (j - off) v x' b h7 (by simpa using h8) hb
        rw [← hy] at h9
        obtain ⟨s, _, hs⟩ := own_slot (cx := cx) (x := x) (t := t) hv0 h9 h.len
        rw [List.mem_singleton] at hm; subst hm
        cases h.uniq _ _ _ hs (.inl ⟨n, e, rfl, he, rfl⟩)
      · refine (hrel j v x' h7 h8).goes goes_setRow (MU.le.refl μ) (fun b hb hm => ?_)
        rw [List.mem_singleton] at hm; subst hm
        cases h.uniq (.cell n j) _ _ (.inr ⟨v, x', ⟨e, cs, he, hO, h7, hcurcell j x' h8⟩, hb⟩) (.inl ⟨n, e, rfl, he, rfl⟩)
    · intro cs' hcs' j v x' b h5 h6 hb
      cases hcs'
      rw [hcell] at h6
      rcases over_cells hcs (by simpa using hD1) h5 h6 with ⟨_, h7, h8⟩ | ⟨h7, h8⟩
      · obtain ⟨_, _, h9⟩ := hD3 (j - off) v x' b h7 (by simpa using h8) hb
        rw [← hy] at h9
        exact .inr (own_slot (cx := cx) (x := x) (t := t) hv0 h9 h.len)
      · exact .inl (.inr ⟨v, x', ⟨e, cs, he, hO, h7, hcurcell j x' h8⟩, hb⟩)
    · intro cs' hcs' j j' v v' x' x'' b h5 h5' h6 h6' hb hb' ⟨s, hs, hos⟩
      cases hcs'
      rw [hcell] at h6 h6'
      have key : ∀ j v x', (over cs off (nrm cx t (ov cx fr x)).cellsD)[j]? = some v → (overA cur off y.cells.toList)[j]? = some x' → blkOf v x' = some b → j = off := by
        intro j v x' h5 h6 hb
        rcases over_cells hcs (by simpa using hD1) h5 h6 with ⟨h0, h7, h8⟩ | ⟨h7, h8⟩
        · obtain ⟨h9, _, _⟩ := hD3 (j - off) v x' b h7 (by simpa using h8) hb
          omega
        · cases h.uniq (.cell n j) _ _ (.inr ⟨v, x', ⟨e, cs, he, hO, h7, hcurcell j x' h8⟩, hb⟩) hos
      rw [key j v x' h5 h6 hb, key j' v' x'' h5' h6' hb']
theorem store_arr_sound (T0 : TabOK P cx) (h : Inv g G H μ fr O a.tmps w) (hgl : GlOK cx.gl H) (hp : pcOf fr p = true) (hd : DstOK G p fr o.dst) {t : Nat} {ad x : Operand} (ho : o.op = .store t ad x)
    (hr1 : readable G p ad = true) (hr2 : readable G p x = true) {n i off : Nat} {c : Ty} {xs : List (T c)} (hpv : ov cx fr ad = .ept n i off) (hO : O[n]? = some (.arr c xs))
    (hok : (cx.ti t).ok = true) (h1 : (nrm cx t (ov cx fr x)).cells.all V.one = true) (hsz : (nrm cx t (ov cx fr x)).cells.length = (cx.ti t).sz) (hl : off + (nrm cx t (ov cx fr x)).cells.length ≤ (enc c (xget xs i)).cells.length)
    {x' : T c} (hdec : dec c (match (enc c (xget xs i)).cells with | [_] => (nrm cx t (ov cx fr x)).dis | _ => .agg (over (enc c (xget xs i)).cells off ((nrm cx t (ov cx fr x)).cells.map V.dis))) = some x') :
    EffRes P g G a.tmps w o.dst (execOp a.eval o) (put (disAll fr (slotOf x)) o.dst .u) (O.set n (.arr c (xset xs i x'))) := by
  have hpt := (ov_val h hgl hp hr1).1
  rw [hpv] at hpt
  have hv := nrm_val (cx := cx) t (ov_val h hgl hp hr2)
  generalize hy : a.eval x = y at hv
  generalize hq : a.eval ad = q at hpt
  cases hpt with
  | ept _ _ _ e he hi =>
    obtain ⟨cur, el, hh, hes, hel, hcs, hrel⟩ := h.obs n _ e hO he
    obtain ⟨hc1, hc2⟩ := hv.1.cells h1
    rw [enc_len] at hl
    have hi' : i < xs.length := by rw [← hel]; exact hi
    have hxi := xget_of hi'
    have hsz0 := Ty.sz_pos c
    have hfit : i * c.sz + off + y.cells.size ≤ cur.size := by
      rw [hcs, ← hc1]
      have h2 : (i + 1) * c.sz ≤ xs.length * c.sz := Nat.mul_le_mul_right _ hi'
      rw [Nat.add_mul, Nat.one_mul] at h2
      omega
    have hfull : i * c.sz + c.sz ≤ cur.size := by
      rw [hcs]
      have h2 : (i + 1) * c.sz ≤ xs.length * c.sz := Nat.mul_le_mul_right _ hi'
      rw [Nat.add_mul, Nat.one_mul] at h2
      exact h2
    have hst := run_storeAt T0 (y := y) (o := i * c.sz + off) hok (by rw [← hc1]; exact hsz) hh hfit (cells_one hv.1 h1)
    have hseg : ∀ (j : Nat) v u, (enc c x').cells[j]? = some v → (overA cur (i * c.sz + off) y.cells.toList)[i * c.sz + j]? = some u → VR H μ v u := by
      intro j v u h3 h4
      have hj : j < c.sz := by rw [← enc_len c x']; exact lt_of_get h3
      split at hdec
      · rename_i v0 hone
        have hs1 : c.sz = 1 := by rw [← enc_len c (xget xs i), hone]; rfl
        obtain ⟨h5, h6⟩ := dec_cells hdec hv.1.dis
        have e0 : off = 0 := by omega
        have ej : j = 0 := by omega
        subst e0; subst ej
        rw [get_overA, if_pos (by simp; omega)] at h4
        refine h6 0 v u h3 ?_
        simpa using h4
      · let seg : Array Value := cur.extract (i * c.sz) (i * c.sz + c.sz)
        have hsegl : seg.size = c.sz := by
          simp only [seg, Array.size_extract]
          rw [Nat.min_eq_left hfull]; omega
        have hsg : ∀ k, k < c.sz → seg[k]? = cur[i * c.sz + k]? := by
          intro k hk
          simp only [seg, Array.getElem?_extract]
          rw [Nat.min_eq_left hfull, if_pos (by omega)]
        have hrow : RowR H μ (enc c (xget xs i)).cells seg := by
          refine ⟨by rw [hsegl, enc_len], fun k v u h5 h6 => ?_⟩
          have hk : k < c.sz := by rw [← enc_len c (xget xs i)]; exact lt_of_get h5
          rw [hsg k hk] at h6
          exact hrel i _ k v u hxi h5 h6
        have hrow2 : RowR H μ (over (enc c (xget xs i)).cells off ((nrm cx t (ov cx fr x)).cells.map V.dis)) (overA seg off y.cells.toList) := by
          refine RowR.over _ _ _ (by simpa using hc1) (fun k v u h5 h6 => ?_) hrow
          rw [List.getElem?_map] at h5
          cases hc : (nrm cx t (ov cx fr x)).cells[k]? with
          | none => rw [hc] at h5; cases h5
          | some c' => rw [hc] at h5; cases h5; exact (hc2 k c' u hc (by simpa using h6)).dis
        obtain ⟨_, h6⟩ := dec_cells hdec (.agg _ _ hrow2.1.symm hrow2.2)
        refine h6 j v u h3 ?_
        show (overA seg off y.cells.toList)[j]? = some u
        rw [get_overA] at h4 ⊢
        rw [hsegl]
        simp only [Array.length_toList] at h4 ⊢
        by_cases cc : off ≤ j ∧ j < off + y.cells.size
        · rw [if_pos (by omega)] at h4
          rw [if_pos (by omega), ← h4]
          congr 1; omega
        · rw [if_neg (by omega)] at h4
          rw [if_neg (by omega), hsg j hj]; exact h4
    refine ⟨_, undef, w.setRow e.blk (overA cur (i * c.sz + off) y.cells.toList), H, μ, by simp only [execOp, ho, hy, hq]; rw [hes]; exact run_u hst, .inr ⟨rfl, rfl⟩, h.setObj hp hd he hO _ _ ?_ (slotOf x) ?_ ?_ rfl (.u _)⟩
    · refine ⟨_, el, setRow_heap w e.blk cur _ el (0, 0) hh, hes, by simpa [xset] using hel, by rw [size_overA]; simpa [xset] using hcs, fun k z j v u h3 h4 h5 => ?_⟩
      simp only [xset] at h3
      have hj : j < c.sz := by rw [← enc_len c z]; exact lt_of_get h4
      by_cases eq : i = k
      · subst eq
        rw [List.getElem?_set_self hi'] at h3; cases h3
        exact hseg j v u h4 h5
      · rw [List.getElem?_set_ne eq] at h3
        rw [get_overA, if_neg] at h5
        · exact hrel k z j v u h3 h4 h5
        · simp only [Array.length_toList]
          rintro ⟨h6, h7, _⟩
          rcases Nat.lt_or_ge k i with h8 | h8
          · have := idx_lt h8 hj; omega
          · have h9 : (i + 1) * c.sz ≤ k * c.sz := Nat.mul_le_mul_right _ (by omega)
            rw [Nat.add_mul, Nat.one_mul] at h9
            omega
    · intro cs' hcs'; cases hcs'
    · intro cs' hcs'; cases hcs'
end
end Go.Ev
namespace Go.Ev
open Go
section
variable {P : Program} {cx : Cx} {g : Gh} {G : List (Nat × Path)} {H : HM} {μ : MU} {fr : List V} {O : List Ob} {a : Act} {w : World} {o : Oper} {p : Path}
theorem divmod {i j sz : Nat} (hj : j < sz) : (i * sz + j) / sz = i ∧ (i * sz + j) % sz = j := by
  have h0 : 0 < sz := by omega
  constructor
  · rw [Nat.mul_comm, Nat.mul_add_div h0, Nat.div_eq_of_lt hj]; rfl
  · rw [Nat.mul_comm, Nat.mul_add_mod, Nat.mod_eq_of_lt hj]
theorem sl_row (ha : ∀ b o v, H b o = some v → w.cell? ⟨b, o, none⟩ = some v) {c : Ty} {xs : List (T c)} {own : Bool} {x : Value} (h : VR H μ (.sl c xs own) x) (hne : 0 < xs.length) :
    ∃ (ad : Addr) (cap : Nat) (F : Nat → Value), x = .slice (some ad) xs.length cap ∧ ad.spot = none ∧ (∀ k, k < xs.length * c.sz → w.cell? ⟨ad.block, ad.off + k, none⟩ = some (F k) ∧ (F k).oneCell' = true) ∧
      ∀ (i : Nat) z (j : Nat) v, xs[i]? = some z → (enc c z).cells[j]? = some v → VR H μ v (F (i * c.sz + j)) := by
  obtain ⟨ad, cap, f, hx, hs, _, h1, h2⟩ := sl_of h hne
  have h0 := Ty.sz_pos c
  refine ⟨ad, cap, fun k => f (k / c.sz) (k % c.sz), hx, hs, fun k hk => ?_, fun i z j v hz hv => ?_⟩
  · have hi : k / c.sz < xs.length := Nat.div_lt_of_lt_mul (by rw [Nat.mul_comm]; exact hk)
    have hj : k % c.sz < c.sz := Nat.mod_lt _ h0
    have hz := List.getElem?_eq_getElem hi
    have hj' : k % c.sz < (enc c xs[k / c.sz]).cells.length := by rw [enc_len]; exact hj
    have hv := List.getElem?_eq_getElem hj'
    have hk' : k / c.sz * c.sz + k % c.sz = k := by rw [Nat.mul_comm]; exact Nat.div_add_mod k c.sz
    constructor
    · have := ha _ _ _ (h1 _ _ _ _ hz hv)
      rw [Nat.add_assoc, hk'] at this; exact this
    · exact (h2 _ _ _ _ hz hv).oneCell (enc_one c _ _ (List.getElem_mem hj'))
  · have hj : j < c.sz := by rw [← enc_len c z]; exact lt_of_get hv
    dsimp only
    rw [(divmod hj).1, (divmod hj).2]
    exact h2 i z j v hz hv
theorem ElR.app {c : Ty} {xs ys : List (T c)} {A B : Array Value} {F : Nat → Value} (h1 : ElR H μ c xs A) (h2 : ∀ (i : Nat) z (j : Nat) v, ys[i]? = some z → (enc c z).cells[j]? = some v → VR H μ v (F (i * c.sz + j)))
    (hB1 : ∀ k, k < xs.length * c.sz → B[k]? = A[k]?) (hB2 : ∀ k, k < ys.length * c.sz → B[xs.length * c.sz + k]? = some (F k)) : ElR H μ c (xs ++ ys) B := by
  intro i z j v y hz hv hy
  have hj : j < c.sz := by rw [← enc_len c z]; exact lt_of_get hv
  by_cases hi : i < xs.length
  · rw [List.getElem?_append_left hi] at hz
    rw [hB1 _ (idx_lt hi hj)] at hy
    exact h1 i z j v y hz hv hy
  · have hi' : xs.length ≤ i := by omega
    rw [List.getElem?_append_right hi'] at hz
    have e : i * c.sz + j = xs.length * c.sz + ((i - xs.length) * c.sz + j) := by
      rw [← Nat.add_assoc, ← Nat.add_mul]; congr 2; omega
    rw [e, hB2 _ (idx_lt (lt_of_get hz) hj)] at hy
    cases hy
    exact h2 _ z j v hz hv
theorem own_el (ha : ∀ b o v, H b o = some v → w.cell? ⟨b, o, none⟩ = some v) {c : Ty} {xs : List (T c)} {own : Bool} {b n cap : Nat} {cur : Array Value} {e : TypeId} (h : VR H μ (.sl c xs own) (.slice (some ⟨b, 0, none⟩) n cap)) (hh : w.heap[b]? = some (.cells cur e (0, 0))) : ElR H μ c xs cur := by
  cases h with
  | sl0 _ _ _ _ => intro i z j v y hz; simp at hz
  | sl _ _ _ _ _ f _ _ h1 h2 =>
    intro i z j v y hz hv hy
    have := ha _ _ _ (h1 i z j v hz hv)
    rw [cell_of_heap hh, Nat.zero_add, hy] at this
    cases this
    exact h2 i z j v hz hv
theorem row_vr {c : Ty} {xs : List (T c)} {own : Bool} {b cap : Nat} {ys : Array Value} (hH : ∀ o, o < xs.length * c.sz → H b o = ys[o]?) (hs : xs.length * c.sz ≤ ys.size) (hl : xs.length ≤ cap) (he : ElR H μ c xs ys) :
    VR H μ (.sl c xs own) (.slice (some ⟨b, 0, none⟩) xs.length cap) := by
  refine .sl c xs own ⟨b, 0, none⟩ cap (fun i j => (ys[i * c.sz + j]?).getD undef) rfl hl (fun i x j v hx hv => ?_) (fun i x j v hx hv => ?_)
  · have h1 := idx_lt (lt_of_get hx) (show j < c.sz by rw [← enc_len c x]; exact lt_of_get hv)
    simp only [Nat.zero_add]
    rw [hH _ h1, Array.getElem?_eq_getElem (show i * c.sz + j < ys.size by omega)]; rfl
  · have h1 := idx_lt (lt_of_get hx) (show j < c.sz by rw [← enc_len c x]; exact lt_of_get hv)
    rw [Array.getElem?_eq_getElem (show i * c.sz + j < ys.size by omega)]
    exact he i x j v _ hx hv (Array.getElem?_eq_getElem _)
theorem grow_row (ha : ∀ b o v, H b o = some v → w.cell? ⟨b, o, none⟩ = some v) {c : Ty} {xs ys : List (T c)} {b cap : Nat} {cur : Array Value} {e : TypeId} {F : Nat → Value} (hh : w.heap[b]? = some (.cells cur e (0, 0))) (hs : cur.size = cap * c.sz)
    (hn : ∀ o, xs.length * c.sz ≤ o → H b o = none) (hel : ElR H μ c xs cur) (hl : xs.length + ys.length ≤ cap)
    (h2 : ∀ (i : Nat) z (j : Nat) v, ys[i]? = some z → (enc c z).cells[j]? = some v → VR H μ v (F (i * c.sz + j))) :
    ∃ H', Goes H H' w (w.setRow b (overA cur (xs.length * c.sz) ((List.range (ys.length * c.sz)).map F))) [b] ∧
      (∀ b' o v, H' b' o = some v → (w.setRow b (overA cur (xs.length * c.sz) ((List.range (ys.length * c.sz)).map F))).cell? ⟨b', o, none⟩ = some v) ∧
      VR H' μ (.sl c (xs ++ ys) true) (.slice (some ⟨b, 0, none⟩) (xs ++ ys).length cap) ∧
      OwnOK H' (w.setRow b (overA cur (xs.length * c.sz) ((List.range (ys.length * c.sz)).map F))) (.sl c (xs ++ ys) true) (.slice (some ⟨b, 0, none⟩) (xs ++ ys).length cap) := by
  generalize hcur : overA cur (xs.length * c.sz) ((List.range (ys.length * c.sz)).map F) = cur'
  have hlen : (xs ++ ys).length * c.sz = xs.length * c.sz + ys.length * c.sz := by rw [List.length_append, Nat.add_mul]
  have hsz' : cur'.size = cap * c.sz := by rw [← hcur, size_overA, hs]
  have hfit : xs.length * c.sz + ys.length * c.sz ≤ cap * c.sz := by rw [← hlen, List.length_append]; exact Nat.mul_le_mul_right _ hl
  have hlow : ∀ k, k < xs.length * c.sz → cur'[k]? = cur[k]? := fun k hk => by rw [← hcur, get_overA, if_neg (by omega)]
  have hhigh : ∀ k, k < ys.length * c.sz → cur'[xs.length * c.sz + k]? = some (F k) := fun k hk => by
    rw [← hcur, get_overA, if_pos (by simp; omega), show xs.length * c.sz + k - xs.length * c.sz = k by omega]
    simp [hk]
  have hle : H.le (newH H b ((xs ++ ys).length * c.sz) cur') := by
    intro b' o v hv
    unfold newH
    split
    · rename_i eq
      subst eq
      have ho : o < xs.length * c.sz := by
        rcases Nat.lt_or_ge o (xs.length * c.sz) with h' | h'
        · exact h'
        · rw [hn o h'] at hv; cases hv
      rw [if_pos (by omega), hlow o ho]
      have := ha _ _ _ hv
      rw [cell_of_heap hh] at this; exact this
    · exact hv
  have hheap := setRow_heap w b cur cur' e (0, 0) hh
  refine ⟨newH H b ((xs ++ ys).length * c.sz) cur', ⟨hle, fun c' _ hn' => setRow_other w b c' cur' (by simpa using hn'), by rw [setRow_size]; exact Nat.le_refl _, fun c' o _ hn' => ?_, rfl, rfl, rfl⟩, fun b' o v hv => ?_, ?_, ?_⟩
  · unfold newH; rw [if_neg (by simpa using hn')]
  · unfold newH at hv
    split at hv
    · rename_i eq
      subst eq
      split at hv
      · rw [cell_of_heap hheap]; exact hv
      · cases hv
    · rename_i hne
      have := ha _ _ _ hv
      rw [← this]; simp [World.cell?, setRow_other w b b' cur' hne]
  · refine row_vr (ys := cur') (fun o ho => ?_) (by rw [hsz']; omega) (by simpa using hl) ((hel.app h2 hlow hhigh).mono hle (MU.le.refl μ))
    simp only [newH, if_true]
    rw [if_pos ho]
  · intro t' xs' eq
    cases eq
    refine .inr ⟨b, cap, cur', e, rfl, hheap, by simpa using hl, hsz', fun o ho => ?_⟩
    simp only [newH, if_true]
    rw [if_neg (by omega)]
theorem append_sound (T0 : TabOK P cx) (h : Inv g G H μ fr O a.tmps w) (hgl : GlOK cx.gl H) (hp : pcOf fr p = true) (hd : DstOK G p fr o.dst) {call : Call} (ho : o.op = .call call) (hcal : call.callee = .builtin .append)
    {x y : Operand} {t t' e : Nat} {c : Ty} {xs ys : List (T c)} {own : Bool} (hargs : call.args.toList = [x, y]) (htys : call.argTypes.toList = [t, t]) (hr1 : readable G p x = true) (hr2 : readable G p y = true)
    (hk : (cx.ti t).k = .slice e) (hx : nrm cx t (ov cx fr x) = .sl c xs true) (hy : nrm cx t (ov cx fr y) = .sl c ys own) (hty : tyOK cx e c = true) (hroom : (xs.length + ys.length) * (cx.ti e).bytes ≤ roomMax) :
    EffRes P g G a.tmps w o.dst (execOp a.eval o) (put (disAll fr (slotOf x)) o.dst (.sl c (xs ++ ys) true)) O := by
  have hok := TI.ok_of hk (by simp)
  obtain ⟨D, hD, hkD⟩ := T0.und hok
  rw [hk] at hkD; rw [tk_slice hkD] at hD
  obtain ⟨hoe, hse⟩ := tyOK_iff hty
  obtain ⟨_, i, hi, hs', hb'⟩ := T0.ti e hoe
  obtain ⟨i2, z, hi2, hz, hzr⟩ := T0.zero e hoe
  rw [hi] at hi2; cases hi2
  have hisz : i.size = c.sz := by rw [hs', hse]
  have hbyt := T0.byt e hoe
  have hp0 := Ty.sz_pos c
  have hb1 : 1 ≤ i.bytes := by rw [hb']; omega
  have hx0 := ov_val h hgl hp hr1
  have hxv := nrm_val (cx := cx) t hx0
  have hyv := (nrm_val (cx := cx) t (ov_val h hgl hp hr2)).1
  rw [hx] at hxv
  rw [hy] at hyv
  have hargs' : call.args = #[x, y] := by rw [← Array.toList_inj]; simpa using hargs
  have htys' : call.argTypes = #[t, t] := by rw [← Array.toList_inj]; simpa using htys
  have hslot : ∀ b, blkOf (.sl c xs true) (a.eval x) = some b → ∃ s ∈ slotOf x, owns fr O μ a.tmps w (.slot s) b := fun b hb => own_slot (cx := cx) (t := t) hx0 (by rw [hx]; exact hb) h.len
  suffices hmain : ∃ v' w' H', (Builtin.append_ #[t, t] o.type #[a.eval x, a.eval y]).run P w = .ok v' w' ∧ (∃ ch, Goes H H' w w' ch ∧ ∀ b ∈ ch, ∃ s ∈ slotOf x, owns fr O μ a.tmps w (.slot s) b) ∧
      (∀ b o v, H' b o = some v → w'.cell? ⟨b, o, none⟩ = some v) ∧ VR H' μ (.sl c (xs ++ ys) true) v' ∧ OwnOK H' w' (.sl c (xs ++ ys) true) v' ∧
      (∀ b, blkOf (.sl c (xs ++ ys) true) v' = some b → (w.heap.size ≤ b ∧ b < w'.heap.size) ∨ ∃ s ∈ slotOf x, owns fr O μ a.tmps w (.slot s) b) by
    obtain ⟨v', w', H', h1, ⟨ch, h2, h2'⟩, h3, h4, h5, h6⟩ := hmain
    refine ⟨.value v', v', w', H', μ, run_builtin_call ho hcal fun cs => ?_, .inl rfl, ?_⟩
    · simp only [builtin, hargs', htys']
      simpa using run_v h1
    · exact h.step h2 h3 o.dst (slotOf x) _ v' h2' (fun d' e _ => hd.slotR hp ⟨h4, h5⟩ d' e) h6 (fun d' s q e => (hd d' e).2 s q)
  obtain ⟨ay, cy, hey⟩ := sl_len hyv
  by_cases hm : ys.length = 0
  ·
    have hys : ys = [] := List.eq_nil_of_length_eq_zero hm
    have hz0 : xs ++ ys = xs := by rw [hys, List.append_nil]
    rw [hz0]
    obtain ⟨bx, cx', hex, hcap⟩ : ∃ bx cap, a.eval x = .slice bx xs.length cap ∧ xs.length ≤ cap := by
      rcases hxv.2 c xs rfl with ⟨h1, h2⟩ | ⟨b, cap, cur, el, h1, _, h2, _⟩
      · exact ⟨none, 0, by rw [h1, h2]; rfl, by rw [h2]; exact Nat.le_refl _⟩
      · exact ⟨_, cap, h1, h2⟩
    refine ⟨a.eval x, w, H, ?_, ⟨[], Goes.refl H w, fun b hb => by cases hb⟩, h.agree, hxv.1, hxv.2, fun b hb => .inr (hslot b hb)⟩
    rw [hex, hey, hm]
    have hf : (Builtin.firstCells i.size 0 (.slice ay 0 cy)).run P w = .ok #[] w := by
      cases ay with
      | none => exact run_firstCells_none w _ _ _ _
      | some ad => simpa using run_firstCells_some (P := P) w i.size 0 ad 0 cy [] (by simp) (fun j v hv => by simp at hv)
    cases bx <;> simp [Builtin.append_, run_underlying hD, sizeOf, typeInfo, hi, Builtin.lenOf, hcap, hf, storeCells]
  · have hm' : 0 < ys.length := by omega
    obtain ⟨ad, capy, F, hey', hsp, hF1, hF2⟩ := sl_row h.agree hyv hm'
    have hcell : ∀ (j : Nat) v, ((List.range (ys.length * c.sz)).map F)[j]? = some v → w.cell? (ad.add j) = some v := by
      intro j v hv
      have hj : j < ys.length * c.sz := by have := lt_of_get hv; simpa using this
      rw [addr_add' hsp]
      rw [(hF1 j hj).1]
      simpa [hj] using hv
    have hone : ∀ u ∈ (List.range (ys.length * c.sz)).map F, u.oneCell' = true := by
      intro u hu
      rw [List.mem_map] at hu
      obtain ⟨k, hk, rfl⟩ := hu
      exact (hF1 k (List.mem_range.1 hk)).2
    have hnl : ((List.range (ys.length * c.sz)).map F).length = ys.length * i.size := by simp [hisz]
    have hroom' : (xs.length + ys.length) * i.bytes ≤ 70368744177664 := by rw [hb']; exact hroom
    have hneed : xs.length + ys.length ≤ 70368744177664 := Nat.le_trans (Nat.le_mul_of_pos_right _ hb1) hroom'
    have hnewA : ∀ k, k < ys.length * c.sz → ((List.range (ys.length * c.sz)).map F)[k]? = some (F k) := fun k hk => by simp [hk]
    have hzs : z.cells.size = c.sz := by rw [T0.zsz e i z hoe hi hz, hisz]
    have hnewsz : ((List.range (ys.length * c.sz)).map F).toArray.size = ys.length * c.sz := by simp
    rcases hxv.2 c xs rfl with ⟨h1, h2⟩ | ⟨b, cap, cur, el, h1, hh, hcap, hcs, hnone⟩
    ·
      subst h2
      simp only [List.length_nil, Nat.zero_add] at hroom' hneed
      have hrun := run_append_nil (P := P) w t o.type e i z hD hi hz ad ys.length capy _ hnl hcell hm' (by omega) (by omega)
      have hge := grownCap_ge w ys.length 0 e
      generalize grownCap w ys.length 0 e = cap at hrun hge
      have kw : Grown w (w.drew.alloc (.cells (((List.range (ys.length * c.sz)).map F).toArray ++ Builtin.zeroCells z.cells (cap - ys.length)) e)) _ e := Grown.drew
      have hel : ElR H μ c ([] ++ ys) (((List.range (ys.length * c.sz)).map F).toArray ++ Builtin.zeroCells z.cells (cap - ys.length)) := by
        refine ElR.app (xs := []) (A := #[]) (F := F) (fun i x j v y h => by simp at h) hF2 (fun k hk => by simp at hk) (fun k hk => ?_)
        rw [Array.getElem?_append_left (by rw [hnewsz]; simpa using hk)]
        simp [hk]
      have hsz : (((List.range (ys.length * c.sz)).map F).toArray ++ Builtin.zeroCells z.cells (cap - ys.length)).size = cap * c.sz := by
        rw [Array.size_append, hnewsz, size_zeroCells, hzs, ← Nat.add_mul]; congr 1; omega
      obtain ⟨H', g1, g2, g3, g4⟩ := fresh_row h.agree kw hsz (by simpa using hge) hel
      refine ⟨_, _, H', by rw [h1, hey']; exact hrun, ⟨[], g1, fun b hb => by cases hb⟩, g2, by simpa using g3, by simpa using g4, fun b hb => .inl ?_⟩
      simp [blkOf] at hb
      subst hb
      rw [kw.size]; omega
    · have hXel : ElR H μ c xs cur := by
        have := hxv.1
        rw [h1] at this
        exact own_el h.agree this hh
      by_cases hfit : xs.length + ys.length ≤ cap
      ·
        obtain ⟨H', g1, g2, g3, g4⟩ := grow_row h.agree hh hcs hnone hXel hfit hF2
        have hf := run_firstCells_some (P := P) w i.size ys.length ad ys.length capy _ hnl hcell
        have hst := run_store_over P (o := xs.length * c.sz) (vs := (List.range (ys.length * c.sz)).map F) hh (by
          rw [hcs]; simp only [List.length_map, List.length_range]; rw [← Nat.add_mul]; exact Nat.mul_le_mul_right _ hfit) hone
        have hown : ∃ s ∈ slotOf x, owns fr O μ a.tmps w (.slot s) b := hslot b (by rw [h1]; rfl)
        refine ⟨.slice (some ⟨b, 0, none⟩) (xs.length + ys.length) cap, _, H', ?_, ⟨[b], g1, fun b' hb' => by rw [List.mem_singleton] at hb'; subst hb'; exact hown⟩, g2, by simpa using g3, by simpa using g4, fun b' hb' => .inr ?_⟩
        · rw [h1, hey']
          rw [hisz] at hf
          simp [Builtin.append_, run_underlying hD, sizeOf, typeInfo, hi, Builtin.lenOf, hfit, hf, addr_add, hisz, hst]
        · simp [blkOf] at hb'
          subst hb'; exact hown
      ·
        have holds : ∀ (j : Nat) v, (cur.toList.take (xs.length * i.size))[j]? = some v → w.cell? ((⟨b, 0, none⟩ : Addr).add j) = some v := by
          intro j v hv
          rw [addr_add, Nat.zero_add, cell_of_heap hh]
          rw [List.getElem?_take] at hv
          split at hv
          · simpa using hv
          · cases hv
        have holl : (cur.toList.take (xs.length * i.size)).length = xs.length * i.size := by
          have : xs.length * c.sz ≤ cap * c.sz := Nat.mul_le_mul_right _ hcap
          have h3 : cur.toList.length = cap * c.sz := by rw [Array.length_toList, hcs]
          rw [List.length_take, h3, hisz]; omega
        have hrun := run_append_grow (P := P) w t o.type e i z hD hi hz ⟨b, 0, none⟩ xs.length cap _ holl holds ad ys.length capy _ hnl hcell (by omega) (by omega) (growslice_fits (by omega) (by omega))
        have hge := grownCap_ge w (xs.length + ys.length) cap e
        generalize grownCap w (xs.length + ys.length) cap e = cap' at hrun hge
        have hosz : (cur.toList.take (xs.length * i.size)).toArray.size = xs.length * c.sz := by rw [List.size_toArray, holl, hisz]
        have kw : Grown w (w.drew.alloc (.cells ((cur.toList.take (xs.length * i.size)).toArray ++ ((List.range (ys.length * c.sz)).map F).toArray ++ Builtin.zeroCells z.cells (cap' - (xs.length + ys.length))) e)) _ e := Grown.drew
        have hel : ElR H μ c (xs ++ ys) ((cur.toList.take (xs.length * i.size)).toArray ++ ((List.range (ys.length * c.sz)).map F).toArray ++ Builtin.zeroCells z.cells (cap' - (xs.length + ys.length))) := by
          refine hXel.app hF2 (fun k hk => ?_) (fun k hk => ?_)
          · rw [Array.append_assoc, Array.getElem?_append_left (by rw [hosz]; exact hk)]
            simp [hisz, hk]
          · rw [Array.getElem?_append_left (by rw [Array.size_append, hosz, hnewsz]; omega), Array.getElem?_append_right (by rw [hosz]; omega), hosz, show xs.length * c.sz + k - xs.length * c.sz = k by omega]
            simp [hk]
        have hsz : ((cur.toList.take (xs.length * i.size)).toArray ++ ((List.range (ys.length * c.sz)).map F).toArray ++ Builtin.zeroCells z.cells (cap' - (xs.length + ys.length))).size = cap' * c.sz := by
          rw [Array.size_append, Array.size_append, hosz, hnewsz, size_zeroCells, hzs, ← Nat.add_mul, ← Nat.add_mul]; congr 1; omega
        obtain ⟨H', g1, g2, g3, g4⟩ := fresh_row h.agree kw hsz (by simpa using hge) hel
        refine ⟨_, _, H', by rw [h1, hey']; exact hrun, ⟨[], g1, fun b hb => by cases hb⟩, g2, by simpa using g3, by simpa using g4, fun b' hb' => .inl ?_⟩
        simp [blkOf] at hb'
        subst hb'
        rw [kw.size]; omega
end
end Go.Ev
namespace Go.Ev
open Go
section
variable {P : Program} {cx : Cx} {g : Gh} {G : List (Nat × Path)} {H : HM} {μ : MU} {fr : List V} {O : List Ob} {a : Act} {w : World} {o : Oper} {p : Path}
theorem get_zeroCells {z : Array Value} {n i j sz : Nat} {y : Value} (hz : z.size = sz) (hj : j < sz) (h : (Builtin.zeroCells z n)[i * sz + j]? = some y) : z[j]? = some y := by
  have hlt := lt_of_getA h
  rw [size_zeroCells] at hlt
  simp only [Builtin.zeroCells] at h
  rw [Array.getElem?_map, Array.getElem?_range, if_pos hlt] at h
  simp only [Option.map_some, Option.some.injEq] at h
  rw [hz, Nat.mul_comm, Nat.mul_add_mod, Nat.mod_eq_of_lt hj] at h
  rw [← h, getElem!_pos z j (by rw [hz]; exact hj)]
  exact Array.getElem?_eq_getElem _
theorem Inv.setArr (h : Inv g G H μ fr O a.tmps w) (hp : pcOf fr p = true) (hd : DstOK G p fr o.dst) {n : Nat} {e : MO} {c : Ty} {xs : List (T c)} (he : μ[n]? = some e) (hO : O[n]? = some (.arr c xs)) {xs' : List (T c)} (hl : xs'.length = xs.length)
    {ys : Array Value} (hs : ys.size = xs.length * c.sz) (hel : ElR H μ c xs' ys) {v : V} (hvd : v.dis = v) {x : Value} (hx : VR H μ v x) :
    Inv g G H μ (put (disAll fr []) o.dst v) (O.set n (.arr c xs')) (putT a.tmps o.dst x) (w.setRow e.blk ys) := by
  obtain ⟨cur, el, hh, hes, hlen, hcs, _⟩ := h.obs n _ e hO he
  refine h.setObj hp hd he hO _ _ ?_ [] (fun cs hcs => by cases hcs) (fun cs hcs => by cases hcs) hvd hx
  exact ⟨ys, el, setRow_heap w e.blk cur _ el (0, 0) hh, hes, by rw [hl]; exact hlen, by rw [hl]; exact hs, hel⟩
theorem clear_sound (T0 : TabOK P cx) (h : Inv g G H μ fr O a.tmps w) (hgl : GlOK cx.gl H) (hp : pcOf fr p = true) (hd : DstOK G p fr o.dst) {call : Call} (ho : o.op = .call call) (hcal : call.callee = .builtin .clear)
    {x : Operand} {t e n : Nat} {c : Ty} {xs : List (T c)} (hargs : call.args.toList = [x]) (htys : call.argTypes.toList = [t]) (hr1 : readable G p x = true)
    (hk : (cx.ti t).k = .slice e) (hx : nrm cx t (ov cx fr x) = .ms n) (hO : O[n]? = some (.arr c xs)) (hty : cx.ty e = some c) :
    EffRes P g G a.tmps w o.dst (execOp a.eval o) (put (disAll fr []) o.dst (.tup [])) (O.set n (.arr c (xrep c xs.length))) := by
  have hok := TI.ok_of hk (by simp)
  obtain ⟨D, hD, hkD⟩ := T0.und hok
  rw [hk] at hkD; rw [tk_slice hkD] at hD
  obtain ⟨hoe, _, i, z, hi, hsz, hz, hzr⟩ := T0.ty e c hty
  have hzs : z.cells.size = c.sz := by rw [hzr.1, enc_len]
  have hxv := (nrm_val (cx := cx) t (ov_val h hgl hp hr1)).1
  rw [hx] at hxv
  have hargs' : call.args = #[x] := by rw [← Array.toList_inj]; simpa using hargs
  have htys' : call.argTypes = #[t] := by rw [← Array.toList_inj]; simpa using htys
  generalize hq : a.eval x = q at hxv
  cases hxv with
  | ms _ eo he =>
    obtain ⟨cur, el, hh, hes, hlen, hcs, _⟩ := h.obs n _ eo hO he
    have hel : ElR H μ c (xrep c xs.length) (Builtin.zeroCells z.cells xs.length) := ElR.zeros _ hzr fun i j y hj h1 => get_zeroCells hzs hj h1
    have hzl : (Builtin.zeroCells z.cells xs.length).size = xs.length * c.sz := by rw [size_zeroCells, hzs]
    refine ⟨_, .tuple #[], w.setRow eo.blk (Builtin.zeroCells z.cells xs.length), H, μ, run_builtin_call ho hcal fun cs => ?_, .inl rfl, h.setArr hp hd he hO (by simp [xrep]) hzl hel rfl (.tup [] #[] rfl (fun j v x hv => by simp at hv))⟩
    simp only [builtin, hargs', htys']
    have hone : ∀ u ∈ (Builtin.zeroCells z.cells xs.length).toList, u.oneCell' = true := by
      intro u hu
      obtain ⟨k, hk, rfl⟩ := List.mem_iff_getElem.1 hu
      have hk' : k < xs.length * c.sz := by rw [← hzl]; simpa using hk
      have hp0 := Ty.sz_pos c
      have hj : k % c.sz < c.sz := Nat.mod_lt _ hp0
      have hz1 := get_zeroCells (n := xs.length) (i := k / c.sz) (j := k % c.sz) (y := (Builtin.zeroCells z.cells xs.length).toList[k]) hzs hj (by
        rw [show k / c.sz * c.sz + k % c.sz = k by rw [Nat.mul_comm]; exact Nat.div_add_mod k c.sz]
        rw [← Array.getElem?_toList]; exact List.getElem?_eq_getElem hk)
      have hj' : k % c.sz < (enc c (dflt c)).cells.length := by rw [enc_len]; exact hj
      exact (hzr.2 _ _ _ (List.getElem?_eq_getElem hj') hz1 H μ w).1.oneCell (enc_one c _ _ (List.getElem_mem hj'))
    have hst := run_store_over P (o := 0) (vs := (Builtin.zeroCells z.cells xs.length).toList) hh (by rw [hcs]; simp [hzl]) hone
    have hov : overA cur 0 (Builtin.zeroCells z.cells xs.length).toList = Builtin.zeroCells z.cells xs.length := by
      apply Array.ext_getElem?
      intro k
      rw [get_overA]
      simp only [Array.length_toList, hzl, hcs]
      by_cases ck : k < xs.length * c.sz
      · rw [if_pos (by omega)]; simp
      · rw [if_neg (by omega), Array.getElem?_eq_none (by omega), Array.getElem?_eq_none (by omega)]
    rw [hov] at hst
    by_cases h0 : xs.length = 0
    · have hcur : cur = #[] := by rw [← Array.size_eq_zero_iff, hcs, h0, Nat.zero_mul]
      have hzz : Builtin.zeroCells z.cells xs.length = cur := by
        rw [hcur, ← Array.size_eq_zero_iff, hzl, h0, Nat.zero_mul]
      rw [hzz, setRow_self w eo.blk cur el (0, 0) hh]
      simp [Builtin.clear_, run_underlying hD, hq, hlen, h0]
    · obtain ⟨m, hm⟩ : ∃ m, xs.length = m + 1 := ⟨xs.length - 1, by omega⟩
      have hcl : (Builtin.clear_ #[t] o.type #[a.eval x]).run P w = .ok (.tuple #[]) (w.setRow eo.blk (Builtin.zeroCells z.cells xs.length)) := by
        rw [hq, hlen]
        rw [hm] at hst ⊢
        simp [Builtin.clear_, run_underlying hD, zeroValue, typeInfo, hi, hz, hst]
      simpa using run_v hcl
theorem copy_sound (T0 : TabOK P cx) (h : Inv g G H μ fr O a.tmps w) (hgl : GlOK cx.gl H) (hp : pcOf fr p = true) (hd : DstOK G p fr o.dst) {call : Call} (ho : o.op = .call call) (hcal : call.callee = .builtin .copy)
    {x y : Operand} {t e n : Nat} {c : Ty} {xs ys : List (T c)} {own : Bool} (hargs : call.args.toList = [x, y]) (htys : call.argTypes.toList = [t, t]) (hr1 : readable G p x = true) (hr2 : readable G p y = true)
    (hk : (cx.ti t).k = .slice e) (hx : nrm cx t (ov cx fr x) = .ms n) (hO : O[n]? = some (.arr c xs)) (hy : nrm cx t (ov cx fr y) = .sl c ys own) (hty : tyOK cx e c = true) :
    EffRes P g G a.tmps w o.dst (execOp a.eval o) (put (disAll fr []) o.dst (.i .i64 (imin (iof (xlen xs)) (iof (xlen ys))))) (O.set n (.arr c (xcopy xs ys))) := by
  have hok := TI.ok_of hk (by simp)
  obtain ⟨D, hD, hkD⟩ := T0.und hok
  rw [hk] at hkD; rw [tk_slice hkD] at hD
  obtain ⟨hoe, hse⟩ := tyOK_iff hty
  obtain ⟨_, i, hi, hs', _⟩ := T0.ti e hoe
  have hisz : i.size = c.sz := by rw [hs', hse]
  have hxv := (nrm_val (cx := cx) t (ov_val h hgl hp hr1)).1
  rw [hx] at hxv
  have hyv := (nrm_val (cx := cx) t (ov_val h hgl hp hr2)).1
  rw [hy] at hyv
  have hargs' : call.args = #[x, y] := by rw [← Array.toList_inj]; simpa using hargs
  have htys' : call.argTypes = #[t, t] := by rw [← Array.toList_inj]; simpa using htys
  generalize hq : a.eval x = q at hxv
  cases hxv with
  | ms _ eo he =>
    obtain ⟨cur, el, hh, hes, hlen, hcs, hrel⟩ := h.obs n _ eo hO he
    obtain ⟨ay, cy, hey⟩ := sl_len hyv
    obtain ⟨m, hm⟩ : ∃ m, m = Nat.min ys.length xs.length := ⟨_, rfl⟩
    have hmy : m ≤ ys.length := by rw [hm]; exact Nat.min_le_left _ _
    have hmx : m ≤ xs.length := by rw [hm]; exact Nat.min_le_right _ _
    obtain ⟨F, hf, hone, hF2⟩ : ∃ F : Nat → Value, (Builtin.firstCells i.size m (a.eval y)).run P w = .ok ((List.range (m * c.sz)).map F).toArray w ∧ (∀ k, k < m * c.sz → (F k).oneCell' = true) ∧
        ∀ (i : Nat) z (j : Nat) v, i < m → ys[i]? = some z → (enc c z).cells[j]? = some v → VR H μ v (F (i * c.sz + j)) := by
      by_cases h0 : ys.length = 0
      · have hm0 : m = 0 := by omega
        refine ⟨fun _ => undef, ?_, fun k hk => by rw [hm0] at hk; omega, fun i z j v hi => by omega⟩
        rw [hey, hm0]
        cases ay with
        | none => simpa using run_firstCells_none w i.size 0 ys.length cy
        | some ad => simpa using run_firstCells_some (P := P) w i.size 0 ad ys.length cy [] (by simp) (fun j v hv => by simp at hv)
      · obtain ⟨ad, capy, F, hey', hsp, hF1, hF2⟩ := sl_row h.agree hyv (by omega)
        have hle : m * c.sz ≤ ys.length * c.sz := Nat.mul_le_mul_right _ hmy
        refine ⟨F, ?_, fun k hk => (hF1 k (by omega)).2, fun i z j v _ => hF2 i z j v⟩
        rw [hey']
        refine run_firstCells_some (P := P) w i.size m ad ys.length capy _ (by simp [hisz]) (fun j v hv => ?_)
        have hj : j < m * c.sz := by have := lt_of_get hv; simpa using this
        rw [addr_add' hsp, (hF1 j (by omega)).1]
        simpa [hj] using hv
    have hfit : m * c.sz ≤ cur.size := by rw [hcs]; exact Nat.mul_le_mul_right _ hmx
    have hst := run_store_over P (o := 0) (vs := (List.range (m * c.sz)).map F) hh (by simpa using hfit) (fun u hu => by
      rw [List.mem_map] at hu
      obtain ⟨k, hk, rfl⟩ := hu
      exact hone k (List.mem_range.1 hk))
    have hxl : (xcopy xs ys).length = xs.length := by
      simp only [xcopy, List.length_append, List.length_take, List.length_drop]
      have : Nat.min ys.length xs.length = m := hm.symm
      rw [this]
      have h2 : min xs.length ys.length = m := by rw [hm, Nat.min_comm]
      omega
    have hel : ElR H μ c (xcopy xs ys) (overA cur 0 ((List.range (m * c.sz)).map F)) := by
      intro k z j v u hz hv hu
      have hj : j < c.sz := by rw [← enc_len c z]; exact lt_of_get hv
      have h2 : (ys.take xs.length).length = m := by rw [List.length_take, hm, Nat.min_comm]
      rw [get_overA] at hu
      simp only [List.length_map, List.length_range] at hu
      by_cases hk : k < m
      · have h3 := idx_lt hk hj
        simp only [xcopy] at hz
        rw [List.getElem?_append_left (by omega), List.getElem?_take, if_pos (by omega)] at hz
        rw [if_pos (by omega)] at hu
        simp [h3] at hu
        subst hu
        exact hF2 k z j v hk hz hv
      · simp only [xcopy] at hz
        rw [List.getElem?_append_right (by omega), h2, List.getElem?_drop, show Nat.min ys.length xs.length = m from hm.symm, show m + (k - m) = k by omega] at hz
        have h3 : m * c.sz ≤ k * c.sz := Nat.mul_le_mul_right _ (by omega)
        rw [if_neg (by omega)] at hu
        exact hrel k z j v u hz hv hu
    have hres : imin (iof (xlen xs)) (iof (xlen ys)) = (m : Int) := by
      have h4 : m = min ys.length xs.length := hm
      have h5 : iof (xlen xs) = (xs.length : Int) := rfl
      have h6 : iof (xlen ys) = (ys.length : Int) := rfl
      rw [h5, h6, imin]
      by_cases hlt : (ys.length : Int) < (xs.length : Int)
      · rw [if_pos hlt]; omega
      · rw [if_neg hlt]; omega
    rw [hres]
    refine ⟨_, goInt m, w.setRow eo.blk (overA cur 0 ((List.range (m * c.sz)).map F)), H, μ, run_builtin_call ho hcal fun cs => ?_, .inl rfl, h.setArr hp hd he hO hxl (by rw [size_overA]; exact hcs) hel rfl (.i .i64 m)⟩
    simp only [builtin, hargs', htys']
    have hcl : (Builtin.copy_ #[t, t] o.type #[a.eval x, a.eval y]).run P w = .ok (goInt m) (w.setRow eo.blk (overA cur 0 ((List.range (m * c.sz)).map F))) := by
      have hlo : (Builtin.lenOf (a.eval y)).run P w = .ok ys.length w := by rw [hey]; rfl
      have hmm : Nat.min ys.length eo.len = m := by rw [hlen, hm]
      simp [Builtin.copy_, run_underlying hD, hq, hlo, hmm, sizeOf, typeInfo, hi, hf, hst]
    simpa using run_v hcl
end
end Go.Ev
namespace Go.Ev
open Go
theorem mem_addNew : ∀ (r l : List Nat) (n : Nat), n ∈ addNew l r ↔ n ∈ l ∨ n ∈ r
  | [], l, n => by simp [addNew]
  | m :: r, l, n => by
    rw [addNew, mem_addNew r]
    by_cases h : l.contains m = true
    · rw [if_pos h]
      have hm : m ∈ l := by simpa using h
      simp only [List.mem_cons]
      constructor
      · rintro (h1 | h1)
        · exact .inl h1
        · exact .inr (.inr h1)
      · rintro (h1 | rfl | h1)
        · exact .inl h1
        · exact .inl hm
        · exact .inr h1
    · rw [if_neg h]
      simp [or_assoc]
theorem nodup_addNew : ∀ (r l : List Nat), l.Nodup → (addNew l r).Nodup
  | [], l, h => h
  | m :: r, l, h => by
    rw [addNew]
    refine nodup_addNew r _ ?_
    by_cases hc : l.contains m = true
    · rw [if_pos hc]; exact h
    · rw [if_neg hc]
      have hm : m ∉ l := by simpa using hc
      rw [List.nodup_append]
      refine ⟨h, by simp, fun a ha b hb => ?_⟩
      rw [List.mem_singleton] at hb
      subst hb
      exact fun e => hm (e ▸ ha)
theorem nodup_refsAll : ∀ vs : List V, (refsAll vs).Nodup
  | [] => List.nodup_nil
  | v :: r => nodup_addNew _ _ (nodup_addNew _ _ List.nodup_nil)
theorem mem_refsAll : ∀ (vs : List V) (n : Nat), n ∈ refsAll vs ↔ ∃ v ∈ vs, n ∈ refs1 v
  | [], n => by simp [refsAll]
  | v :: r, n => by
    rw [refsAll, mem_addNew, mem_addNew, mem_refsAll r]
    simp
theorem idxOf_get {l : List Nat} {n : Nat} (h : n ∈ l) : l[idxOf l n]? = some n := by
  unfold idxOf
  have hlt : l.findIdx (fun m => m == n) < l.length := by
    rw [List.findIdx_lt_length]
    exact ⟨n, h, by simp⟩
  rw [List.getElem?_eq_getElem hlt]
  have := List.findIdx_getElem (p := fun m => m == n) (xs := l) (w := hlt)
  simpa using this
theorem nodup_get {l : List Nat} (h : l.Nodup) {i j n : Nat} (hi : l[i]? = some n) (hj : l[j]? = some n) : i = j := by
  have h1 := lt_of_get hi
  have h2 := lt_of_get hj
  rw [List.getElem?_eq_getElem h1] at hi
  rw [List.getElem?_eq_getElem h2] at hj
  exact (List.getElem?_inj (lt_of_get (by rw [List.getElem?_eq_getElem h1]) : i < l.length) h).1 (by rw [List.getElem?_eq_getElem h1, List.getElem?_eq_getElem h2, hi, hj])
theorem getObs_get : ∀ (ids : List Nat) (O os : List Ob), getObs O ids = some os → os.length = ids.length ∧ ∀ (k n : Nat), ids[k]? = some n → ∃ o, O[n]? = some o ∧ os[k]? = some o ∧ closedOb o = true
  | [], O, os, h => by simp only [getObs] at h; cases h; exact ⟨rfl, fun k n h => by simp at h⟩
  | m :: r, O, os, h => by
    simp only [getObs] at h
    split at h
    · rename_i o os' h1 h2
      split at h
      · rename_i h3
        cases h
        obtain ⟨h4, h5⟩ := getObs_get r O os' h2
        refine ⟨by simp [h4], fun k n hk => ?_⟩
        cases k with
        | zero => simp at hk; subst hk; exact ⟨o, h1, rfl, h3⟩
        | succ k => simpa using h5 k n (by simpa using hk)
      · cases h
    · cases h
theorem len_setObs : ∀ (ids : List Nat) (O os : List Ob), (setObs O ids os).length = O.length
  | [], O, os => by cases os <;> rfl
  | n :: r, O, [] => rfl
  | n :: r, O, o :: os => by rw [setObs, len_setObs]; simp
theorem setObs_out : ∀ (ids : List Nat) (O os : List Ob) (n : Nat), n ∉ ids → (setObs O ids os)[n]? = O[n]?
  | [], O, os, n, _ => by cases os <;> rfl
  | m :: r, O, [], n, _ => rfl
  | m :: r, O, o :: os, n, h => by
    rw [setObs, setObs_out r _ _ n (fun hm => h (by simp [hm])), List.getElem?_set_ne (fun e => h (by simp [e]))]
theorem setObs_in : ∀ (ids : List Nat) (O os : List Ob), ids.Nodup → ∀ (k n : Nat) o, ids[k]? = some n → os[k]? = some o → n < O.length → (setObs O ids os)[n]? = some o
  | [], O, os, _, k, n, o, h, _, _ => by simp at h
  | m :: r, O, [], _, k, n, o, _, h, _ => by simp at h
  | m :: r, O, o' :: os, hd, k, n, o, h1, h2, hl => by
    rw [setObs]
    cases k with
    | zero =>
      simp at h1 h2
      subst h1; subst h2
      rw [setObs_out r _ _ m (List.nodup_cons.1 hd).1, List.getElem?_set_self hl]
    | succ k => exact setObs_in r _ _ (List.nodup_cons.1 hd).2 k n o (by simpa using h1) (by simpa using h2) (by simpa using hl)
theorem upks_weak : (l : List Shp) → (vs : List V) → (x : ShTs l) → upks l vs = some x → Wks vs (pks l x)
  | [], [], _, _ => Wks.nil
  | [], _ :: _, _, h => by unfold upks at h; cases h
  | _ :: _, [], _, h => by unfold upks at h; cases h
  | a :: r, v :: vs, x, h => by
    obtain ⟨y, ys, h1, h2, rfl⟩ := upks_cons_eq h
    exact Wks.cons (upk_wk a v y h1) (upks_weak r vs ys h2)
def ObW (o o' : Ob) : Prop := o = o' ∨ ∃ vs vs', o = .box vs ∧ o' = .box vs' ∧ Wks vs vs'
theorem upkBox_w {cs : List Shp} {vs : List V} {x : ShTs cs} (h : upks cs vs = some x) : ObW (.box vs) (.box (pks cs x)) := .inr ⟨vs, _, rfl, rfl, upks_weak cs vs x h⟩
theorem upkArr_w {t t' : Ty} {xs : List (T t')} {x : List (T t)} (h : (if e : t' = t then some (e ▸ xs) else none : Option (List (T t))) = some x) : ObW (.arr t' xs) (.arr t x) := by
  split at h
  · rename_i e
    subst e
    cases h
    exact .inl rfl
  · cases h
theorem upkOb_w : (a : ObS) → (o : Ob) → (x : ObT a) → upkOb a o = some x → ObW o (pkOb a x)
  | .box cs, .box vs, x, h => upkBox_w (cs := cs) (vs := vs) (x := x) h
  | .box cs, .arr t xs, x, h => by have h' : (none : Option (ObT (.box cs))) = some x := h; cases h'
  | .arr t, .box vs, x, h => by have h' : (none : Option (ObT (.arr t))) = some x := h; cases h'
  | .arr t, .arr t' xs, x, h => upkArr_w (t := t) (t' := t') (xs := xs) (x := x) h
theorem upkObs_w : ∀ (l : List ObS) (os : List Ob) (x : ObTs l), upkObs l os = some x → os.length = (pkObs l x).length ∧ ∀ (k : Nat) o o', os[k]? = some o → (pkObs l x)[k]? = some o' → ObW o o'
  | [], [], x, h => ⟨rfl, fun k o o' h1 => by simp at h1⟩
  | [], o :: os, x, h => by simp [upkObs] at h
  | a :: r, [], x, h => by simp [upkObs] at h
  | a :: r, o :: os, x, h => by
    simp only [upkObs] at h
    split at h
    · rename_i y ys h1 h2
      cases h
      obtain ⟨h3, h4⟩ := upkObs_w r os ys h2
      refine ⟨by simp [pkObs, h3], fun k o1 o2 h5 h6 => ?_⟩
      cases k with
      | zero => simp [pkObs] at h5 h6; subst h5; subst h6; exact upkOb_w a o y h1
      | succ k => exact h4 k o1 o2 (by simpa using h5) (by simpa [pkObs] using h6)
    · cases h
theorem Wk.val {v v' : V} (h : Wk v v') {H : HM} {μ : MU} {w : World} {x : Value} (hv : Val H μ w v x) : Val H μ w v' x :=
  ⟨h.1 H μ x hv.1, fun t xs e => hv.2 t xs (h.2 t xs e)⟩
theorem blkOf_own {v : V} {x : Value} {b : Nat} (h : blkOf v x = some b) : ∃ t xs, v = .sl t xs true := by
  unfold blkOf at h
  split at h
  · exact ⟨_, _, rfl⟩
  · cases h
theorem Wk.blk {v v' : V} (h : Wk v v') {x : Value} {b : Nat} (hb : blkOf v' x = some b) : blkOf v x = some b := by
  obtain ⟨t, xs, rfl⟩ := blkOf_own hb
  rw [h.2 t xs rfl]; exact hb
theorem Wks.getL {vs vs' : List V} (h : Wks vs vs') {j : Nat} {v : V} (hv : vs[j]? = some v) : ∃ v', vs'[j]? = some v' ∧ Wk v v' := by
  have := lt_of_get hv
  rw [h.1] at this
  exact ⟨_, List.getElem?_eq_getElem this, h.2 j _ _ hv (List.getElem?_eq_getElem this)⟩
theorem ObW.obR {o o' : Ob} (h : ObW o o') {H : HM} {μ : MU} {w : World} {e : MO} (hr : ObR H μ w e o) : ObR H μ w e o' := by
  rcases h with rfl | ⟨vs, vs', rfl, rfl, hw⟩
  · exact hr
  · obtain ⟨cur, el, hh, hs, hv⟩ := hr
    refine ⟨cur, el, hh, by rw [hs, hw.1], fun j v x h1 h2 => ?_⟩
    obtain ⟨v0, h3, h4⟩ := hw.get h1
    exact h4.val (hv j v0 x h3 h2)
theorem closed_obR {o : Ob} (hc : closedOb o = true) {H : HM} {μ μ' : MU} {w : World} {e : MO} (hr : ObR H μ w e o) : ObR H μ' w e o := by
  obtain ⟨cur, el, hh, hv⟩ := hr
  refine ⟨cur, el, hh, ?_⟩
  cases o with
  | box cs => exact ⟨hv.1, fun j v x h1 h2 => ⟨(hv.2 j v x h1 h2).1.noref (norefs_get (by simpa [closedOb] using hc) h1), (hv.2 j v x h1 h2).2⟩⟩
  | arr t xs => exact ⟨hv.1, hv.2.1, hv.2.2.1, fun i x j v y h1 h2 h3 => (hv.2.2.2 i x j v y h1 h2 h3).noref (enc_noref h2)⟩
theorem ren1_vr {H : HM} {μ μ' : MU} {f : Nat → Nat} {v : V} {x : Value} (h : VR H μ v x) (hn : ref1 v = true → ∀ n, n ∈ refs1 v → μ'[f n]? = μ[n]?) (hk : ref1 v = true ∨ noref v = true) : VR H μ' (ren1 f v) x := by
  rcases hk with hk | hk
  · cases h <;> first | (simp [ref1] at hk; done) | skip
    case ptr n off e he => exact .ptr _ off e (by rw [hn rfl n (by simp [refs1])]; exact he)
    case ept n j off e he hj => exact .ept _ j off e (by rw [hn rfl n (by simp [refs1])]; exact he) hj
    case ms n e he => exact .ms _ e (by rw [hn rfl n (by simp [refs1])]; exact he)
  · have : ren1 f v = v := by cases v <;> first | rfl | (simp [noref] at hk)
    rw [this]
    exact h.noref hk
theorem ren_vr {H : HM} {μ μ' : MU} {f : Nat → Nat} {v : V} {x : Value} (h : VR H μ v x) (hn : ∀ n, n ∈ refs1 v → μ'[f n]? = μ[n]?) (hk : argOK v = true) : VR H μ' (ren f v) x := by
  by_cases hf : ∃ g caps, v = .fn g caps
  · obtain ⟨g, caps, rfl⟩ := hf
    simp only [argOK, List.all_eq_true, Bool.or_eq_true] at hk
    cases h with
    | fn _ _ xs hl hr =>
      refine .fn g _ xs (by simpa using hl) fun j v y h1 h2 => ?_
      rw [List.getElem?_map] at h1
      cases hc : caps[j]? with
      | none => rw [hc] at h1; cases h1
      | some c =>
        rw [hc] at h1; cases h1
        refine ren1_vr (hr j c y hc h2) (fun hr1 n hm => hn n ?_) (hk c (mem_of_get hc))
        simp only [refs1, List.mem_flatMap]
        refine ⟨c, mem_of_get hc, ?_⟩
        cases c <;> first | (simp [ref1] at hr1; done) | exact hm
  · have hr : ren f v = ren1 f v := by
      cases v <;> first | rfl | exact absurd ⟨_, _, rfl⟩ hf
    rw [hr]
    refine ren1_vr h (fun _ => hn) ?_
    have : argOK v = (ref1 v || noref v) := by cases v <;> first | rfl | exact absurd ⟨_, _, rfl⟩ hf
    rw [this, Bool.or_eq_true] at hk
    exact hk
theorem dis_refs (v : V) : refs1 v.dis = refs1 v := by cases v <;> rfl
theorem dis_argOK (v : V) : argOK v.dis = argOK v := by cases v <;> rfl
theorem ren_dis (f : Nat → Nat) (v : V) : (ren f v.dis).dis = ren f v.dis := by cases v <;> rfl
end Go.Ev
namespace Go.Ev
open Go
def SoundOn (P : Program) (gl : Nat → Option (List V)) (f : Nat) (m : FM) : Prop :=
  ∀ a o x o', m.run a o = some (x, o') → ∀ (fp : List Nat) (H : HM) (μ : MU) (args : Array Value) (w : World), GlOK gl H → Inv ⟨w.heap.size, w, fp, H, μ⟩ [] H μ (pks m.ash a) (pkObs m.os o) args w →
    Calls P f args w fun e w' => ∃ y H', e = .returned y ∧ Inv ⟨w.heap.size, w, fp, H, μ⟩ [] H' μ [pk m.r x] (pkObs m.os o') #[y] w'
structure Sound (P : Program) (gl : Nat → Option (List V)) (f : Nat) (m : FM) : Prop where
  enter : ∀ args w, (callFunc f args).run P w = .ok (.enter f args) w
  calls : SoundOn P gl f m
  tot : ∀ t, m.tot = some t → ∀ a o, m.run a o = some (t a o, o)
  ro : m.ro = true → ∀ a o x o', m.run a o = some (x, o') → o' = o
  nr : ∀ x, noref (pk m.r x) = true
  co : ∀ o, (pkObs m.os o).all closedOb = true
section
variable {P : Program} {cx : Cx} {g : Gh} {G : List (Nat × Path)} {H : HM} {μ : MU} {fr : List V} {O : List Ob} {a : Act} {w : World} {o : Oper} {p : Path}
def muOf (μ : MU) (ids : List Nat) : MU := ids.map fun n => (μ[n]?).getD ⟨0, 0, 0⟩
theorem muOf_get {μ : MU} {ids : List Nat} {k : Nat} {e : MO} (hin : ∀ n ∈ ids, n < μ.length) (h : (muOf μ ids)[k]? = some e) : ∃ n, ids[k]? = some n ∧ μ[n]? = some e := by
  simp only [muOf, List.getElem?_map] at h
  cases hk : ids[k]? with
  | none => rw [hk] at h; cases h
  | some n =>
    rw [hk] at h
    have hn := hin n (mem_of_get hk)
    refine ⟨n, rfl, ?_⟩
    rw [List.getElem?_eq_getElem hn]
    simp [List.getElem?_eq_getElem hn] at h
    rw [h]
theorem muOf_of {μ : MU} {ids : List Nat} {k n : Nat} {e : MO} (hk : ids[k]? = some n) (he : μ[n]? = some e) : (muOf μ ids)[k]? = some e := by
  simp [muOf, hk, he]
def handed (fr : List V) (O : List Ob) (μ : MU) (tmps : Array Value) (w : World) (ids : List Nat) (b : Nat) : Prop :=
  ∃ n ∈ ids, owns fr O μ tmps w (.obj n) b ∨ ∃ j, owns fr O μ tmps w (.cell n j) b
theorem entry_inv (h : Inv g G H μ fr O a.tmps w) (vs : List V) (args : Array Value) (hl : vs.length = args.size) (hv : ∀ (k : Nat) v x, vs[k]? = some v → args[k]? = some x → VR H μ v x) (hok : vs.all argOK = true)
    {os : List Ob} (hos : getObs O (refsAll vs) = some os) {ash : List Shp} {oss : List ObS} {a0 : ShTs ash} {o0 : ObTs oss} (ha : upks ash ((vs.map V.dis).map (ren (idxOf (refsAll vs)))) = some a0) (ho : upkObs oss os = some o0)
    (fp : List Nat) (hfp : ∀ b, handed fr O μ a.tmps w (refsAll vs) b → b ∈ fp) :
    Inv ⟨w.heap.size, w, fp, H, muOf μ (refsAll vs)⟩ [] H (muOf μ (refsAll vs)) (pks ash a0) (pkObs oss o0) args w := by
  obtain ⟨ho1, ho2⟩ := getObs_get _ _ _ hos
  obtain ⟨hw1, hw2⟩ := upkObs_w oss os o0 ho
  have hwa := upks_weak ash _ a0 ha
  have hnd := nodup_refsAll vs
  have hin : ∀ n ∈ refsAll vs, n < μ.length := fun n hn => by
    obtain ⟨k, hk⟩ := List.mem_iff_getElem?.1 hn
    obtain ⟨o, h1, _⟩ := ho2 k n hk
    rw [← h.olen]; exact lt_of_get h1
  have hdis : ∀ v ∈ (vs.map V.dis).map (ren (idxOf (refsAll vs))), v.dis = v := by
    intro v hv
    simp only [List.map_map, List.mem_map, Function.comp] at hv
    obtain ⟨v0, _, rfl⟩ := hv
    exact ren_dis _ _
  have hown : ∀ (k : Nat) v', (pks ash a0)[k]? = some v' → ∀ x, blkOf v' x = none := by
    intro k v' h1 x
    cases hb : blkOf v' x with
    | none => rfl
    | some b =>
      obtain ⟨v, h2, h3⟩ := hwa.get h1
      have := h3.blk hb
      rw [blkOf_of_dis (hdis v (mem_of_get h2))] at this
      cases this
  have hobj : ∀ (k : Nat) ob' e, (pkObs oss o0)[k]? = some ob' → (muOf μ (refsAll vs))[k]? = some e → ∃ n ob, (refsAll vs)[k]? = some n ∧ μ[n]? = some e ∧ O[n]? = some ob ∧ ObW ob ob' ∧ closedOb ob = true := by
    intro k ob' e h1 h2
    obtain ⟨n, h3, h4⟩ := muOf_get hin h2
    obtain ⟨ob, h5, h6, h7⟩ := ho2 k n h3
    exact ⟨n, ob, h3, h4, h5, hw2 k ob ob' h6 h1, h7⟩
  have hmap : ∀ q b, owns (pks ash a0) (pkObs oss o0) (muOf μ (refsAll vs)) args w q b →
      ∃ (k : Nat) (n : Nat), (refsAll vs)[k]? = some n ∧ ((q = .obj k ∧ owns fr O μ a.tmps w (.obj n) b) ∨ ∃ j, q = .cell k j ∧ owns fr O μ a.tmps w (.cell n j) b) := by
    intro q b hq
    rcases hq with ⟨k, e, rfl, he, rfl⟩ | ⟨v, x, hq, hb⟩
    · obtain ⟨n, h3, h4⟩ := muOf_get hin he
      exact ⟨k, n, h3, .inl ⟨rfl, .inl ⟨n, e, rfl, h4, rfl⟩⟩⟩
    · cases q with
      | obj k => cases hq
      | slot k => rw [hown k v hq.1 x] at hb; cases hb
      | cell k j =>
        obtain ⟨e, cs, h1, h2, h3, h4⟩ := hq
        obtain ⟨n, ob, h5, h6, h7, h8, _⟩ := hobj k _ e h2 h1
        refine ⟨k, n, h5, .inr ⟨j, rfl, ?_⟩⟩
        rcases h8 with rfl | ⟨vs0, vs', rfl, e2, hw⟩
        · exact .inr ⟨v, x, ⟨e, cs, h6, h7, h3, h4⟩, hb⟩
        · cases e2
          obtain ⟨v0, h9, h10⟩ := hw.get h3
          exact .inr ⟨v0, x, ⟨e, vs0, h6, h7, h9, h4⟩, h10.blk hb⟩
  have hlen : (pks ash a0).length = args.size := by
    rw [← hwa.1]; simpa using hl
  refine ⟨hlen, fun s v x h1 h2 => ?_, by rw [← hw1, ho1]; simp [muOf], fun k ob' e h1 h2 => ?_, fun k e h1 o => ?_, h.agree, fun q q' b h1 h2 => ?_, fun q b h1 => ?_, fun b _ _ => rfl, HM.le.refl H, fun b o hn => absurd rfl hn, rfl, rfl, rfl, Nat.le_refl _, MU.le.refl _⟩
  · show Val H (muOf μ (refsAll vs)) w v x
    obtain ⟨v1, h3, h4⟩ := hwa.get h1
    have h3' := h3
    simp only [List.map_map, List.getElem?_map] at h3
    cases hc : vs[s]? with
    | none => rw [hc] at h3; cases h3
    | some v0 =>
      rw [hc] at h3; cases h3
      have hm := mem_of_get hc
      rw [List.all_eq_true] at hok
      refine h4.val (.of_dis (ren_vr (hv s v0 x hc h2).dis (fun n hn => ?_) (by rw [dis_argOK]; exact hok v0 hm)) (hdis _ (mem_of_get h3')))
      rw [dis_refs] at hn
      have hmem : n ∈ refsAll vs := (mem_refsAll vs n).2 ⟨v0, hm, hn⟩
      have hg := idxOf_get hmem
      have hlt := hin n hmem
      rw [muOf_of hg (List.getElem?_eq_getElem hlt), List.getElem?_eq_getElem hlt]
  · obtain ⟨n, ob, h3, h4, h5, h6, h7⟩ := hobj k ob' e h1 h2
    exact h6.obR (closed_obR h7 (h.obs n ob e h5 h4))
  · obtain ⟨n, h3, h4⟩ := muOf_get hin h1
    exact h.hob n e h4 o
  · obtain ⟨k, n, h3, h4⟩ := hmap q b h1
    obtain ⟨k', n', h5, h6⟩ := hmap q' b h2
    rcases h4 with ⟨rfl, h4⟩ | ⟨j, rfl, h4⟩ <;> rcases h6 with ⟨rfl, h6⟩ | ⟨j', rfl, h6⟩
    · have := h.uniq _ _ b h4 h6
      injection this with this
      subst this
      rw [nodup_get hnd h3 h5]
    · cases h.uniq _ _ b h4 h6
    · cases h.uniq _ _ b h4 h6
    · have := h.uniq _ _ b h4 h6
      injection this with e1 e2
      subst e1; subst e2
      rw [nodup_get hnd h3 h5]
  · obtain ⟨k, n, h3, h4⟩ := hmap q b h1
    have hn := mem_of_get h3
    rcases h4 with ⟨rfl, h4⟩ | ⟨j, rfl, h4⟩
    · exact ⟨.inr (hfp b ⟨n, hn, .inl h4⟩), (h.rng _ b h4).2⟩
    · exact ⟨.inr (hfp b ⟨n, hn, .inr ⟨j, h4⟩⟩), (h.rng _ b h4).2⟩
theorem exit_inv (h : Inv g G H μ fr O a.tmps w) (hp : pcOf fr p = true) (hd : DstOK G p fr o.dst) {ids : List Nat} (hnd : ids.Nodup) (hids : ∀ n ∈ ids, n < O.length) (fp : List Nat) (hfp : ∀ b, b ∈ fp ↔ handed fr O μ a.tmps w ids b)
    {r : V} (hr : noref r = true) {oss : List Ob} (hco : oss.all closedOb = true) {H' : HM} {y : Value} {w' : World} (hI : Inv ⟨w.heap.size, w, fp, H, muOf μ ids⟩ [] H' (muOf μ ids) [r] oss #[y] w') :
    Inv g G H' μ (put fr o.dst r) (setObs O ids oss) (putT a.tmps o.dst y) w' := by
  have hlen : oss.length = ids.length := by rw [hI.olen]; simp [muOf]
  have k : Goes H H' w w' fp := ⟨hI.hle, fun b hb hn => hI.frame b hb hn, hI.size, fun b o hb hn => by
    by_cases e : H' b o = H b o
    · exact e
    · rcases hI.hnew b o e with h1 | h1
      · dsimp only at h1; omega
      · exact absurd h1 hn, hI.os, hI.tape, hI.output⟩
  have fpO : ∀ b, b ∈ fp → ∃ q, owns fr O μ a.tmps w q b ∧ ((∃ n ∈ ids, q = .obj n) ∨ ∃ n ∈ ids, ∃ j, q = .cell n j) := by
    intro b hb
    obtain ⟨n, hn, h1 | ⟨j, h1⟩⟩ := (hfp b).1 hb
    · exact ⟨_, h1, .inl ⟨n, hn, rfl⟩⟩
    · exact ⟨_, h1, .inr ⟨n, hn, j, rfl⟩⟩
  have notfp : ∀ q b, owns fr O μ a.tmps w q b → (∀ n ∈ ids, q ≠ .obj n ∧ ∀ j, q ≠ .cell n j) → b ∉ fp := by
    intro q b hq hn hb
    obtain ⟨q', h1, h2⟩ := fpO b hb
    have e := h.uniq q q' b hq h1
    subst e
    rcases h2 with ⟨n, h3, e⟩ | ⟨n, h3, j, e⟩
    · exact (hn n h3).1 e
    · exact (hn n h3).2 j e
  have hin : ∀ n ∈ ids, n < μ.length := fun n hn => by rw [← h.olen]; exact hids n hn
  have hset : ∀ (n : Nat) ob, (setObs O ids oss)[n]? = some ob → (∃ k : Nat, ids[k]? = some n ∧ oss[k]? = some ob) ∨ (n ∉ ids ∧ O[n]? = some ob) := by
    intro n ob hn
    by_cases hm : n ∈ ids
    · obtain ⟨kk, hk⟩ := List.mem_iff_getElem?.1 hm
      have hlt : kk < oss.length := by rw [hlen]; exact lt_of_get hk
      have := setObs_in ids O oss hnd kk n _ hk (List.getElem?_eq_getElem hlt) (hids n hm)
      rw [this] at hn
      exact .inl ⟨kk, hk, by rw [List.getElem?_eq_getElem hlt]; exact hn⟩
    · rw [setObs_out ids O oss n hm] at hn
      exact .inr ⟨hm, hn⟩
  have hplen : (put fr o.dst r).length = fr.length := by cases o.dst <;> simp [put]
  have old : ∀ (s : Nat) v' x', (put fr o.dst r)[s]? = some v' → (putT a.tmps o.dst y)[s]? = some x' → o.dst ≠ some s → fr[s]? = some v' ∧ a.tmps[s]? = some x' := by
    intro s v' x' h1 h2 hs
    cases hd' : o.dst with
    | none => rw [hd'] at h1 h2; exact ⟨h1, h2⟩
    | some d =>
      rw [hd'] at h1 h2 hs
      have hne : d ≠ s := fun e => hs (by rw [e])
      rw [put_some, List.getElem?_set_ne hne] at h1
      simp only [putT] at h2
      rw [Array.getElem?_setIfInBounds_ne hne] at h2
      exact ⟨h1, h2⟩
  have new : ∀ (s : Nat) v' x', o.dst = some s → (put fr o.dst r)[s]? = some v' → (putT a.tmps o.dst y)[s]? = some x' → v' = r ∧ x' = y := by
    intro s v' x' hs h1 h2
    rw [hs] at h1 h2
    have hlt : s < fr.length := by have := lt_of_get h1; simpa [put] using this
    rw [put_some, List.getElem?_set_self hlt] at h1
    simp only [putT] at h2
    rw [Array.getElem?_setIfInBounds_self_of_lt (by rw [← h.len]; exact hlt)] at h2
    cases h1; cases h2; exact ⟨rfl, rfl⟩
  have hres : Val H' (muOf μ ids) w' r y := hI.slots 0 r y rfl rfl
  have hmap : ∀ q b, owns (put fr o.dst r) (setObs O ids oss) μ (putT a.tmps o.dst y) w' q b →
      (∃ qc, owns [r] oss (muOf μ ids) #[y] w' qc b ∧ ((qc = .slot 0 ∧ ∃ d, o.dst = some d ∧ q = .slot d) ∨ (∃ (kk : Nat) (n : Nat), ids[kk]? = some n ∧ qc = .obj kk ∧ q = .obj n) ∨ ∃ (kk : Nat) (n : Nat) (j : Nat), ids[kk]? = some n ∧ qc = .cell kk j ∧ q = .cell n j)) ∨
      (owns fr O μ a.tmps w q b ∧ b ∉ fp) := by
    intro q b hq
    rcases hq with ⟨n, e, rfl, he, rfl⟩ | ⟨v, x, hq, hb⟩
    · by_cases hm : n ∈ ids
      · obtain ⟨kk, hk⟩ := List.mem_iff_getElem?.1 hm
        exact .inl ⟨.obj kk, .inl ⟨kk, e, rfl, muOf_of hk he, rfl⟩, .inr (.inl ⟨kk, n, hk, rfl, rfl⟩)⟩
      · have ho : owns fr O μ a.tmps w (.obj n) e.blk := .inl ⟨n, e, rfl, he, rfl⟩
        exact .inr ⟨ho, notfp _ _ ho fun n' hn' => ⟨fun e' => by injection e' with e'; exact hm (e' ▸ hn'), fun j e' => by cases e'⟩⟩
    · cases q with
      | obj n => cases hq
      | slot s =>
        by_cases hs : o.dst = some s
        · obtain ⟨rfl, rfl⟩ := new s v x hs hq.1 hq.2
          exact .inl ⟨.slot 0, .inr ⟨v, x, ⟨rfl, rfl⟩, hb⟩, .inl ⟨rfl, s, hs, rfl⟩⟩
        · have ho : owns fr O μ a.tmps w (.slot s) b := .inr ⟨v, x, old s v x hq.1 hq.2 hs, hb⟩
          exact .inr ⟨ho, notfp _ _ ho fun n' _ => ⟨fun e' => (by cases e'), fun j e' => by cases e'⟩⟩
      | cell n j =>
        obtain ⟨e, cs, h1, h2, h3, h4⟩ := hq
        rcases hset n _ h2 with ⟨kk, hk, h5⟩ | ⟨hm, h5⟩
        · exact .inl ⟨.cell kk j, .inr ⟨v, x, ⟨e, cs, muOf_of hk h1, h5, h3, h4⟩, hb⟩, .inr (.inr ⟨kk, n, j, hk, rfl, rfl⟩)⟩
        · have hob : owns fr O μ a.tmps w (.obj n) e.blk := .inl ⟨n, e, rfl, h1, rfl⟩
          have hnf := notfp _ _ hob fun n' hn' => ⟨fun e' => by injection e' with e'; exact hm (e' ▸ hn'), fun j e' => by cases e'⟩
          rw [k.cell j (h.rng _ _ hob).2 hnf] at h4
          have ho : owns fr O μ a.tmps w (.cell n j) b := .inr ⟨v, x, ⟨e, cs, h1, h5, h3, h4⟩, hb⟩
          exact .inr ⟨ho, notfp _ _ ho fun n' hn' => ⟨fun e' => (by cases e'), fun j e' => by injection e' with e'; exact hm (e' ▸ hn')⟩⟩
  have hrngC : ∀ qc b, owns [r] oss (muOf μ ids) #[y] w' qc b → w.heap.size ≤ b ∨ b ∈ fp := fun qc b hq => (hI.rng qc b hq).1
  have hlt : ∀ q b, owns fr O μ a.tmps w q b → b < w.heap.size := fun q b hq => (h.rng q b hq).2
  refine ⟨by rw [hplen, h.len]; cases o.dst <;> simp [putT], fun s v x h1 h2 => ?_, by rw [len_setObs]; exact h.olen, fun n ob e h1 h2 => ?_, fun n e h1 oo => ?_, hI.agree, fun q q' b h1 h2 => ?_, fun q b h1 => ?_, fun b hb hn => ?_,
    fun b o v hv => hI.hle b o v (h.hle b o v hv), fun b oo hne => ?_, k.os.trans h.os, k.tape.trans h.tape, k.output.trans h.output, Nat.le_trans h.size hI.size, h.mle⟩
  · by_cases hs : o.dst = some s
    · obtain ⟨rfl, rfl⟩ := new s v x hs h1 h2
      have hv : Val H' μ w' v x := ⟨hres.1.noref hr, hres.2⟩
      exact hd.slotR (ds := []) hp hv s hs
    · obtain ⟨h3, h4⟩ := old s v x h1 h2 hs
      refine SlotR.goes k (MU.le.refl μ) (h.slots s v x h3 h4) (.inl rfl) (fun q hq hu hrd => ?_) (fun b hb => ?_)
      · have hh : ∀ t ∈ slotsOf q, ∀ c, fr.getD t .u = .b c ↔ (put fr o.dst r).getD t .u = .b c := by
          intro t ht c
          cases hd' : o.dst with
          | none => exact Iff.rfl
          | some d =>
            refine set_b_iff (fun e => ?_) c
            subst e
            obtain ⟨c', hc'⟩ := ready_b hrd ht
            rw [(hd t hd').2 s q hq ht] at hc'; cases hc'
        exact ⟨(ready_congr hh).symm, (pcOf_congr hh).symm⟩
      · exact notfp (.slot s) b (.inr ⟨v, x, ⟨h3, h4⟩, hb⟩) fun n' _ => ⟨fun e' => (by cases e'), fun j e' => by cases e'⟩
  · rcases hset n ob h1 with ⟨kk, hk, h3⟩ | ⟨hm, h3⟩
    · rw [List.all_eq_true] at hco
      exact closed_obR (hco ob (mem_of_get h3)) (hI.obs kk ob e h3 (muOf_of hk h2))
    · have hob : owns fr O μ a.tmps w (.obj n) e.blk := .inl ⟨n, e, rfl, h2, rfl⟩
      refine (h.obs n ob e h3 h2).goes k (MU.le.refl μ) (notfp _ _ hob fun n' hn' => ⟨fun e' => by injection e' with e'; exact hm (e' ▸ hn'), fun j e' => by cases e'⟩) fun cs hcs j v x b hj hc hb => ?_
      subst hcs
      exact notfp (.cell n j) b (.inr ⟨v, x, ⟨e, cs, h2, h3, hj, hc⟩, hb⟩) fun n' hn' => ⟨fun e' => (by cases e'), fun j e' => by injection e' with e'; exact hm (e' ▸ hn')⟩
  · by_cases hm : n ∈ ids
    · obtain ⟨kk, hk⟩ := List.mem_iff_getElem?.1 hm
      exact hI.hob kk e (muOf_of hk h1) oo
    · have hob : owns fr O μ a.tmps w (.obj n) e.blk := .inl ⟨n, e, rfl, h1, rfl⟩
      rw [k.hsame e.blk oo (hlt _ _ hob) (notfp _ _ hob fun n' hn' => ⟨fun e' => by injection e' with e'; exact hm (e' ▸ hn'), fun j e' => by cases e'⟩)]
      exact h.hob n e h1 oo
  · rcases hmap q b h1 with ⟨qc, h3, h4⟩ | ⟨h3, h4⟩ <;> rcases hmap q' b h2 with ⟨qc', h5, h6⟩ | ⟨h5, h6⟩
    · have e := hI.uniq qc qc' b h3 h5
      subst e
      rcases h4 with ⟨rfl, d, hd1, rfl⟩ | ⟨kk, n, hk, rfl, rfl⟩ | ⟨kk, n, j, hk, rfl, rfl⟩ <;> rcases h6 with ⟨e, d', hd2, rfl⟩ | ⟨kk', n', hk', e, rfl⟩ | ⟨kk', n', j', hk', e, rfl⟩ <;> first | (cases e; done) | skip
      · rw [hd1] at hd2; cases hd2; rfl
      · injection e with e; subst e; rw [hk] at hk'; cases hk'; rfl
      · injection e with e e'; subst e; subst e'; rw [hk] at hk'; cases hk'; rfl
    · rcases hrngC qc b h3 with h7 | h7
      · have := hlt _ _ h5; omega
      · exact absurd h7 h6
    · rcases hrngC qc' b h5 with h7 | h7
      · have := hlt _ _ h3; omega
      · exact absurd h7 h4
    · exact h.uniq q q' b h3 h5
  · rcases hmap q b h1 with ⟨qc, h3, _⟩ | ⟨h3, _⟩
    · refine ⟨?_, (hI.rng qc b h3).2⟩
      rcases hrngC qc b h3 with h7 | h7
      · exact .inl (Nat.le_trans h.size h7)
      · obtain ⟨q', h8, _⟩ := fpO b h7
        exact (h.rng q' b h8).1
    · exact ⟨(h.rng q b h3).1, Nat.lt_of_lt_of_le (hlt _ _ h3) hI.size⟩
  · have hnf : b ∉ fp := fun hb' => by
      obtain ⟨q', h8, _⟩ := fpO b hb'
      rcases (h.rng q' b h8).1 with h9 | h9
      · omega
      · exact hn h9
    rw [k.heap b (Nat.lt_of_lt_of_le hb h.size) hnf]; exact h.frame b hb hn
  · by_cases e : H' b oo = H b oo
    · rw [e] at hne; exact h.hnew b oo hne
    · rcases hI.hnew b oo e with h1 | h1
      · exact .inl (Nat.le_trans h.size h1)
      · obtain ⟨q', h8, _⟩ := fpO b h1
        exact (h.rng q' b h8).1
end
end Go.Ev
namespace Go.Ev
open Go
def OpOK (P : Program) (g : Gh) (G : List (Nat × Path)) (o : Oper) (a : Act) (w : World) (fr' : List V) (O' : List Ob) : Prop :=
  ∀ (K : Act → World → Prop) (Q : Exit → Act → World → Prop), (∀ H' μ' x w', Inv g G H' μ' fr' O' (putT a.tmps o.dst x) w' → K (a.put o.dst x) w') → o.wp P a w K Q
def ModelsOK (P : Program) (cx : Cx) : Prop := ∀ f m, m ∈ cx.cm f → Sound P cx.gl f m
section
variable {P : Program} {cx : Cx} {g : Gh} {G : List (Nat × Path)} {H : HM} {μ : MU} {fr : List V} {O : List Ob} {a : Act} {w : World} {o : Oper} {p : Path}
theorem EffRes.ok {fr' : List V} {O' : List Ob} (h : EffRes P g G a.tmps w o.dst (execOp a.eval o) fr' O') : OpOK P g G o a w fr' O' := by
  intro K Q hK
  obtain ⟨n, x, w', H', μ', h1, h2, h3⟩ := h
  unfold Oper.wp
  rw [h1]
  rcases h2 with rfl | ⟨rfl, rfl⟩
  · exact hK H' μ' x w' h3
  · exact hK H' μ' undef w' h3
theorem Inv.weakObs {tmps : Array Value} (h : Inv g G H μ fr O tmps w) {O' : List Ob} (hl : O'.length = O.length) (hw : ∀ (n : Nat) ob ob', O[n]? = some ob → O'[n]? = some ob' → ObW ob ob') : Inv g G H μ fr O' tmps w := by
  have get : ∀ (n : Nat) ob', O'[n]? = some ob' → ∃ ob, O[n]? = some ob ∧ ObW ob ob' := fun n ob' h1 => by
    have hlt : n < O.length := by rw [← hl]; exact lt_of_get h1
    exact ⟨_, List.getElem?_eq_getElem hlt, hw n _ _ (List.getElem?_eq_getElem hlt) h1⟩
  have own : ∀ q b, owns fr O' μ tmps w q b → owns fr O μ tmps w q b := by
    intro q b hq
    rcases hq with h1 | ⟨v, x, h1, hb⟩
    · exact .inl h1
    · cases q with
      | obj n => cases h1
      | slot s => exact .inr ⟨v, x, h1, hb⟩
      | cell n j =>
        obtain ⟨e, cs, h2, h3, h4, h5⟩ := h1
        obtain ⟨ob, h6, h7⟩ := get n _ h3
        rcases h7 with rfl | ⟨vs, vs', rfl, e2, h8⟩
        · exact .inr ⟨v, x, ⟨e, cs, h2, h6, h4, h5⟩, hb⟩
        · cases e2
          obtain ⟨v0, h9, h10⟩ := h8.get h4
          exact .inr ⟨v0, x, ⟨e, vs, h2, h6, h9, h5⟩, h10.blk hb⟩
  exact ⟨h.len, h.slots, by rw [hl]; exact h.olen, fun n ob' e h1 h2 => by obtain ⟨ob, h3, h4⟩ := get n ob' h1; exact h4.obR (h.obs n ob e h3 h2), h.hob, h.agree,
    fun q q' b h1 h2 => h.uniq q q' b (own q b h1) (own q' b h2), fun q b h1 => h.rng q b (own q b h1), h.frame, h.hle, h.hnew, h.os, h.tape, h.output, h.size, h.mle⟩
theorem weak_setObs {ids : List Nat} (hnd : ids.Nodup) {os os' : List Ob} (hos : getObs O ids = some os) (hl : os.length = os'.length) (hw : ∀ (k : Nat) ob ob', os[k]? = some ob → os'[k]? = some ob' → ObW ob ob') :
    ∀ (n : Nat) ob ob', O[n]? = some ob → (setObs O ids os')[n]? = some ob' → ObW ob ob' := by
  obtain ⟨h1, h2⟩ := getObs_get _ _ _ hos
  intro n ob ob' h3 h4
  by_cases hm : n ∈ ids
  · obtain ⟨k, hk⟩ := List.mem_iff_getElem?.1 hm
    obtain ⟨ob0, h5, h6, _⟩ := h2 k n hk
    rw [h3] at h5; cases h5
    have hlt : k < os'.length := by rw [← hl]; exact lt_of_get h6
    rw [setObs_in ids O os' hnd k n _ hk (List.getElem?_eq_getElem hlt) (lt_of_get h3)] at h4
    cases h4
    exact hw k _ _ h6 (List.getElem?_eq_getElem hlt)
  · rw [setObs_out ids O os' n hm, h3] at h4
    cases h4
    exact .inl rfl
theorem skip_inv (h : Inv g G H μ fr O a.tmps w) (hd : DstOK G p fr o.dst) (hdp : ∀ d', o.dst = some d' → look d' G = some p) (hp : pcOf fr p = false) (v : V) : Inv g G H μ (put fr o.dst v) O (putT a.tmps o.dst undef) w := by
  refine h.step (Goes.refl H w) h.agree o.dst [] v undef (fun b hb => by cases hb) (fun d' e _ => ?_) (fun b hb => ?_) (fun d' s q e => (hd d' e).2 s q)
  · unfold SlotR
    rcases (hd d' e).1 with h1 | ⟨h1, h2⟩
    · rw [hdp d' e] at h1; cases h1
    · simp only [h1]
      obtain ⟨e1, e2⟩ := hd.path e h1 h2 [] v
      exact .inr ⟨by rw [e1]; exact h2, (fun e3 => by rw [e2, hp] at e3; cases e3), fun _ => trivial⟩
  · unfold blkOf at hb
    split at hb
    · rename_i e; cases e
    · cases hb
theorem pick_cases {vs : List V} {os : List Ob} {ids : List Nat} : ∀ (l : List FM) (st : St), pickFM vs os ids O l = st → st = .no ∨ ∃ m ∈ l, ∃ a0 o0, upks m.ash vs = some a0 ∧ upkObs m.os os = some o0 ∧
    ((∃ f, m.tot = some f ∧ st = .tot (pk m.r (f a0 o0)) (setObs O ids (pkObs m.os o0))) ∨ st = .call m.r m.os m.ro (m.run a0 o0) ids (setObs O ids (pkObs m.os o0)))
  | [], st, h => .inl h.symm
  | m :: r, st, h => by
    unfold pickFM at h
    split at h
    · rename_i a0 o0 h1 h2
      right
      refine ⟨m, by simp, a0, o0, h1, h2, ?_⟩
      split at h
      · rename_i f hf; exact .inl ⟨f, hf, h.symm⟩
      · exact .inr h.symm
    · rcases pick_cases r st h with h1 | ⟨m', h1, h2⟩
      · exact .inl h1
      · exact .inr ⟨m', by simp [h1], h2⟩
theorem call_sound (hM : ModelsOK P cx) (h : Inv g G H μ fr O a.tmps w) (hgl : GlOK cx.gl H) (hp : pcOf fr p = true) (hd : DstOK G p fr o.dst) {c : Call} (ho : o.op = .call c) {fo : Operand} (hc : c.callee = .value fo)
    (hr1 : readable G p fo = true) (hr : ∀ x ∈ c.args.toList, readable G p x = true) {gf : Nat} {caps vs : List V} (hf : ov cx fr fo = .fn gf caps) (hvs : argsV cx fr c.args.toList c.argTypes.toList = some vs)
    (hok : (vs ++ caps).all argOK = true) {os : List Ob} (hos : getObs O (refsAll (vs ++ caps)) = some os) {m : FM} (hm : m ∈ cx.cm gf) {a0 : ShTs m.ash} {o0 : ObTs m.os}
    (ha0 : upks m.ash (((vs ++ caps).map V.dis).map (ren (idxOf (refsAll (vs ++ caps))))) = some a0) (ho0 : upkObs m.os os = some o0) {x : ShT m.r} {o' : ObTs m.os} (hrun : m.run a0 o0 = some (x, o')) :
    OpOK P g G o a w (put fr o.dst (pk m.r x)) (setObs O (refsAll (vs ++ caps)) (pkObs m.os o')) := by
  classical
  obtain ⟨hl1, hl2, hval⟩ := argsV_get h hgl hp _ _ _ hr hvs
  have hfv := (ov_val h hgl hp hr1).1
  rw [hf] at hfv
  generalize hq : a.eval fo = q at hfv
  cases hfv with
  | fn _ _ xs hcl hcv =>
    have hS := hM gf m hm
    let args : Array Value := c.args.map a.eval ++ xs
    have hlen : (vs ++ caps).length = args.size := by simp [args, ← hl1, hcl]
    have hargs : ∀ (k : Nat) v y, (vs ++ caps)[k]? = some v → args[k]? = some y → VR H μ v y := by
      intro k v y h1 h2
      by_cases hk : k < vs.length
      · rw [List.getElem?_append_left hk] at h1
        simp only [args] at h2
        rw [Array.getElem?_append_left (by simp; rw [← Array.length_toList, hl1]; exact hk), Array.getElem?_map] at h2
        cases hx : c.args[k]? with
        | none => rw [hx] at h2; cases h2
        | some x0 => rw [hx] at h2; cases h2; exact (hval k x0 v (by simpa using hx) h1).1
      · rw [List.getElem?_append_right (by omega)] at h1
        simp only [args] at h2
        have hsz : (c.args.map a.eval).size = vs.length := by simp; rw [← Array.length_toList, hl1]
        rw [Array.getElem?_append_right (by rw [hsz]; omega), hsz] at h2
        exact hcv (k - vs.length) v y h1 h2
    let fp := (List.range w.heap.size).filter fun b => decide (handed fr O μ a.tmps w (refsAll (vs ++ caps)) b)
    have hfp : ∀ b, b ∈ fp ↔ handed fr O μ a.tmps w (refsAll (vs ++ caps)) b := by
      intro b
      simp only [fp, List.mem_filter, List.mem_range, decide_eq_true_eq]
      refine ⟨fun h => h.2, fun hb => ⟨?_, hb⟩⟩
      obtain ⟨n, _, h1 | ⟨j, h1⟩⟩ := hb
      · exact (h.rng _ b h1).2
      · exact (h.rng _ b h1).2
    have hI := entry_inv h (vs ++ caps) args hlen hargs hok hos ha0 ho0 fp (fun b hb => (hfp b).2 hb)
    have hC := hS.calls a0 o0 x o' hrun fp H _ args w hgl hI
    obtain ⟨hg1, hg2⟩ := getObs_get _ _ _ hos
    intro K Q hK
    unfold Oper.wp
    have hrunop : (execOp a.eval o).run P w = .ok (.enter gf args) w := by
      have := hS.enter args w
      simp only [execOp, ho, resolve, hc, hq]
      simp [Deferred.ofValue, invoke, args] at this ⊢
      exact this
    rw [hrunop, Oper.upon_enter]
    refine hC.mono fun e w' he => ?_
    obtain ⟨y, H', rfl, hI'⟩ := he
    exact hK H' μ y w' (exit_inv h hp hd (nodup_refsAll _) (fun n hn => by
      obtain ⟨k, hk⟩ := List.mem_iff_getElem?.1 hn
      obtain ⟨ob, h1, _⟩ := hg2 k n hk
      exact lt_of_get h1) fp hfp (hS.nr x) (hS.co o') hI')
end
end Go.Ev
namespace Go.Ev
open Go
def StOK (P : Program) (g : Gh) (G : List (Nat × Path)) (a : Act) (w : World) (o : Oper) (fr : List V) (O : List Ob) : St → Prop
  | .no => True
  | .pure ok v => ok = true → OpOK P g G o a w (put fr o.dst v) O
  | .eff ok v ds d => ok = true → OpOK P g G o a w (put (disAll fr ds) o.dst v) (d.app O)
  | .tot v O' => OpOK P g G o a w (put fr o.dst v) O'
  | .call r os ro x ids O' => ∀ y, x = some y → OpOK P g G o a w (put fr o.dst (pk r y.1)) (match ro with | true => O' | false => setObs O ids (pkObs os y.2))
def St.isP : St → Bool
  | .no => true
  | .pure _ _ => true
  | _ => false
theorem bin_isP (cx : Cx) (t : Nat) (op : BinOp) (x y : V) : (bin cx t op x y).isP = true := by
  unfold bin
  split <;> (try split) <;> (try split) <;> rfl
theorem un_isP (op : UnOp) (x : V) : (un op x).isP = true := by unfold un; split <;> rfl
theorem ofOpt_isP (x : Option V) : (ofOpt x).isP = true := by unfold ofOpt; split <;> rfl
theorem sliceLH_isP (cx : Cx) (t : Nat) (x l : V) (h : Option V) : (sliceLH cx t x l h).isP = true := by
  unfold sliceLH
  split <;> (try split) <;> rfl
theorem idxV_isP (cx : Cx) (t : Nat) (O : List Ob) (x i : V) : (idxV cx t O x i).isP = true := by
  unfold idxV
  split <;> (try split) <;> (try split) <;> rfl
theorem indexV_isP (cx : Cx) (t : Nat) (x i : V) : (indexV cx t x i).isP = true := by
  unfold indexV
  split <;> (try split) <;> (try split) <;> rfl
theorem pickOp_isP (cx : Cx) (G : List (Nat × Path)) (p : Path) (fr : List V) (c a b : Operand) : (pickOp cx G p fr c a b).isP = true := by
  unfold pickOp
  split <;> (try split) <;> (try split) <;> first | rfl | exact ofOpt_isP _
section
variable {P : Program} {cx : Cx} {g : Gh} {G : List (Nat × Path)} {H : HM} {μ : MU} {fr : List V} {O : List Ob} {a : Act} {w : World} {o : Oper} {p : Path}
theorem stOK_pure (h : Inv g G H μ fr O a.tmps w) (hp : pcOf fr p = true) (hd : DstOK G p fr o.dst) {st : St} (hP : st.isP = true) (hS : ∀ ok v, st = .pure ok v → ok = true → PureRes P H μ w (execOp a.eval o) v) : StOK P g G a w o fr O st := by
  cases st with
  | no => trivial
  | pure ok v => exact fun hok => ((hS ok v rfl hok).eff h hp hd).ok
  | eff ok v ds d => cases hP
  | tot v O' => cases hP
  | call r os ro x ids O' => cases hP
theorem castT_eq {t t' : Ty} {xs : List (T t)} {ys : List (T t')} (h : castT t t' xs = some ys) : ∃ e : t = t', e ▸ xs = ys := by
  unfold castT at h
  split at h
  · rename_i e; exact ⟨e, by cases h; rfl⟩
  · cases h
theorem room_iff {n b : Nat} (h : room n b = true) : n * b ≤ roomMax := Nat.le_of_ble_eq_true h
theorem builtin_stOK (T0 : TabOK P cx) (h : Inv g G H μ fr O a.tmps w) (hgl : GlOK cx.gl H) (hp : pcOf fr p = true) (hd : DstOK G p fr o.dst) {c : Call} (ho : o.op = .call c) {bt : Builtin} (hc : c.callee = .builtin bt)
    (hr : ∀ x ∈ c.args.toList, readable G p x = true) : StOK P g G a w o fr O (builtinV cx bt c.args.toList c.argTypes.toList fr O) := by
  unfold builtinV
  split
  · rename_i ops t v e1 e2
    split
    · rename_i n hn
      exact fun _ => ((len_sound T0 h hgl hp ho hc hr e1 e2 hn).eff h hp hd).ok
    · trivial
  · rename_i k i r e2
    refine stOK_pure h hp hd (ofOpt_isP _) fun ok v hs _ => ?_
    unfold ofOpt at hs
    split at hs
    · rename_i v' hm
      cases hs
      exact maxmin_sound h hgl hp ho hr e2 (.inl ⟨hc, hm⟩)
    · cases hs
  · rename_i k i r e2
    refine stOK_pure h hp hd (ofOpt_isP _) fun ok v hs _ => ?_
    unfold ofOpt at hs
    split at hs
    · rename_i v' hm
      cases hs
      exact maxmin_sound h hgl hp ho hr e2 (.inr ⟨hc, hm⟩)
    · cases hs
  · rename_i x y t t' A B e1 e2 e3
    split
    · rename_i ht
      have ht := Nat.eq_of_beq_eq_true ht
      subst ht
      unfold appendV
      split
      · rename_i c1 xs c2 ys own e hk
        split
        · rename_i ys' hcast hty
          obtain ⟨rfl, rfl⟩ := castT_eq hcast
          intro hroom
          rw [e1, e2] at e3
          simp only [argsV, Option.some.injEq, List.cons.injEq] at e3
          obtain ⟨e3, e4, _⟩ := e3
          rw [e1] at hr
          exact (append_sound T0 h hgl hp hd ho hc (t' := t) e1 e2 (hr x (by simp)) (hr y (by simp)) hk e3 e4 hty (room_iff hroom)).ok
        · trivial
      · trivial
    · trivial
  · rename_i t A e1 e2
    unfold clearV
    split
    · rename_i n e hk
      split
      · rename_i c xs c' hO hty
        split
        · rename_i hdec
          intro _
          have hcc : c' = c := of_decide_eq_true hdec
          subst hcc
          have e3 : ∃ x, c.args.toList = [x] ∧ nrm cx t (ov cx fr x) = .ms n := by
            cases hx : c.args.toList with
            | nil => rw [hx, e1] at e2; simp [argsV] at e2
            | cons x r =>
              rw [hx, e1] at e2
              cases r with
              | nil => simp only [argsV, Option.some.injEq, List.cons.injEq] at e2; exact ⟨x, rfl, e2.1⟩
              | cons y r => simp [argsV] at e2
          obtain ⟨x, e3, e4⟩ := e3
          rw [e3] at hr
          exact (clear_sound T0 h hgl hp hd ho hc e3 e1 (hr x (by simp)) hk e4 hO hty).ok
        · trivial
      · trivial
    · trivial
  · rename_i t t' A B e1 e2
    split
    · rename_i ht
      have ht := Nat.eq_of_beq_eq_true ht
      subst ht
      unfold copyV
      split
      · rename_i n c2 ys own e hk
        split
        · rename_i c' xs hO
          split
          · rename_i ys' hcast hty
            obtain ⟨rfl, rfl⟩ := castT_eq hcast
            intro _
            have e3 : ∃ x y, c.args.toList = [x, y] ∧ nrm cx t (ov cx fr x) = .ms n ∧ nrm cx t (ov cx fr y) = .sl c2 ys own := by
              cases hx : c.args.toList with
              | nil => rw [hx, e1] at e2; simp [argsV] at e2
              | cons x r =>
                rw [hx, e1] at e2
                cases r with
                | nil => simp [argsV] at e2
                | cons y r =>
                  cases r with
                  | nil => simp only [argsV, Option.some.injEq, List.cons.injEq] at e2; exact ⟨x, y, rfl, e2.1, e2.2.1⟩
                  | cons z r => simp [argsV] at e2
            obtain ⟨x, y, e3, e4, e5⟩ := e3
            rw [e3] at hr
            exact (copy_sound T0 h hgl hp hd ho hc e3 e1 (hr x (by simp)) (hr y (by simp)) hk e4 hO e5 hty).ok
          · trivial
        · trivial
      · trivial
    · trivial
  · trivial
end
end Go.Ev
namespace Go.Ev
open Go
section
variable {P : Program} {cx : Cx} {g : Gh} {G : List (Nat × Path)} {H : HM} {μ : MU} {fr : List V} {O : List Ob} {a : Act} {w : World} {o : Oper} {p : Path}
theorem ite_stOK {c : Prop} [Decidable c] {A B : St} (hA : StOK P g G a w o fr O A) (hB : StOK P g G a w o fr O B) : StOK P g G a w o fr O (if c then A else B) := by
  split
  · exact hA
  · exact hB
theorem callG_stOK (hM : ModelsOK P cx) (h : Inv g G H μ fr O a.tmps w) (hgl : GlOK cx.gl H) (hp : pcOf fr p = true) (hd : DstOK G p fr o.dst) {c : Call} (ho : o.op = .call c) {fo : Operand} (hc : c.callee = .value fo)
    (hr1 : readable G p fo = true) (hr : ∀ x ∈ c.args.toList, readable G p x = true) {gf : Nat} {caps vs : List V} (hf : ov cx fr fo = .fn gf caps) (hvs : argsV cx fr c.args.toList c.argTypes.toList = some vs) :
    StOK P g G a w o fr O (callG cx gf (vs ++ caps) O) := by
  unfold callG
  dsimp only
  split
  · rename_i os hok hos
    rcases pick_cases (O := O) (cx.cm gf) _ rfl with h1 | ⟨m, hm, a0, o0, h1, h2, h3⟩
    · rw [h1]; trivial
    · rcases h3 with ⟨f, hf1, h3⟩ | h3
      · rw [h3]
        exact call_sound hM h hgl hp hd ho hc hr1 hr hf hvs hok hos hm h1 h2 ((hM gf m hm).tot f hf1 a0 o0)
      · rw [h3]
        intro y hy
        have hrun : m.run a0 o0 = some (y.1, y.2) := by rw [hy]
        have := call_sound hM h hgl hp hd ho hc hr1 hr hf hvs hok hos hm h1 h2 hrun
        cases hro : m.ro with
        | false => exact this
        | true => rw [(hM gf m hm).ro hro a0 o0 y.1 y.2 hrun] at this; exact this
  · trivial
theorem stepOp_sound (T0 : TabOK P cx) (hM : ModelsOK P cx) (h : Inv g G H μ fr O a.tmps w) (hgl : GlOK cx.gl H) (hp : pcOf fr p = true) (hd : DstOK G p fr o.dst) (ops : List Oper) : StOK P g G a w o fr O (stepOp cx ops o (readable G p) fr O) := by
  unfold stepOp
  split
  · rename_i hall
    rw [List.all_eq_true] at hall
    cases ho : o.op with
    | move x =>
      rw [ho] at hall
      have hr := hall x (by simp [Op.operands])
      dsimp only
      exact ite_stOK (fun _ => (pass_sound h hgl hp hd (.inl ho) hr o.type).ok) (fun _ => ((move_sound h hgl hp ho hr).eff h hp hd).ok)
    | assign x =>
      rw [ho] at hall
      exact fun _ => (pass_sound h hgl hp hd (.inr ho) (hall x (by simp [Op.operands])) o.type).ok
    | alloc e =>
      dsimp only
      split
      · rename_i hok; exact fun _ => (alloc_sound T0 h hp hd ho hok).ok
      · trivial
    | box e x =>
      rw [ho] at hall
      dsimp only
      split
      · rename_i hc; exact fun _ => (box_sound h hgl hp hd ho (hall x (by simp [Op.operands])) hc.2.1).ok
      · trivial
    | build t parts =>
      rw [ho] at hall
      have hr : ∀ x ∈ parts.toList, readable G p x.2 = true := fun x hx => hall x.2 (by simp only [Op.operands, List.mem_map]; exact ⟨x, hx, rfl⟩)
      dsimp only
      split
      · rename_i fs hk
        split
        · rename_i cs hb; exact fun _ => ((build_sound T0 h hgl hp ho hr (.inl ⟨fs, hk, hb⟩)).eff h hp hd).ok
        · trivial
      · rename_i n e hk
        split
        · rename_i cs hb; exact fun _ => ((build_sound T0 h hgl hp ho hr (.inr ⟨n, e, hk, hb⟩)).eff h hp hd).ok
        · trivial
      · trivial
    | buildSlice t len parts =>
      rw [ho] at hall
      have hr : ∀ x ∈ parts.toList, readable G p x.2 = true := fun x hx => hall x.2 (by simp only [Op.operands, List.mem_map]; exact ⟨x, hx, rfl⟩)
      dsimp only
      split
      · rename_i e hk
        split
        · rename_i c hc
          split
          · rename_i xs hs
            split
            · rename_i hlim
              rw [Bool.and_eq_true, List.all_eq_true] at hlim
              exact fun _ => ((buildSlice_sound T0 h hgl hp ho hr hk hc hs (fun q hq => by simpa [Nat.blt_eq] using hlim.1 q hq) (Nat.le_of_ble_eq_true hlim.2)).eff h hp hd).ok
            · trivial
          · trivial
        · trivial
      · trivial
    | load t x =>
      rw [ho] at hall
      exact stOK_pure h hp hd (ofOpt_isP _) fun ok v hs _ => load_op_sound T0 h hgl hp ho (hall x (by simp [Op.operands])) hs
    | store t ad x =>
      rw [ho] at hall
      have hr1 := hall ad (by simp [Op.operands])
      have hr2 := hall x (by simp [Op.operands])
      dsimp only
      split
      · rename_i d hs
        intro _
        unfold storeV at hs
        split at hs
        · rename_i n off e1
          split at hs
          · rename_i cs e2
            split at hs
            · rename_i hc
              cases hs
              exact (store_box_sound T0 h hgl hp hd ho hr1 hr2 e1 e2 hc.1 hc.2.1 hc.2.2.1 hc.2.2.2).ok
            · cases hs
          · cases hs
        · rename_i n j off e1
          split at hs
          · rename_i c xs e2
            dsimp only at hs
            split at hs
            · rename_i hc
              split at hs
              · rename_i x' hdec
                cases hs
                exact (store_arr_sound T0 h hgl hp hd ho hr1 hr2 e1 e2 hc.1 hc.2.1 hc.2.2.1 hc.2.2.2 hdec).ok
              · cases hs
            · cases hs
          · cases hs
        · cases hs
      · trivial
    | nilCheck x =>
      rw [ho] at hall
      refine stOK_pure h hp hd ?_ fun ok v hs _ => nilCheck_sound h hgl hp ho (hall x (by simp [Op.operands])) hs
      dsimp only
      split <;> rfl
    | binOp op t x y t' =>
      rw [ho] at hall
      exact stOK_pure h hp hd (bin_isP ..) fun ok v hs hok => bin_sound T0 h hgl hp ho (hall x (by simp [Op.operands])) (hall y (by simp [Op.operands])) hs hok
    | unOp op t x =>
      rw [ho] at hall
      exact stOK_pure h hp hd (un_isP ..) fun ok v hs _ => un_sound h hgl hp ho (hall x (by simp [Op.operands])) hs
    | convert s d x =>
      rw [ho] at hall
      refine stOK_pure h hp hd ?_ fun ok v hs _ => convert_sound T0 h hgl hp ho (hall x (by simp [Op.operands])) hs
      dsimp only
      split <;> rfl
    | makeSlice t l c =>
      rw [ho] at hall
      dsimp only
      split
      · rename_i e n m hk e1 e2
        split
        · rename_i k hty
          split
          · trivial
          · intro hok
            simp only [bAnd, Bool.and_eq_true, ieq, ile, beq_iff_eq, decide_eq_true_eq] at hok
            obtain ⟨rfl, hn, hroom⟩ := hok
            exact (makeSlice_sound T0 h hgl hp hd ho (hall l (by simp [Op.operands])) (hall c (by simp [Op.operands])) hk e1 e2 hn (room_iff hroom) hty).ok
        · trivial
      · trivial
    | makeFunc f first caps =>
      rw [ho] at hall
      dsimp only
      split
      · rename_i gf e1
        exact fun _ => ((makeFunc_sound h hgl hp ho e1 (fun x hx => hall x (by simp [Op.operands, hx]))).eff h hp hd).ok
      · trivial
    | slice t x lo hi mx =>
      rw [ho] at hall
      cases mx with
      | some _ => trivial
      | none =>
        exact stOK_pure h hp hd (sliceLH_isP ..) fun ok v hs hok => slice_sound T0 h hgl hp ho (hall x (by simp [Op.operands])) (fun q hq => hall q (by simp [Op.operands, hq])) (fun q hq => hall q (by simp [Op.operands, hq])) hs hok
    | fieldAddr s x f =>
      rw [ho] at hall
      refine stOK_pure h hp hd ?_ fun ok v hs _ => fieldAddr_sound T0 h hgl hp ho (hall x (by simp [Op.operands])) hs
      dsimp only
      split <;> rfl
    | field s x f =>
      rw [ho] at hall
      refine stOK_pure h hp hd ?_ fun ok v hs _ => field_sound T0 h hgl hp ho (hall x (by simp [Op.operands])) hs
      dsimp only
      split
      · exact ofOpt_isP _
      · rfl
    | indexAddr t x ix =>
      rw [ho] at hall
      exact stOK_pure h hp hd (idxV_isP ..) fun ok v hs hok => indexAddr_sound T0 h hgl hp ho (hall x (by simp [Op.operands])) (hall ix (by simp [Op.operands])) hs hok
    | index t x ix =>
      rw [ho] at hall
      exact stOK_pure h hp hd (indexV_isP ..) fun ok v hs hok => index_sound T0 h hgl hp ho (hall x (by simp [Op.operands])) (hall ix (by simp [Op.operands])) hs hok
    | extract x i =>
      rw [ho] at hall
      refine stOK_pure h hp hd ?_ fun ok v hs _ => extract_sound h hgl hp ho (hall x (by simp [Op.operands])) hs
      dsimp only
      split
      · exact ofOpt_isP _
      · rfl
    | call c =>
      rw [ho] at hall
      have hr : ∀ x ∈ c.args.toList, readable G p x = true := fun x hx => hall x (by simp only [Op.operands, Call.operands, Array.toList_append, List.mem_append]; exact .inr hx)
      dsimp only
      split
      · rename_i bt hc; exact builtin_stOK T0 h hgl hp hd ho hc hr
      · rename_i fo hc
        split
        · rename_i gf caps hf
          split
          · rename_i vs hvs
            exact callG_stOK hM h hgl hp hd ho hc (hall fo (by simp [Op.operands, Call.operands, hc])) hr hf hvs
          · trivial
        · trivial
      · trivial
    | _ => trivial
  · trivial
theorem stepAt_sound (T0 : TabOK P cx) (hM : ModelsOK P cx) (h : Inv g G H μ fr O a.tmps w) (hgl : GlOK cx.gl H) (hp : pcOf fr p = true) (hd : DstOK G p fr o.dst) (ops : List Oper) : StOK P g G a w o fr O (stepAt cx ops G o p fr O) := by
  unfold stepAt
  split
  · rename_i c x y ho
    exact stOK_pure h hp hd (pickOp_isP ..) fun ok v hs _ => pick_sound h hgl hp ho hs
  · exact stepOp_sound T0 hM h hgl hp hd ops
end
end Go.Ev
