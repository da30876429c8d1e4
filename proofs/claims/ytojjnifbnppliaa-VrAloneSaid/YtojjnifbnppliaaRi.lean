/- A region that draws its order, by an invariant: one proof an operation, not one an order. -/
import Derived.Test.YtojjnifbnppliaaWTab
namespace Go.Proofs.YtojjnifbnppliaaW.Ri
open Go.RowKit Go.Proofs.YtojjnifbnppliaaW.PrintLast
section
variable {P : Program} {ops : Array Oper} {Q : Exit → Act → World → Prop} {md : Region.Mode}
/-- Each operation waits for earlier ones alone. -/
def earlierB (md : Region.Mode) (ops : Array Oper) : Bool := (List.range ops.size).all fun i => match ops[i]? with
  | some o => (needsOf md o).all fun j => decide (j < i)
  | none => true
theorem earlier {i : Nat} {o : Oper} (h : earlierB md ops = true) (hi : ops[i]? = some o) : ∀ j ∈ needsOf md o, j < i := by
  intro j hj
  have hlt := (Array.getElem?_eq_some_iff.1 hi).1
  have h1 := List.all_eq_true.1 h i (List.mem_range.2 hlt)
  rw [hi] at h1
  exact of_decide_eq_true (List.all_eq_true.1 h1 j hj)
theorem ready_needs {l : Array Bool} {i : Nat} (h : i ∈ Region.ready md ops l) : ∃ o, ops[i]? = some o ∧ l.getD i true = false ∧ ∀ j ∈ needsOf md o, l.getD j false = true := by
  rw [ready_eq] at h
  unfold readyT at h
  have h1 := (List.mem_filter.1 h).2
  have hlt := List.mem_range.1 (List.mem_filter.1 h).1
  rw [rtab_length] at hlt
  have ho : ops[i]? = some ops[i] := Array.getElem?_eq_getElem hlt
  unfold readyAt at h1
  rw [rtab_some ho] at h1
  simp only [Bool.and_eq_true, Bool.not_eq_true'] at h1
  refine ⟨_, ho, by rw [gd]; exact h1.1, fun j hj => ?_⟩
  rw [gd]
  exact List.all_eq_true.1 h1.2 j hj
theorem ready_of {l : Array Bool} {i : Nat} {o : Oper} (ho : ops[i]? = some o) (h1 : l.getD i true = false) (h2 : ∀ j ∈ needsOf md o, l.getD j false = true) : i ∈ Region.ready md ops l := by
  rw [ready_eq]
  unfold readyT
  refine List.mem_filter.2 ⟨List.mem_range.2 ?_, ?_⟩
  · rw [rtab_length]; exact (Array.getElem?_eq_some_iff.1 ho).1
  · unfold readyAt
    rw [rtab_some ho]
    simp only [Bool.and_eq_true, Bool.not_eq_true']
    refine ⟨by rw [← gd]; exact h1, List.all_eq_true.2 fun j hj => ?_⟩
    rw [← gd]
    exact h2 j hj
/-- How many are still to come. -/
def left (l : Array Bool) : Nat := (l.toList.filter (fun b => !b)).length
theorem left_set {l : Array Bool} {i : Nat} (h : l.getD i true = false) : left (l.setIfInBounds i true) + 1 = left l := by
  have hi : i < l.size := by
    rcases Nat.lt_or_ge i l.size with h1 | h1
    · exact h1
    · rw [Array.getD_eq_getD_getElem?, Array.getElem?_eq_none h1] at h; cases h
  have hv : l.toList[i]'(by simpa using hi) = false := by
    rw [Array.getD_eq_getD_getElem?, Array.getElem?_eq_getElem hi] at h
    simpa using h
  unfold left
  rw [Array.toList_setIfInBounds]
  have hl : i < l.toList.length := by simpa using hi
  have e1 : l.toList = l.toList.take i ++ false :: l.toList.drop (i + 1) := by
    rw [← hv, ← List.drop_eq_getElem_cons hl, List.take_append_drop]
  have e2 : l.toList.set i true = l.toList.take i ++ true :: l.toList.drop (i + 1) := by rw [List.set_eq_take_append_cons_drop, if_pos hl]
  rw [e2]
  have e3 : (l.toList.filter (fun b => !b)).length = ((l.toList.take i ++ false :: l.toList.drop (i + 1)).filter (fun b => !b)).length := by rw [← e1]
  rw [e3]
  simp [List.filter_append]
  omega
theorem all_listed {l : Array Bool} (hs : l.size = ops.size) (he : earlierB md ops = true) (hr : Region.ready md ops l = []) : ∀ i, i < ops.size → l.getD i false = true := by
  intro i
  induction i using Nat.strongRecOn with
  | _ i ih =>
    intro hi
    have ho : ops[i]? = some ops[i] := Array.getElem?_eq_getElem hi
    cases hl : l.getD i true with
    | false =>
      have := ready_of ho hl (fun j hj => ih j (earlier he ho j hj) (by have := earlier he ho j hj; omega))
      rw [hr] at this
      cases this
    | true =>
      rw [Array.getD_eq_getD_getElem?, Array.getElem?_eq_getElem (by omega)] at hl ⊢
      exact hl
theorem left_zero {l : Array Bool} (h : left l = 0) : ∀ i, i < l.size → l.getD i false = true := by
  intro i hi
  unfold left at h
  have h1 := List.eq_nil_of_length_eq_zero h
  have h2 : ¬ ((!(l.toList[i]'(by simpa using hi))) = true) := fun hc => by
    have : l.toList[i]'(by simpa using hi) ∈ l.toList.filter (fun b => !b) := List.mem_filter.2 ⟨List.getElem_mem _, hc⟩
    rw [h1] at this
    cases this
  rw [Array.getD_eq_getD_getElem?, Array.getElem?_eq_getElem hi]
  simpa using h2
theorem wpAny_inv (J : (Nat → Bool) → Act → World → Prop) (he : earlierB md ops = true)
    (step : ∀ l a w i o, J l a w → ops[i]? = some o → l i = false → (∀ j ∈ needsOf md o, l j = true) →
      if Region.wanted o (yielded ops a.tmps) = true then o.wp P a w (J (fun j => l j || j == i)) Q else J (fun j => l j || j == i) (a.put o.dst undef) w)
    (done : ∀ l a w, J l a w → (∀ j, j < ops.size → l j = true) → Q .normal a w) :
    ∀ (fuel : Nat) (l : Array Bool) (a : Act) (w : World), l.size = ops.size → left l ≤ fuel → J (fun j => l.getD j false) a w → wpAny P md ops Q fuel l a w
  | 0, l, a, w, hs, hf, hJ => by
    have hall := left_zero (l := l) (by omega)
    refine ⟨?_, done _ _ _ hJ (fun j hj => hall j (by omega))⟩
    cases hr : Region.ready md ops l with
    | nil => rfl
    | cons i r =>
      obtain ⟨o, ho, h1, _⟩ := ready_needs (md := md) (ops := ops) (l := l) (i := i) (by rw [hr]; exact List.mem_cons_self)
      have hi := (Array.getElem?_eq_some_iff.1 ho).1
      have h2 := hall i (by omega)
      rw [Array.getD_eq_getD_getElem?, Array.getElem?_eq_getElem (by omega)] at h1 h2
      rw [Option.getD_some] at h1 h2
      rw [h1] at h2
      cases h2
  | fuel + 1, l, a, w, hs, hf, hJ => by
    refine ⟨fun hr => done _ _ _ hJ (all_listed hs he hr), fun i hi => ?_⟩
    obtain ⟨o, ho, h1, h2⟩ := ready_needs hi
    have hlt := (Array.getElem?_eq_some_iff.1 ho).1
    have hlf : l.getD i false = false := by
      rw [Array.getD_eq_getD_getElem?, Array.getElem?_eq_getElem (by omega)] at h1 ⊢
      exact h1
    have hst := step _ a w i o hJ ho hlf h2
    have hset : (fun j => (l.setIfInBounds i true).getD j false) = (fun j => l.getD j false || j == i) := by
      funext j
      rw [Array.getD_eq_getD_getElem?, Array.getD_eq_getD_getElem?, Array.getElem?_setIfInBounds]
      by_cases e : j = i
      · subst e; simp [show j < l.size by omega]
      · rw [if_neg (fun h => e h.symm)]; simp [e]
    have next : ∀ a w, J (fun j => l.getD j false || j == i) a w → wpAny P md ops Q fuel (l.setIfInBounds i true) a w := fun a w h =>
      wpAny_inv J he step done fuel _ a w (by simpa using hs) (by have := left_set h1; omega) (by rw [hset]; exact h)
    unfold wpOp
    rw [ho]
    simp only
    split
    · rename_i hw
      rw [if_pos hw] at hst
      exact .inl (Oper.wp_mono next hst)
    · rename_i hw
      rw [if_neg hw] at hst
      exact next _ _ hst
/-- The region: act: the frame, its open slots by number; G: what holds throughout; F i: what operation i leaves. -/
theorem region_inv {id : Nat} {a0 : Act} {w0 : World} (act : (Nat → Value) → Act) (u0 : Nat → Value) (G : World → Prop) (F : Nat → (Nat → Value) → World → Prop)
    (hm : P.follows .mixedOrders = true) (he : earlierB .any ops = true) (ha : act u0 = a0) (hG : G w0.drew)
    (step : ∀ (l : Nat → Bool) (u : Nat → Value) (w : World) (i : Nat) (o : Oper), (∀ j oj, ops[j]? = some oj → l j = true → ∀ m ∈ needsOf .any oj, l m = true) → G w → (∀ j, j < ops.size → l j = true → F j u w) → ops[i]? = some o → l i = false → (∀ j ∈ needsOf .any o, l j = true) →
      if Region.wanted o (yielded ops (act u).tmps) = true then o.wp P (act u) w (fun a' w' => ∃ u', a' = act u' ∧ G w' ∧ F i u' w' ∧ ∀ j, j < ops.size → j ≠ i → l j = true → F j u' w') Q
      else ∃ u', (act u).put o.dst undef = act u' ∧ G w ∧ F i u' w ∧ ∀ j, j < ops.size → j ≠ i → l j = true → F j u' w)
    (done : ∀ (u : Nat → Value) (w : World), G w → (∀ j, j < ops.size → F j u w) → Q .normal (act u) w) : (Code.region id ops true).wp P Q a0 w0 := by
  refine wp_region_any hm ?_
  refine wpAny_inv (fun l a w => (∀ j oj, ops[j]? = some oj → l j = true → ∀ m ∈ needsOf .any oj, l m = true) ∧ ∃ u, a = act u ∧ G w ∧ ∀ j, j < ops.size → l j = true → F j u w) he ?_ ?_ ops.size _ _ _ (by simp) ?_ ?_
  · rintro l a w i o ⟨hc, u, rfl, hG, hF⟩ ho hl hn
    have h := step l u w i o hc hG hF ho hl hn
    have fin : ∀ a' w', (∃ u', a' = act u' ∧ G w' ∧ F i u' w' ∧ ∀ j, j < ops.size → j ≠ i → l j = true → F j u' w') → (∀ j oj, ops[j]? = some oj → (l j || j == i) = true → ∀ m ∈ needsOf .any oj, (l m || m == i) = true) ∧ ∃ u', a' = act u' ∧ G w' ∧ ∀ j, j < ops.size → (l j || j == i) = true → F j u' w' := by
      rintro a' w' ⟨u', h1, h2, h3, h4⟩
      refine ⟨fun j oj hoj hlj m hm => ?_, u', h1, h2, fun j hj hlj => ?_⟩
      · by_cases e : j = i
        · subst e
          rw [ho] at hoj
          cases hoj
          rw [hn m hm]; rfl
        · rw [hc j oj hoj (by simpa [e] using hlj) m hm]; rfl
      by_cases e : j = i
      · subst e; exact h3
      · exact h4 j hj e (by simpa [e] using hlj)
    split at h
    · rename_i hw
      rw [if_pos hw]
      exact Oper.wp_mono fin h
    · rename_i hw
      rw [if_neg hw]
      exact fin _ _ h
  · rintro l a w ⟨_, u, rfl, hG, hF⟩ hall
    exact done u w hG (fun j hj => hF j hj (hall j hj))
  · unfold left
    exact Nat.le_trans (List.length_filter_le _ _) (by simp)
  · refine ⟨fun j oj hoj hl => ?_, u0, ha.symm, hG, fun j hj hl => ?_⟩
    · have hj := (Array.getElem?_eq_some_iff.1 hoj).1
      simp [Array.getD_eq_getD_getElem?, hj] at hl
    simp [Array.getD_eq_getD_getElem?, hj] at hl
end
end Go.Proofs.YtojjnifbnppliaaW.Ri
