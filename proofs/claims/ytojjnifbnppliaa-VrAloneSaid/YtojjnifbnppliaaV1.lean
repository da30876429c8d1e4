/- A region that draws its order: by a table of what each operation leaves in its slot. -/
import Derived.Test.YtojjnifbnppliaaVd
namespace Go.Proofs.Ytojjnifbnppliaa.T
open Go.RowKit Go.Proofs.YtojjnifbnppliaaW.PrintWords Go.Proofs.YtojjnifbnppliaaW.PrintLast Go.Proofs.YtojjnifbnppliaaW.PrintMore
attribute [local go_sem] max2_int min2_int max_two min_two max_three min_three max_four min_four
set_option linter.unusedVariables false
set_option linter.unusedSimpArgs false
def updO (u : Nat → Value) (d : Option Nat) (v : Value) : Nat → Value := match d with
  | some n => upd u n v
  | none => u
def dstOf (ops : Array Oper) (i : Nat) : Option Nat := (ops[i]?).bind (·.dst)
def dstsB (ops : Array Oper) : Bool := (List.range ops.size).all fun i => (List.range ops.size).all fun j => i == j || (match dstOf ops i, dstOf ops j with
  | some n, some m => n != m
  | _, _ => true)
theorem dsts_ne {ops : Array Oper} (h : dstsB ops = true) {i j n : Nat} (hi : i < ops.size) (hj : j < ops.size) (hij : i ≠ j) (h1 : dstOf ops i = some n) : dstOf ops j ≠ some n := by
  intro h2
  have h3 := List.all_eq_true.1 (List.all_eq_true.1 h i (List.mem_range.2 hi)) j (List.mem_range.2 hj)
  rw [h1, h2] at h3
  simp [hij] at h3
section
variable {P : Program} {ops : Array Oper} {Q : Exit → Act → World → Prop}
/-- V i: what operation i leaves in its slot; G: what holds of the world, by what is done. No operation of the region is guarded. -/
theorem region_tab {id : Nat} {a0 : Act} {w0 : World} (act : (Nat → Value) → Act) (u0 : Nat → Value) (V : Nat → Value → Prop) (G : (Nat → Bool) → (Nat → Value) → World → Prop)
    (hm : P.follows .mixedOrders = true) (he : Go.Proofs.YtojjnifbnppliaaW.Ri.earlierB .any ops = true) (hd : dstsB ops = true) (ha : act u0 = a0) (hG : G (fun _ => false) u0 w0.drew)
    (hput : ∀ (i : Nat) (o : Oper), ops[i]? = some o → ∀ u v, (act u).put o.dst v = act (updO u o.dst v))
    (hg : ∀ (i : Nat) (o : Oper), ops[i]? = some o → o.guard = none)
    (step : ∀ (l : Nat → Bool) (u : Nat → Value) (w : World) (i : Nat) (o : Oper), (∀ j oj, ops[j]? = some oj → l j = true → ∀ m ∈ needsOf .any oj, l m = true) → G l u w → (∀ j, j < ops.size → l j = true → ∀ n, dstOf ops j = some n → V j (u n)) → ops[i]? = some o → l i = false → (∀ j ∈ needsOf .any o, l j = true) →
      o.wp P (act u) w (fun a' w' => ∃ v, a' = (act u).put o.dst v ∧ V i v ∧ G (fun j => l j || j == i) (updO u o.dst v) w') Q)
    (done : ∀ (l : Nat → Bool) (u : Nat → Value) (w : World), (∀ j, j < ops.size → l j = true) → G l u w → (∀ j, j < ops.size → ∀ n, dstOf ops j = some n → V j (u n)) → Q .normal (act u) w) : (Code.region id ops true).wp P Q a0 w0 := by
  refine region_invL act u0 G (fun j u _ => ∀ n, dstOf ops j = some n → V j (u n)) hm he ha hG ?_ ?_
  · intro l u w i o hx hG hF ho hl hn
    have hw : Region.wanted o (yielded ops (act u).tmps) = true := by unfold Region.wanted; rw [hg i o ho]
    rw [if_pos hw]
    refine Oper.wp_mono ?_ (step l u w i o hx hG hF ho hl hn)
    rintro a' w' ⟨v, rfl, hv, hG'⟩
    have hi : i < ops.size := (Array.getElem?_eq_some_iff.1 ho).1
    have hdi : dstOf ops i = o.dst := by unfold dstOf; rw [ho]; rfl
    refine ⟨_, hput i o ho u v, hG', fun n h => ?_, fun j hj hji hlj n h => ?_⟩
    · rw [hdi] at h
      rw [h]
      show V i (upd u n v n)
      rw [upd_at]; exact hv
    · have h2 := hF j hj hlj n h
      cases hod : o.dst with
      | none => exact h2
      | some m =>
        have hne : n ≠ m := fun e => dsts_ne hd hj hi hji h (by rw [hdi, hod, e])
        show V j (upd u m v n)
        rw [upd_ne hne]; exact h2
  · intro l u w hall hG hF
    exact done l u w hall hG hF
/-- The same, with one call among the operations (k, its slot s): what stands in the other slots may be told by what the call left. -/
theorem region_tab1 {id : Nat} {a0 : Act} {w0 : World} (act : (Nat → Value) → Act) (u0 : Nat → Value) (k s : Nat) (V : Nat → Value → Value → Prop) (G : (Nat → Bool) → (Nat → Value) → World → Prop)
    (hm : P.follows .mixedOrders = true) (he : Go.Proofs.YtojjnifbnppliaaW.Ri.earlierB .any ops = true) (hd : dstsB ops = true) (hks : dstOf ops k = some s) (ha : act u0 = a0) (hG : G (fun _ => false) u0 w0.drew)
    (hput : ∀ (i : Nat) (o : Oper), ops[i]? = some o → ∀ u v, (act u).put o.dst v = act (updO u o.dst v))
    (hg : ∀ (i : Nat) (o : Oper), ops[i]? = some o → o.guard = none)
    (hk : ∀ l : Nat → Bool, (∀ j oj, ops[j]? = some oj → l j = true → ∀ m ∈ needsOf .any oj, l m = true) → ∀ j, j < ops.size → j ≠ k → l j = true → l k = false → ∀ a b v, V j a v → V j b v)
    (step : ∀ (l : Nat → Bool) (u : Nat → Value) (w : World) (i : Nat) (o : Oper), (∀ j oj, ops[j]? = some oj → l j = true → ∀ m ∈ needsOf .any oj, l m = true) → G l u w → (∀ j, j < ops.size → l j = true → ∀ n, dstOf ops j = some n → V j (u s) (u n)) → ops[i]? = some o → l i = false → (∀ j ∈ needsOf .any o, l j = true) →
      o.wp P (act u) w (fun a' w' => ∃ v, a' = (act u).put o.dst v ∧ V i (updO u o.dst v s) v ∧ G (fun j => l j || j == i) (updO u o.dst v) w') Q)
    (done : ∀ (l : Nat → Bool) (u : Nat → Value) (w : World), (∀ j, j < ops.size → l j = true) → G l u w → (∀ j, j < ops.size → ∀ n, dstOf ops j = some n → V j (u s) (u n)) → Q .normal (act u) w) : (Code.region id ops true).wp P Q a0 w0 := by
  refine region_invL act u0 G (fun j u _ => ∀ n, dstOf ops j = some n → V j (u s) (u n)) hm he ha hG ?_ ?_
  · intro l u w i o hx hG hF ho hl hn
    have hw : Region.wanted o (yielded ops (act u).tmps) = true := by unfold Region.wanted; rw [hg i o ho]
    rw [if_pos hw]
    refine Oper.wp_mono ?_ (step l u w i o hx hG hF ho hl hn)
    rintro a' w' ⟨v, rfl, hv, hG'⟩
    have hi : i < ops.size := (Array.getElem?_eq_some_iff.1 ho).1
    have hkl : k < ops.size := by
      unfold dstOf at hks
      cases h : ops[k]? with
      | none => rw [h] at hks; cases hks
      | some ok => exact (Array.getElem?_eq_some_iff.1 h).1
    have hdi : dstOf ops i = o.dst := by unfold dstOf; rw [ho]; rfl
    refine ⟨_, hput i o ho u v, hG', fun n h => ?_, fun j hj hji hlj n h => ?_⟩
    · rw [hdi] at h
      have h2 : updO u o.dst v n = v := by rw [h]; exact upd_at
      rw [h2]; exact hv
    · have h2 := hF j hj hlj n h
      cases hod : o.dst with
      | none => exact h2
      | some m =>
        have hne : n ≠ m := fun e => dsts_ne hd hj hi hji h (by rw [hdi, hod, e])
        show V j (upd u m v s) (upd u m v n)
        rw [upd_ne hne]
        by_cases hsm : s = m
        · have hik : i = k := Decidable.byContradiction (fun hne2 => dsts_ne hd hi hkl hne2 (by rw [hdi, hod]) (by rw [hks, hsm]))
          exact hk l hx j hj (fun e => hji (e.trans hik.symm)) hlj (by rw [← hik]; exact hl) _ _ _ h2
        · rw [upd_ne hsm]; exact h2
  · intro l u w hall hG hF
    exact done l u w hall hG hF
end
/-- The frame with the slots of sl taken from u. -/
def frameSet (t : Array Value) (sl : List Nat) (u : Nat → Value) : Array Value := sl.foldl (fun t n => t.setIfInBounds n (u n)) t
theorem frameSet_size (u : Nat → Value) : ∀ (sl : List Nat) (t : Array Value), (frameSet t sl u).size = t.size
  | [], t => rfl
  | n :: sl, t => by
    show (frameSet (t.setIfInBounds n (u n)) sl u).size = t.size
    rw [frameSet_size u sl]; simp
theorem frameSet_get (u : Nat → Value) (m : Nat) : ∀ (sl : List Nat) (t : Array Value), (frameSet t sl u)[m]? = if m ∈ sl ∧ m < t.size then some (u m) else t[m]?
  | [], t => by simp [frameSet]
  | n :: sl, t => by
    show (frameSet (t.setIfInBounds n (u n)) sl u)[m]? = _
    rw [frameSet_get u m sl]
    by_cases h1 : m < t.size
    · by_cases h2 : m ∈ sl
      · simp [h1, h2]
      · by_cases h3 : m = n
        · subst h3; simp [h1, h2]
        · have h4 : n ≠ m := fun e => h3 e.symm
          rw [if_neg (fun h => h2 h.1), if_neg (fun h => (List.mem_cons.1 h.1).elim h3 h2), Array.getElem?_setIfInBounds_ne h4]
    · have h5 : t.size ≤ m := by omega
      simp [h1, h5]
theorem frameSet_upd (u : Nat → Value) (t : Array Value) (sl : List Nat) (n : Nat) (v : Value) (hn : n ∈ sl) : (frameSet t sl u).setIfInBounds n v = frameSet t sl (upd u n v) := by
  apply Array.ext_getElem?
  intro m
  rw [frameSet_get]
  by_cases h : n = m
  · subst h
    rw [Array.getElem?_setIfInBounds_self, frameSet_size, upd_at]
    by_cases h1 : n < t.size
    · rw [if_pos h1, if_pos ⟨hn, h1⟩]
    · rw [if_neg h1, if_neg (fun h => h1 h.2), Array.getElem?_eq_none (by omega)]
  · rw [Array.getElem?_setIfInBounds_ne h, frameSet_get, upd_ne (fun e => h e.symm)]
theorem frameSet_self (t : Array Value) (sl : List Nat) : frameSet t sl (fun n => t[n]?.getD undef) = t := by
  apply Array.ext_getElem?
  intro m
  rw [frameSet_get]
  by_cases h : m ∈ sl ∧ m < t.size
  · rw [if_pos h, Array.getElem?_eq_getElem h.2]; rfl
  · rw [if_neg h]
def dstInB (ops : Array Oper) (sl : List Nat) : Bool := ops.all fun o => o.guard.isNone && (match o.dst with
  | some n => sl.contains n
  | none => true)
section
variable {P : Program} {ops : Array Oper} {Q : Exit → Act → World → Prop}
/-- region_tab1, the frame by itself: sl: the slots that the region writes. -/
theorem region_tabF {id : Nat} {a0 : Act} {w0 : World} (sl : List Nat) (k s : Nat) (V : Nat → Value → Value → Prop) (G : (Nat → Bool) → (Nat → Value) → World → Prop)
    (hm : P.follows .mixedOrders = true) (he : Go.Proofs.YtojjnifbnppliaaW.Ri.earlierB .any ops = true) (hd : dstsB ops = true) (hin : dstInB ops sl = true) (hks : dstOf ops k = some s) (hG : G (fun _ => false) (fun n => a0.tmps[n]?.getD undef) w0.drew)
    (hk : ∀ l : Nat → Bool, (∀ j oj, ops[j]? = some oj → l j = true → ∀ m ∈ needsOf .any oj, l m = true) → ∀ j, j < ops.size → j ≠ k → l j = true → l k = false → ∀ a b v, V j a v → V j b v)
    (step : ∀ (l : Nat → Bool) (u : Nat → Value) (w : World) (i : Nat) (o : Oper), (∀ j oj, ops[j]? = some oj → l j = true → ∀ m ∈ needsOf .any oj, l m = true) → G l u w → (∀ j, j < ops.size → l j = true → ∀ n, dstOf ops j = some n → V j (u s) (u n)) → ops[i]? = some o → l i = false → (∀ j ∈ needsOf .any o, l j = true) →
      o.wp P ⟨frameSet a0.tmps sl u, a0.defers⟩ w (fun a' w' => ∃ v, a' = (⟨frameSet a0.tmps sl u, a0.defers⟩ : Act).put o.dst v ∧ V i (updO u o.dst v s) v ∧ G (fun j => l j || j == i) (updO u o.dst v) w') Q)
    (done : ∀ (l : Nat → Bool) (u : Nat → Value) (w : World), (∀ j, j < ops.size → l j = true) → G l u w → (∀ j, j < ops.size → ∀ n, dstOf ops j = some n → V j (u s) (u n)) → Q .normal ⟨frameSet a0.tmps sl u, a0.defers⟩ w) : (Code.region id ops true).wp P Q a0 w0 := by
  have hall : ∀ (i : Nat) (o : Oper), ops[i]? = some o → o.guard = none ∧ ∀ n, o.dst = some n → n ∈ sl := fun i o ho => by
    obtain ⟨hi, rfl⟩ := Array.getElem?_eq_some_iff.1 ho
    have h1 := Array.all_eq_true.1 hin i hi
    rw [Bool.and_eq_true] at h1
    refine ⟨Option.isNone_iff_eq_none.1 h1.1, fun n hn => ?_⟩
    have h2 := h1.2
    rw [hn] at h2
    simpa using h2
  refine region_tab1 (fun u => ⟨frameSet a0.tmps sl u, a0.defers⟩) (fun n => a0.tmps[n]?.getD undef) k s V G hm he hd hks (by rw [frameSet_self]) hG (fun i o ho u v => ?_) (fun i o ho => (hall i o ho).1) hk step done
  cases hod : o.dst with
  | none => rfl
  | some n =>
    show (⟨(frameSet a0.tmps sl u).setIfInBounds n v, a0.defers⟩ : Act) = ⟨frameSet a0.tmps sl (upd u n v), a0.defers⟩
    rw [frameSet_upd _ _ _ _ _ ((hall i o ho).2 n hod)]
end
section
variable {P : Program} {Q : Exit → Act → World → Prop} {K : Act → World → Prop} {o : Oper} {a : Act} {w w1 : World}
theorem wv_ {v : Value} (hrun : (execOp a.eval o).run P w = .ok (.value v) w1) (h : K (a.put o.dst v) w1) : Oper.wp P o a w K Q := by
  unfold Oper.wp
  rw [hrun]
  exact h
theorem ws_ (hrun : (execOp a.eval o).run P w = .ok .skip w1) (h : K (a.put o.dst undef) w1) : Oper.wp P o a w K Q := by
  unfold Oper.wp
  rw [hrun]
  exact h
/-- A call of a function of the program. -/
theorem wc_ {f : FuncId} {fn : Func} {az : Array Operand} {ts : Array TypeId} (hf : P.funcs[f]? = some fn) (hname : (fn.name == "runtime.NumGoroutine") = false) (hb : fn.body.isSome = true) (args : Array Value)
    (hop : o.op = .call { callee := .value (.func f), args := az, argTypes := ts }) (hargs : az.map a.eval = args)
    (h : Calls P f args w fun e w' => ∃ v, e = .returned v ∧ K (a.put o.dst v) w') : Oper.wp P o a w K Q := by
  have he := enters_ hf hname hb args w
  have hrun : (execOp a.eval o).run P w = .ok (.enter f args) w := by
    unfold execOp
    simp [hop, resolve, Deferred.ofValue, invoke, Act.eval, hargs, he]
  unfold Oper.wp
  rw [hrun, Oper.upon_enter]
  refine h.mono fun e w'' hh => ?_
  obtain ⟨v, rfl, hk⟩ := hh
  exact hk
end
end Go.Proofs.Ytojjnifbnppliaa.T
