/- A region that draws its order: by a table of what each operation leaves in its slot. -/
import Derived.Test.YtojjnifbnppliaaVd
namespace Go.Proofs.Ytojjnifbnppliaa.T
open Go.RowKit Go.Proofs.YtojjnifbnppliaaW.PrintWords Go.Proofs.YtojjnifbnppliaaW.PrintLast Go.Proofs.YtojjnifbnppliaaW.PrintMore
attribute [local go_sem] max2_int min2_int max_two min_two max_three min_three max_four min_four
set_option linter.unusedVariables false
set_option linter.unusedSimpArgs false
def updO (u : Nat → Value) (d : Option Nat) (v : Value) : Nat → Value := match d with
  | some n => upd u n v
  | none => u
def dstOf (ops : Array Oper) (i : Nat) : Option Nat := (ops[i]?).bind (·.dst)
def dstsB (ops : Array Oper) : Bool := (List.range ops.size).all fun i => (List.range ops.size).all fun j => i == j || (match dstOf ops i, dstOf ops j with
  | some n, some m => n != m
  | _, _ => true)
theorem dsts_ne {ops : Array Oper} (h : dstsB ops = true) {i j n : Nat} (hi : i < ops.size) (hj : j < ops.size) (hij : i ≠ j) (h1 : dstOf ops i = some n) : dstOf ops j ≠ some n := by
  intro h2
  have h3 := List.all_eq_true.1 (List.all_eq_true.1 h i (List.mem_range.2 hi)) j (List.mem_range.2 hj)
  rw [h1, h2] at h3
  simp [hij] at h3
section
variable {P : Program} {ops : Array Oper} {Q : Exit → Act → World → Prop}
/-- V i: what operation i leaves in its slot; G: what holds of the world, by what is done. No operation of the region is guarded. -/
theorem region_tab {id : Nat} {a0 : Act} {w0 : World} (act : (Nat → Value) → Act) (u0 : Nat → Value) (V : Nat → Value → Prop) (G : (Nat → Bool) → (Nat → Value) → World → Prop)
    (hm : P.follows .mixedOrders = true) (he : Go.Proofs.YtojjnifbnppliaaW.Ri.earlierB .any ops = true) (hd : dstsB ops = true) (ha : act u0 = a0) (hG : G (fun _ => false) u0 w0.drew)
    (hput : ∀ (i : Nat) (o : Oper), ops[i]? = some o → ∀ u v, (act u).put o.dst v = act (updO u o.dst v))
    (hg : ∀ (i : Nat) (o : Oper), ops[i]? = some o → o.guard = none)
    (step : ∀ (l : Nat → Bool) (u : Nat → Value) (w : World) (i : Nat) (o : Oper), (∀ j oj, ops[j]? = some oj → l j = true → ∀ m ∈ needsOf .any oj, l m = true) → G l u w → (∀ j, j < ops.size → l j = true → ∀ n, dstOf ops j = some n → V j (u n)) → ops[i]? = some o → l i = false → (∀ j ∈ needsOf .any o, l j = true) →
      o.wp P (act u) w (fun a' w' => ∃ v, a' = (act u).put o.dst v ∧ V i v ∧ G (fun j => l j || j == i) (updO u o.dst v) w') Q)
    (done : ∀ (l : Nat → Bool) (u : Nat → Value) (w : World), (∀ j, j < ops.size → l j = true) → G l u w → (∀ j, j < ops.size → ∀ n, dstOf ops j = some n → V j (u n)) → Q .normal (act u) w) : (Code.region id ops true).wp P Q a0 w0 := by
  refine region_invL act u0 G (fun j u _ => ∀ n, dstOf ops j = some n → V j (u n)) hm he ha hG ?_ ?_
  · intro l u w i o hx hG hF ho hl hn
    have hw : Region.wanted o (yielded ops (act u).tmps) = true := by unfold Region.wanted; rw [hg i o ho]
    rw [if_pos hw]
    refine Oper.wp_mono ?_ (step l u w i o hx hG hF ho hl hn)
    rintro a' w' ⟨v, rfl, hv, hG'⟩
    have hi : i < ops.size := (Array.getElem?_eq_some_iff.1 ho).1
    have hdi : dstOf ops i = o.dst := by unfold dstOf; rw [ho]; rfl
    refine ⟨_, hput i o ho u v, hG', fun n h => ?_, fun j hj hji hlj n h => ?_⟩
    · rw [hdi] at h
      rw [h]
      show V i (upd u n v n)
      rw [upd_at]; exact hv
    · have h2 := hF j hj hlj n h
      cases hod : o.dst with
      | none => exact h2
      | some m =>
        have hne : n ≠ m := fun e => dsts_ne hd hj hi hji h (by rw [hdi, hod, e])
        show V j (upd u m v n)
        rw [upd_ne hne]; exact h2
  · intro l u w hall hG hF
    exact done l u w hall hG hF
end
section
variable {P : Program} {Q : Exit → Act → World → Prop} {K : Act → World → Prop} {o : Oper} {a : Act} {w w1 : World}
theorem wv_ {v : Value} (hrun : (execOp a.eval o).run P w = .ok (.value v) w1) (h : K (a.put o.dst v) w1) : Oper.wp P o a w K Q := by
  unfold Oper.wp
  rw [hrun]
  exact h
theorem ws_ (hrun : (execOp a.eval o).run P w = .ok .skip w1) (h : K (a.put o.dst undef) w1) : Oper.wp P o a w K Q := by
  unfold Oper.wp
  rw [hrun]
  exact h
/-- A call of a function of the program. -/
theorem wc_ {f : FuncId} {fn : Func} {az : Array Operand} {ts : Array TypeId} (hf : P.funcs[f]? = some fn) (hname : (fn.name == "runtime.NumGoroutine") = false) (hb : fn.body.isSome = true) (args : Array Value)
    (hop : o.op = .call { callee := .value (.func f), args := az, argTypes := ts }) (hargs : az.map a.eval = args)
    (h : Calls P f args w fun e w' => ∃ v, e = .returned v ∧ K (a.put o.dst v) w') : Oper.wp P o a w K Q := by
  have he := enters_ hf hname hb args w
  have hrun : (execOp a.eval o).run P w = .ok (.enter f args) w := by
    unfold execOp
    simp [hop, resolve, Deferred.ofValue, invoke, Act.eval, hargs, he]
  unfold Oper.wp
  rw [hrun, Oper.upon_enter]
  refine h.mono fun e w'' hh => ?_
  obtain ⟨v, rfl, hk⟩ := hh
  exact hk
end
end Go.Proofs.Ytojjnifbnppliaa.T
