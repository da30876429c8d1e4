/- The deferred closure of Step: it gives the error of a panic. -/
import Derived.Test.YtojjnifbnppliaaVk
import Derived.Defers
import Derived.Recover
namespace Go.Proofs.Ytojjnifbnppliaa.T
open Go.RowKit Go.Proofs.YtojjnifbnppliaaW.PrintWords Go.Proofs.YtojjnifbnppliaaW.PrintLast Go.Proofs.YtojjnifbnppliaaW.PrintMore
attribute [local go_sem] max2_int min2_int max_two min_two max_three min_three max_four min_four
set_option linter.unusedVariables false
set_option linter.unusedSimpArgs false
theorem rep10 : Array.replicate 10 undef = #[undef, undef, undef, undef, undef, undef, undef, undef, undef, undef] := rfl
theorem ta_none : ∀ w : World, (Instr.typeAssert .nilIface 20 30 true).run Try.prog w = .ok (.tuple #[.int .i64 0, .bool false]) w := fun _ => by kernel_rfl
theorem ta_some (x : Int) : ∀ w : World, (Instr.typeAssert (.iface 30 (.int .i64 x)) 20 30 true).run Try.prog w = .ok (.tuple #[.int .i64 x, .bool true]) w := fun _ => by kernel_rfl
theorem Catch.idle (p q r : Addr) (w : World) :
    CallsD Try.prog 20 #[.pointer (some p), .pointer (some q), .pointer (some r)] .returning w fun e u' w' => e = .returned (.tuple #[]) ∧ u' = .returning ∧ w' = w := by
  refine callsD_of_wpS Try.func20 rfl fun c₀ cs hu => ?_
  apply wpS_seq
  apply wpS_region
  simp [wpOpsS, go_sem, recoverD, hu, Try.ntmps20, Exit.thenS, ta_none]
  apply wpS_seq
  apply wpS_region
  simp [wpOpsS, go_sem, Exit.thenS]
  refine wpS_cond (t := false) (by simp [Act.eval, Array.replicate]) ?_
  simp only [Bool.false_eq_true, if_false]
  refine wpS_of_wp (wp_skip ?_)
  cases c₀
  simp_all [bodyPostS, results, Try.results20]
set_option maxHeartbeats 1000000 in
theorem Catch.bad (p q r : Nat) (c0 : Array Value) (v1 v2 : Value) (x : Int) (older : List PanicEntry) (w : World) (hp : w.heap[p]? = some (.cells c0 29 (0, 0))) (hq : w.heap[q]? = some (.cells #[v1] 33 (0, 0))) (hr : w.heap[r]? = some (.cells #[v2] 30 (0, 0))) (hs : c0.size = 14) (n1 : p ≠ q) (n2 : q ≠ r) (n3 : p ≠ r) :
    CallsD Try.prog 20 #[.pointer (some ⟨p, 0, none⟩), .pointer (some ⟨q, 0, none⟩), .pointer (some ⟨r, 0, none⟩)] (.panicking ({ v := .iface 30 (.int .i64 x), recovered := false } :: older)) w fun e u' w' =>
      e = .returned (.tuple #[]) ∧ u' = .panicking ({ v := .iface 30 (.int .i64 x), recovered := true } :: older) ∧ w'.heap[p]? = some (.cells #[.int .i64 0, .int .i64 0, .int .i64 0, .int .i64 0, .int .i64 0, .slice none 0 0, .int .i64 0, .slice none 0 0, .slice none 0 0, .bool false, .slice none 0 0, .int .i64 0, .int .i64 0, .slice none 0 0] 29 (0, 0)) ∧ w'.heap[q]? = some (.cells #[.slice none 0 0] 33 (0, 0)) ∧ w'.heap[r]? = some (.cells #[.int .i64 x] 30 (0, 0)) ∧ Keeps w w' (fun k => k = p ∨ k = q ∨ k = r) := by
  refine callsD_of_wpS Try.func20 rfl fun c₀ cs hu => ?_
  apply wpS_seq
  apply wpS_region
  simp [wpOpsS, go_sem, recoverD, hu, Try.ntmps20, Exit.thenS, ta_some, rep10]
  apply wpS_seq
  apply wpS_region
  simp [wpOpsS, go_sem, Exit.thenS]
  refine wpS_cond (t := true) (by simp [Act.eval]) ?_
  simp only [if_true]
  refine wpS_of_wp ?_
  have HS := Aside0.mk (And.intro n1 (And.intro n2 n3))
  have HP := Aside0.mk hp
  have k1 := Aside0.mk (setRow_heap w p c0 #[.int .i64 0, .int .i64 0, .int .i64 0, .int .i64 0, .int .i64 0, .slice none 0 0, .int .i64 0, .slice none 0 0, .slice none 0 0, .bool false, .slice none 0 0, .int .i64 0, .int .i64 0, .slice none 0 0] 29 (0, 0) hp)
  have k2 := Aside0.mk ((setRow_other w p q #[.int .i64 0, .int .i64 0, .int .i64 0, .int .i64 0, .int .i64 0, .slice none 0 0, .int .i64 0, .slice none 0 0, .slice none 0 0, .bool false, .slice none 0 0, .int .i64 0, .int .i64 0, .slice none 0 0] (fun e => n1 e.symm)).trans hq)
  have k3 := Aside0.mk ((setRow_other w p r #[.int .i64 0, .int .i64 0, .int .i64 0, .int .i64 0, .int .i64 0, .slice none 0 0, .int .i64 0, .slice none 0 0, .slice none 0 0, .bool false, .slice none 0 0, .int .i64 0, .int .i64 0, .slice none 0 0] (fun e => n3 e.symm)).trans hr)
  have KK := Aside0.mk (show Keeps w (w.setRow p #[.int .i64 0, .int .i64 0, .int .i64 0, .int .i64 0, .int .i64 0, .slice none 0 0, .int .i64 0, .slice none 0 0, .slice none 0 0, .bool false, .slice none 0 0, .int .i64 0, .int .i64 0, .slice none 0 0]) (fun k => k = p ∨ k = q ∨ k = r) from ⟨rfl, rfl, rfl, by simp, fun k _ hk => setRow_other w p k _ (fun e => hk (.inl e))⟩)
  have n4 : ¬ q = r := n2
  have n5 : ¬ r = q := fun e => n2 e.symm
  clear hp hq hr hu n1 n2 n3
  go_wp2_with ((with_reducible refine gate_ (.store 29 (.tmp 0) (.tmp 11)) rfl ?_); refine wpList_store_row rfl 29 (.tmp 0) (.tmp 11) rfl p #[.int .i64 0, .int .i64 0, .int .i64 0, .int .i64 0, .int .i64 0, .slice none 0 0, .int .i64 0, .slice none 0 0, .slice none 0 0, .bool false, .slice none 0 0, .int .i64 0, .int .i64 0, .slice none 0 0] rfl rfl 29 c0 HP.out (by kernel_rfl) hs (by kernel_rfl) ?_; generalize w.setRow p #[.int .i64 0, .int .i64 0, .int .i64 0, .int .i64 0, .int .i64 0, .slice none 0 0, .int .i64 0, .slice none 0 0, .slice none 0 0, .bool false, .slice none 0 0, .int .i64 0, .int .i64 0, .slice none 0 0] = W at *; have x2 : W.cell? ⟨q, 0, none⟩ = some v1 := (blk_cell k2.out 0).trans rfl; have x3 : W.cell? ⟨r, 0, none⟩ = some v2 := (blk_cell k3.out 0).trans rfl; have f2 := blk_frozen k2.out 0; have f3 := blk_frozen k3.out 0)
  have e2 := blk_set k2.out 0 (.slice none 0 0)
  have e3 := blk_set ((Below.heap_setCell W ⟨q, 0, none⟩ (.slice none 0 0) r (by exact n5)).trans k3.out) 0 (.int .i64 x)
  have e22 := (Below.heap_setCell (W.setCell ⟨q, 0, none⟩ (.slice none 0 0)) ⟨r, 0, none⟩ (.int .i64 x) q (by exact n4)).trans e2
  have e1 := (Below.heap_setCell (W.setCell ⟨q, 0, none⟩ (.slice none 0 0)) ⟨r, 0, none⟩ (.int .i64 x) p (by exact HS.out.2.2)).trans ((Below.heap_setCell W ⟨q, 0, none⟩ (.slice none 0 0) p (by exact HS.out.1)).trans k1.out)
  have ek := (KK.out.setCell (p := ⟨q, 0, none⟩) (.inl (.inr (.inl rfl))) (.slice none 0 0)).setCell (p := ⟨r, 0, none⟩) (.inl (.inr (.inr rfl))) (.int .i64 x)
  clear x2 x3 f2 f3 k1 k2 k3 KK hs
  generalize ((W.setCell ⟨q, 0, none⟩ (.slice none 0 0)).setCell ⟨r, 0, none⟩ (.int .i64 x)) = V at *
  cases c₀
  exact ⟨rfl, _, rfl, _, results_none rfl _ _ _, rfl, rfl, e1, e22, e3, ek⟩
end Go.Proofs.Ytojjnifbnppliaa.T
