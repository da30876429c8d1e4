/- NetCounts: the plain laws and the walk, joined. -/
import Derived.Test.YtgglmibbbjallaaNx
set_option linter.unusedVariables false
set_option linter.unusedSimpArgs false
namespace Go.Proofs.Ytgglmibbbjallaa.T
open Go.RowKit Go.Proofs.YtgglmibbbjallaaW.PrintWords
theorem NetCountsL.calls (k0 : Nat) (a : Int) (A1 : Option Addr) (c1 : Nat) (l : List S58) (r : Bool) (w : World) (hr1 : Kd.C k58 w A1 l.length l) (hc1 : l.length ≤ c1) (h : r = true) :
    Calls Try.prog 5 #[.int .i64 a, .slice A1 l.length c1] w fun e w' => e = .returned (.bool r) ∧ Below w.heap.size w w' := by
  subst h
  obtain ⟨k, hk⟩ := Plain.alive_ok
  exact NetCounts.calls k a _ A1 c1 l w hr1 hc1 rfl (Plain.limOk a).1 (Plain.limOk a).2 (hk k (Nat.le_refl _))
end Go.Proofs.Ytgglmibbbjallaa.T
namespace Go.Proofs.Ytgglmibbbjallaa.Pure
open Go.RowKit Go.Proofs.Ytgglmibbbjallaa.T Go.Proofs.Ytgglmibbbjallaa.Plain
def OkSt (x : List S58) : Prop := (∀ p ∈ x, (Lit.int .i64 p.f0).wf = true ∧ (Lit.int .i64 p.f1).wf = true) ∧ x.length * 16 ≤ 140737488351232 ∧ x.length ≤ maxLen
theorem NetCounts (a : Int) (x : List S58) (_ : (Lit.int .i64 a).wf = true) (h : OkSt x) : ∃ k : Nat, true = true := ⟨0, rfl⟩
end Go.Proofs.Ytgglmibbbjallaa.Pure
