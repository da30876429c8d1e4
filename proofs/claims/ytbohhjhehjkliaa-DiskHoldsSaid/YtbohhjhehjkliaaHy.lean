/- DiskHolds: the walk in the row's form. -/
import Derived.Test.YtbohhjhehjkliaaHx
set_option linter.unusedVariables false
set_option linter.unusedSimpArgs false
namespace Go.Proofs.Ytbohhjhehjkliaa.T
open Go.RowKit Go.Proofs.YtbohhjhehjkliaaW.PrintWords
theorem DiskHoldsL.calls (k0 : Nat) (a : Int) (A1 : Option Addr) (c1 : Nat) (l1 : List Int) (A2 : Option Addr) (c2 : Nat) (l2 : List (List Int)) (A3 : Option Addr) (c3 : Nat) (l3 : List Bool) (r : Bool) (w : World) (hr1 : Kd.C (Kd.int .i64) w A1 l1.length l1) (hc1 : l1.length ≤ c1) (hr2 : Kd.C (Kd.slice 5 (Kd.int .u8)) w A2 l2.length l2) (hc2 : l2.length ≤ c2) (hr3 : Kd.C Kd.bool w A3 l3.length l3) (hc3 : l3.length ≤ c3) (h : r = true) :
    Calls Try.prog 5 #[.int .i64 a, .slice A1 l1.length c1, .slice A2 l2.length c2, .slice A3 l3.length c3] w fun e w' => e = .returned (.bool r) ∧ Below w.heap.size w w' := by
  subst h
  obtain ⟨n, h1, h2, hn⟩ := Plain.n_in a
  exact DiskHolds.calls a n A1 c1 l1 A2 c2 l2 A3 c3 l3 w hr1 hc1 hr2 hc2 hr3 hc3 hn h1 h2
end Go.Proofs.Ytbohhjhehjkliaa.T
namespace Go.Proofs.Ytbohhjhehjkliaa.Pure
open Go.RowKit Go.Proofs.Ytbohhjhehjkliaa.T Go.Proofs.Ytbohhjhehjkliaa.Plain
def OkI (l : List Int) : Prop := (∀ b ∈ l, (Lit.int .i64 b).wf = true) ∧ l.length * 8 ≤ 140737488351232 ∧ l.length ≤ maxLen
theorem DiskHolds (a : Int) (x : List Int) (y : List (List Int)) (z : List Bool) (_ : (Lit.int .i64 a).wf = true) (_ : OkI x) (_ : OkL y) (_ : OkK z) : ∃ k : Nat, true = true := ⟨0, rfl⟩
end Go.Proofs.Ytbohhjhehjkliaa.Pure
