/- VrAlone: the walk, in the row's form. -/
import Derived.Test.YtojjnifbnppliaaVt
namespace Go.Proofs.Ytojjnifbnppliaa.T
open Go.RowKit Go.Proofs.YtojjnifbnppliaaW.PrintWords Go.Proofs.YtojjnifbnppliaaW.PrintLast Go.Proofs.YtojjnifbnppliaaW.PrintMore
attribute [local go_sem] max2_int min2_int max_two min_two max_three min_three max_four min_four
set_option linter.unusedVariables false
set_option linter.unusedSimpArgs false
theorem VrAloneL.calls (A1 : Option Addr) (c1 : Nat) (data : List (List Int)) (r : Bool) (w : World) (h1 : Kd.C (Kd.slice 5 (Kd.int .u8)) w A1 data.length data) (g1 : data.length ≤ c1) (h : r = true) :
    Calls Try.prog 5 #[.slice A1 data.length c1] w fun e w' => e = .returned (.bool r) ∧ Below w.heap.size w w' := by
  subst h
  exact VrAlone.calls A1 c1 data w h1
end Go.Proofs.Ytojjnifbnppliaa.T
namespace Go.Proofs.Ytojjnifbnppliaa.Pure
def OkB (x : List Int) : Prop := (∀ p ∈ x, (Lit.int .u8 p).wf = true) ∧ x.length * 1 ≤ 140737488351232 ∧ x.length ≤ maxLen
def OkL (x : List (List Int)) : Prop := (∀ p ∈ x, OkB p) ∧ x.length * 24 ≤ 140737488351232 ∧ x.length ≤ maxLen
theorem VrAlone (l1 : List (List Int)) (_ : OkL l1) : true = true := rfl
end Go.Proofs.Ytojjnifbnppliaa.Pure
