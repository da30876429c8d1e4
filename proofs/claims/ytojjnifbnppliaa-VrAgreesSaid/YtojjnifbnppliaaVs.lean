/- VrAgrees: the walk, in the row's form. -/
import Derived.Test.YtojjnifbnppliaaVq
namespace Go.Proofs.Ytojjnifbnppliaa.T
open Go.RowKit Go.Proofs.YtojjnifbnppliaaW.PrintWords Go.Proofs.YtojjnifbnppliaaW.PrintLast Go.Proofs.YtojjnifbnppliaaW.PrintMore
attribute [local go_sem] max2_int min2_int max_two min_two max_three min_three max_four min_four
set_option linter.unusedVariables false
set_option linter.unusedSimpArgs false
theorem VrAgreesL.calls (n : Int) (A1 : Option Addr) (c1 : Nat) (data : List Int) (A2 : Option Addr) (c2 : Nat) (order : List Int) (r : Bool) (w : World) (h1 : Kd.C (Kd.int .u8) w A1 data.length data) (g1 : data.length ≤ c1) (h2 : Kd.C (Kd.int .i64) w A2 order.length order) (g2 : order.length ≤ c2) (h : r = true) :
    Calls Try.prog 3 #[.int .i64 n, .slice A1 data.length c1, .slice A2 order.length c2] w fun e w' => e = .returned (.bool r) ∧ Below w.heap.size w w' := by
  subst h
  exact VrAgrees.calls n A1 c1 data A2 c2 order w h1 g1 h2
end Go.Proofs.Ytojjnifbnppliaa.T
namespace Go.Proofs.Ytojjnifbnppliaa.Pure
def OkBytes (x : List Int) : Prop := (∀ p ∈ x, (Lit.int .u8 p).wf = true) ∧ x.length * 1 ≤ 140737488351232 ∧ x.length ≤ maxLen
def OkInts (x : List Int) : Prop := (∀ p ∈ x, (Lit.int .i64 p).wf = true) ∧ x.length * 8 ≤ 140737488351232 ∧ x.length ≤ maxLen
theorem VrAgrees (a : Int) (l1 : List Int) (l2 : List Int) (_ : (Lit.int .i64 a).wf = true) (_ : OkBytes l1) (_ : OkInts l2) : true = true := rfl
end Go.Proofs.Ytojjnifbnppliaa.Pure
