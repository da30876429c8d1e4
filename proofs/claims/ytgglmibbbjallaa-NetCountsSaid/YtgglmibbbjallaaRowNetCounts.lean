/- This text proves the row of the statement NetCounts: whatever happens, no packet is taken more often than it was sent and doubled, and those that are left are in the order in which they came: the law answers true for every input, and its arguments read as they did. -/
import Derived.Test.YtgglmibbbjallaaRows
import Derived.Test.YtgglmibbbjallaaOpen
import Derived.Test.YtgglmibbbjallaaPh
import Derived.WalkKit
import Derived.ProofKit
import Derived.OpenShut
import Derived.ShutString
import Derived.ChangeOld
import Derived.Below
import Derived.SizedLaws
namespace Go.Proofs.Ytgglmibbbjallaa.netCounts
open Go.ChangeShapes Go.WideShapes Go.ChangeAt Go.RowKit Go.Proofs.YtgglmibbbjallaaW.Fit Go.Proofs.YtgglmibbbjallaaW.PrintWords Go.Proofs.Ytgglmibbbjallaa.T
open Go.ChangeMaps (open_string shut_string)
set_option linter.unusedVariables false
set_option linter.unusedSimpArgs false
theorem own : ownKnob Try.prog.godebug = none := by kernel_rfl
theorem laidOut : laidOutB Try.prog = true := by kernel_rfl
theorem fits58 : Fits Try.prog 58 k58 (fun x => (Lit.int .i64 x.f0).wf = true ∧ (Lit.int .i64 x.f1).wf = true) := by
  unfold k58
  exact fits_struct (f := fun x : S58 => (x.f0, x.f1)) (ok := fun y : Int × Int => (Lit.int .i64 y.1).wf = true ∧ (Lit.int .i64 y.2).wf = true) (fun y => ⟨y.1, y.2⟩) (fun _ => rfl) Try.underlying58 (by kernel_rfl) (fitsFs_cons (ok2 := fun z : Int => (Lit.int .i64 z).wf = true) rfl (fits_int Try.underlying3 (by kernel_rfl)) (fitsFs_one rfl (fits_int Try.underlying3 (by kernel_rfl))))
set_option maxRecDepth 100000 in
theorem lifted (os : Os) (started : os.Started) (H : Type) (enc : TypeId × Value → H) :
    ReturnsInHanded {} Try.checked os 5 .any (Rows.netCountsSpec.pre6 enc Try.prog Try.f5 Rows.netCountsRow.domain false) (Rows.netCountsSpec.post enc Try.prog Try.f5 false true false false) := by
  refine returnsInHanded_of_change_sized (C := Try.checked) own started (by kernel_rfl) Try.func5
    (ChangeSpec.witness6 (enc := enc) (C := Try.checked) false ⟨#[], #[.int .i64 0, .slice none 0 0], []⟩ 8 (by kernel_rfl) (by kernel_rfl) (by kernel_rfl) (by kernel_rfl)) ?_
  intro W base args ds gs before hval0 hW hcnd hsz0 _
  have hsz : (DataW.weightsEach Try.prog (Try.f5.params.toList ++ Rows.netCountsSpec.plain.varTypes Try.prog) (ds ++ gs)).all (· ≤ reachBytes) = true := hsz0
  have hval : ∀ (j : Nat) t v, Try.f5.params[j]? = some t → args[j]? = some v → Value.okWide Try.prog W .any base t v := hval0
  have hW' := hW
  obtain ⟨p, q, hA0, hV, rfl, hfz, hnd⟩ := hW
  have hA : DataW.TrodAll enc Try.prog W 0 (fun _ => true) true Try.f5.params.toList args.toList ds p := hA0
  rw [Try.params5] at hA hval hsz
  obtain ⟨v0, vs0, d0, ds0, p0, q0, hargs, rfl, rfl, h0, r0⟩ := trodAll_cons hA
  obtain ⟨v1, vs1, d1, ds1, p1, q1, rfl, rfl, rfl, h1, r1⟩ := trodAll_cons r0
  obtain ⟨rfl, rfl, rfl⟩ := trodAll_nil r1
  obtain rfl : args = #[v0, v1] := by cases args; simp_all
  obtain ⟨rfl, rfl⟩ := trodVars_none hV
  obtain ⟨a0, rfl, rfl, rfl, w0⟩ := open_int Try.underlying3 (hval 0 3 v0 rfl rfl) h0
  have k1 := h1
  have lt1 : ∀ x ∈ p1, x.block < W.heap.size := by obtain ⟨m, hm⟩ := k1; exact DataW.trod_lt m _ _ _ hm
  obtain ⟨a1, len1, cap1, rfl⟩ := okWide_slice Try.underlying54 (hval 1 54 v1 rfl rfl)
  obtain ⟨l1, rfl, hc1, hr1, w1⟩ := open_arg_slice (fits_slice Try.underlying54 (by kernel_rfl) fits58 (by kernel_rfl)) h1 (fun n hn => of_decide_eq_true (List.all_eq_true.1 hsz n (weight_at (j := 1) rfl rfl n hn)))
  obtain ⟨k, h⟩ := Pure.NetCounts a0 l1 w0 w1
  clear hA0 hval0 hsz0 hsz
  refine (NetCountsL.calls k a0 _ _ l1 true W hr1 hc1 h).mono fun e W' ⟨he, bel0⟩ => ?_
  have bel : Below W.heap.size W W' := bel0
  subst he
  exact ⟨_, rfl, _, _, _, [], _, [], hW', trodAll_mk1 (shut_bool Try.underlying4 _), (trodAll_cons_mk (shut_int Try.underlying3 w0) (trodAll_cons_mk (Below.trod laidOut (by kernel_rfl) (of_decide_eq_true (by kernel_rfl)) k1 bel lt1) trodAll_mk0)), rfl, bel.frame _, fun h => by cases h⟩
theorem over : Rows.netCountsRow.holds Try.pinned (OpenSpec.ofChange Rows.netCountsSpec) :=
  OpenClaim.holds_of_wide 5 Try.f5 rfl rfl rfl rfl rfl rfl rfl ⟨rfl, rfl, rfl, rfl, rfl⟩ rfl rfl rfl rfl rfl (by kernel_rfl) Try.func5 (by kernel_rfl)
    (of_decide_eq_true (by kernel_rfl)) (by unfold Func.isWrapper; first | (rw [if_pos (by decide +kernel)]; kernel_rfl) | (rw [if_neg (by decide +kernel)]; exact ⟨rfl, rfl⟩))
    (fun os started H enc _ => lifted os started H enc)
end Go.Proofs.Ytgglmibbbjallaa.netCounts
namespace Go.Proofs.Ytgglmibbbjallaa
/-- The row, under a short name, for the claim. -/
theorem netCounts_holds : Rows.NetCountsSaid := netCounts.over
#print axioms netCounts_holds
end Go.Proofs.Ytgglmibbbjallaa
