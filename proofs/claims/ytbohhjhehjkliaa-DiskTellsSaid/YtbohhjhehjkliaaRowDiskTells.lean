/- This text proves the row of the statement DiskTells: of any disk, what a put, a get, a flush, a crash make of it is the page's, and the disk that was handed in stays: the law answers true for every input, and its arguments read as they did. -/
import Derived.Test.YtbohhjhehjkliaaRows
import Derived.Test.YtbohhjhehjkliaaOpen
import Derived.Test.YtbohhjhehjkliaaDy
import Derived.WalkKit
import Derived.ProofKit
import Derived.OpenShut
import Derived.ShutString
import Derived.ChangeOld
import Derived.Below
import Derived.SizedLaws
namespace Go.Proofs.Ytbohhjhehjkliaa.diskTells
open Go.ChangeShapes Go.WideShapes Go.ChangeAt Go.RowKit Go.Proofs.YtbohhjhehjkliaaW.Fit Go.Proofs.YtbohhjhehjkliaaW.PrintWords Go.Proofs.Ytbohhjhehjkliaa.T
open Go.ChangeMaps (open_string shut_string)
set_option linter.unusedVariables false
set_option linter.unusedSimpArgs false
theorem own : ownKnob Try.prog.godebug = none := by kernel_rfl
theorem laidOut : laidOutB Try.prog = true := by kernel_rfl
theorem fits41 : Fits Try.prog 41 k41 (fun x => Pure.OkE (x.f0, x.f1)) := by
  unfold k41
  exact fits_struct (f := fun x : S41 => (x.f0, x.f1)) (ok := Pure.OkE) (fun y => ⟨y.1, y.2⟩) (fun _ => rfl) Try.underlying41 (by kernel_rfl) (fitsFs_cons (ok2 := Pure.OkB) rfl (fits_int Try.underlying3 (by kernel_rfl)) (fitsFs_one rfl (fits_slice Try.underlying36 (by kernel_rfl) (fits_int Try.underlying5 (by kernel_rfl)) (by kernel_rfl))))
def k25 : Kd (List (List Int) × List S41) := Kd.iso (Kd.pair (Kd.slice 36 (Kd.slice 5 (Kd.int .u8))) (Kd.slice 41 k41)) (fun x => x)
theorem k25_open {w : World} {x : List (List Int) × List S41} {cs : List Value} (h : k25.K w x cs) : ∃ A0 c0 A1 c1, cs = [.slice A0 x.1.length c0, .slice A1 x.2.length c1] ∧ x.1.length ≤ c0 ∧ (Kd.slice 5 (Kd.int .u8)).C w A0 x.1.length x.1 ∧ x.2.length ≤ c1 ∧ k41.C w A1 x.2.length x.2 := by
  obtain ⟨_, _, rfl, ⟨A0, c0, rfl, l0, g0⟩, ⟨A1, c1, rfl, l1, g1⟩⟩ := h
  exact ⟨A0, c0, A1, c1, rfl, l0, g0, l1, g1⟩
theorem fits25 : Fits Try.prog 25 k25 Pure.OkS := by
  unfold k25
  exact fits_struct (f := fun x : List (List Int) × List S41 => x) (ok := Pure.OkS) (fun y => y) (fun _ => rfl) Try.underlying25 (by kernel_rfl) (fitsFs_cons (ok := Pure.OkL) (ok2 := Pure.OkQ) rfl (fits_slice Try.underlying22 (by kernel_rfl) (fits_slice Try.underlying36 (by kernel_rfl) (fits_int Try.underlying5 (by kernel_rfl)) (by kernel_rfl)) (by kernel_rfl)) (fitsFs_one rfl (fits_slice Try.underlying23 (by kernel_rfl) fits41 (by kernel_rfl))))
set_option maxRecDepth 100000 in
theorem lifted (os : Os) (started : os.Started) (H : Type) (enc : TypeId × Value → H) :
    ReturnsInHanded {} Try.checked os 4 .any (Rows.diskTellsSpec.pre6 enc Try.prog Try.f4 Rows.diskTellsRow.domain false) (Rows.diskTellsSpec.post enc Try.prog Try.f4 false true false false) := by
  refine returnsInHanded_of_change_sized (C := Try.checked) own started (by kernel_rfl) Try.func4
    (ChangeSpec.witness6 (enc := enc) (C := Try.checked) false ⟨#[], #[.agg #[.slice none 0 0, .slice none 0 0], .int .i64 0, .slice none 0 0, .slice none 0 0], []⟩ 8 (by kernel_rfl) (by kernel_rfl) (by kernel_rfl) (by kernel_rfl)) ?_
  intro W base args ds gs before hval0 hW hcnd hsz0 _
  have hsz : (DataW.weightsEach Try.prog (Try.f4.params.toList ++ Rows.diskTellsSpec.plain.varTypes Try.prog) (ds ++ gs)).all (· ≤ reachBytes) = true := hsz0
  have hval : ∀ (j : Nat) t v, Try.f4.params[j]? = some t → args[j]? = some v → Value.okWide Try.prog W .any base t v := hval0
  have hW' := hW
  obtain ⟨p, q, hA0, hV, rfl, hfz, hnd⟩ := hW
  have hA : DataW.TrodAll enc Try.prog W 0 (fun _ => true) true Try.f4.params.toList args.toList ds p := hA0
  rw [Try.params4] at hA hval hsz
  obtain ⟨v0, vs0, d0, ds0, p0, q0, hargs, rfl, rfl, h0, r0⟩ := trodAll_cons hA
  obtain ⟨v1, vs1, d1, ds1, p1, q1, rfl, rfl, rfl, h1, r1⟩ := trodAll_cons r0
  obtain ⟨v2, vs2, d2, ds2, p2, q2, rfl, rfl, rfl, h2, r2⟩ := trodAll_cons r1
  obtain ⟨v3, vs3, d3, ds3, p3, q3, rfl, rfl, rfl, h3, r3⟩ := trodAll_cons r2
  obtain ⟨rfl, rfl, rfl⟩ := trodAll_nil r3
  obtain rfl : args = #[v0, v1, v2, v3] := by cases args; simp_all
  obtain ⟨rfl, rfl⟩ := trodVars_none hV
  have k0 := h0
  have lt0 : ∀ x ∈ p0, x.block < W.heap.size := by obtain ⟨m, hm⟩ := k0; exact DataW.trod_lt m _ _ _ hm
  obtain ⟨cs0, rfl, _⟩ := okWide_struct Try.underlying25 (hval 0 25 v0 rfl rfl)
  obtain ⟨x0, hK0, w0⟩ := open_arg_struct fits25 h0 (fun n hn => of_decide_eq_true (List.all_eq_true.1 hsz n (weight_at (j := 0) rfl rfl n hn)))
  obtain ⟨A0, c0, B0, d0, he0, hc0, hr0, hd0, hs0⟩ := k25_open hK0
  obtain rfl : cs0 = #[.slice A0 x0.1.length c0, .slice B0 x0.2.length d0] := by apply Array.toList_inj.1; exact he0
  obtain ⟨a1, rfl, rfl, rfl, w1⟩ := open_int Try.underlying3 (hval 1 3 v1 rfl rfl) h1
  have k2 := h2
  have lt2 : ∀ x ∈ p2, x.block < W.heap.size := by obtain ⟨m, hm⟩ := k2; exact DataW.trod_lt m _ _ _ hm
  obtain ⟨a2, len2, cap2, rfl⟩ := okWide_slice Try.underlying36 (hval 2 36 v2 rfl rfl)
  obtain ⟨l2, rfl, hc2, hr2, w2⟩ := open_arg_slice (fits_slice Try.underlying36 (by kernel_rfl) (fits_int Try.underlying5 (by kernel_rfl)) (by kernel_rfl)) h2 (fun n hn => of_decide_eq_true (List.all_eq_true.1 hsz n (weight_at (j := 2) rfl rfl n hn)))
  have k3 := h3
  have lt3 : ∀ x ∈ p3, x.block < W.heap.size := by obtain ⟨m, hm⟩ := k3; exact DataW.trod_lt m _ _ _ hm
  obtain ⟨a3, len3, cap3, rfl⟩ := okWide_slice Try.underlying26 (hval 3 26 v3 rfl rfl)
  obtain ⟨l3, rfl, hc3, hr3, w3⟩ := open_arg_slice (fits_slice Try.underlying26 (by kernel_rfl) (fits_bool Try.underlying4 (by kernel_rfl)) (by kernel_rfl)) h3 (fun n hn => of_decide_eq_true (List.all_eq_true.1 hsz n (weight_at (j := 3) rfl rfl n hn)))
  obtain ⟨k, h⟩ := Pure.DiskTells x0 a1 l2 l3 w0 w1 w2 w3
  clear hA0 hval0 hsz0 hsz
  refine (DiskTellsL.calls k A0 c0 x0.1 B0 d0 x0.2 a1 _ _ l2 _ _ l3 true W hr0 hc0 hs0 hd0 hr2 hc2 hr3 hc3 h).mono fun e W' ⟨he, bel0⟩ => ?_
  have bel : Below W.heap.size W W' := bel0
  subst he
  exact ⟨_, rfl, _, _, _, [], _, [], hW', trodAll_mk1 (shut_bool Try.underlying4 _), (trodAll_cons_mk (Below.trod laidOut (by kernel_rfl) (of_decide_eq_true (by kernel_rfl)) k0 bel lt0) (trodAll_cons_mk (shut_int Try.underlying3 w1) (trodAll_cons_mk (Below.trod laidOut (by kernel_rfl) (of_decide_eq_true (by kernel_rfl)) k2 bel lt2) (trodAll_cons_mk (Below.trod laidOut (by kernel_rfl) (of_decide_eq_true (by kernel_rfl)) k3 bel lt3) trodAll_mk0)))), rfl, bel.frame _, fun h => by cases h⟩
theorem over : Rows.diskTellsRow.holds Try.pinned (OpenSpec.ofChange Rows.diskTellsSpec) :=
  OpenClaim.holds_of_wide 4 Try.f4 rfl rfl rfl rfl rfl rfl rfl ⟨rfl, rfl, rfl, rfl, rfl⟩ rfl rfl rfl rfl rfl (by kernel_rfl) Try.func4 (by kernel_rfl)
    (of_decide_eq_true (by kernel_rfl)) (by unfold Func.isWrapper; first | (rw [if_pos (by decide +kernel)]; kernel_rfl) | (rw [if_neg (by decide +kernel)]; exact ⟨rfl, rfl⟩))
    (fun os started H enc _ => lifted os started H enc)
end Go.Proofs.Ytbohhjhehjkliaa.diskTells
namespace Go.Proofs.Ytbohhjhehjkliaa
/-- The row, under a short name, for the claim. -/
theorem diskTells_holds : Rows.DiskTellsSaid := diskTells.over
#print axioms diskTells_holds
end Go.Proofs.Ytbohhjhehjkliaa
