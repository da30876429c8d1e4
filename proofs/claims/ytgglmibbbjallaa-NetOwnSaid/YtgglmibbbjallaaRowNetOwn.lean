/- This text proves the row of the statement NetOwn: what follows shares nothing with what was handed in: the law answers true for every input, and its arguments read as they did. -/
import Derived.Test.YtgglmibbbjallaaRows
import Derived.Test.YtgglmibbbjallaaOpen
import Derived.Test.YtgglmibbbjallaaPo
import Derived.WalkKit
import Derived.ProofKit
import Derived.OpenShut
import Derived.ShutString
import Derived.ChangeOld
import Derived.Below
import Derived.SizedLaws
namespace Go.Proofs.Ytgglmibbbjallaa.netOwn
open Go.ChangeShapes Go.WideShapes Go.ChangeAt Go.RowKit Go.Proofs.YtgglmibbbjallaaW.Fit Go.Proofs.YtgglmibbbjallaaW.PrintWords Go.Proofs.Ytgglmibbbjallaa.T
open Go.ChangeMaps (open_string shut_string)
set_option linter.unusedVariables false
set_option linter.unusedSimpArgs false
theorem own : ownKnob Try.prog.godebug = none := by kernel_rfl
theorem laidOut : laidOutB Try.prog = true := by kernel_rfl
theorem fits38 : Fits Try.prog 38 k38 (fun x => Pure.OkD (x.f0, x.f1, x.f2)) := by
  unfold k38
  exact fits_struct (f := fun x : S38 => (x.f0, x.f1, x.f2)) (ok := Pure.OkD) (fun y => ⟨y.1, y.2.1, y.2.2⟩) (fun _ => rfl) Try.underlying38 (by kernel_rfl) (fitsFs_cons (ok2 := Pure.OkE) rfl (fits_int Try.underlying3 (by kernel_rfl)) (fitsFs_cons (ok2 := Pure.OkB) rfl (fits_int Try.underlying3 (by kernel_rfl)) (fitsFs_one rfl (fits_slice Try.underlying36 (by kernel_rfl) (fits_int Try.underlying5 (by kernel_rfl)) (by kernel_rfl)))))
def k24 : Kd (Int × List S38) := Kd.iso (Kd.pair (Kd.int .i64) (Kd.slice 38 k38)) (fun x => x)
theorem k24_open {w : World} {x : Int × List S38} {cs : List Value} (h : k24.K w x cs) : ∃ A1 c1, cs = [.int .i64 x.1, .slice A1 x.2.length c1] ∧ x.2.length ≤ c1 ∧ k38.C w A1 x.2.length x.2 := by
  obtain ⟨_, _, rfl, rfl, ⟨A1, c1, rfl, l1, g1⟩⟩ := h
  exact ⟨A1, c1, rfl, l1, g1⟩
theorem fits24 : Fits Try.prog 24 k24 Pure.OkS := by
  unfold k24
  exact fits_struct (f := fun x : Int × List S38 => x) (ok := Pure.OkS) (fun y => y) (fun _ => rfl) Try.underlying24 (by kernel_rfl) (fitsFs_cons (ok2 := Pure.OkQ) rfl (fits_int Try.underlying3 (by kernel_rfl)) (fitsFs_one rfl (fits_slice Try.underlying22 (by kernel_rfl) fits38 (by kernel_rfl))))
set_option maxRecDepth 100000 in
theorem lifted (os : Os) (started : os.Started) (H : Type) (enc : TypeId × Value → H) :
    ReturnsInHanded {} Try.checked os 4 .any (Rows.netOwnSpec.pre6 enc Try.prog Try.f4 Rows.netOwnRow.domain false) (Rows.netOwnSpec.post enc Try.prog Try.f4 false true false false) := by
  refine returnsInHanded_of_change_sized (C := Try.checked) own started (by kernel_rfl) Try.func4
    (ChangeSpec.witness6 (enc := enc) (C := Try.checked) false ⟨#[], #[.agg #[.int .i64 0, .slice none 0 0], .agg #[.int .i64 0, .int .i64 0, .slice none 0 0], .int .i64 0], []⟩ 8 (by kernel_rfl) (by kernel_rfl) (by kernel_rfl) (by kernel_rfl)) ?_
  intro W base args ds gs before hval0 hW hcnd hsz0 _
  have hsz : (DataW.weightsEach Try.prog (Try.f4.params.toList ++ Rows.netOwnSpec.plain.varTypes Try.prog) (ds ++ gs)).all (· ≤ reachBytes) = true := hsz0
  have hval : ∀ (j : Nat) t v, Try.f4.params[j]? = some t → args[j]? = some v → Value.okWide Try.prog W .any base t v := hval0
  have hW' := hW
  obtain ⟨p, q, hA0, hV, rfl, hfz, hnd⟩ := hW
  have hA : DataW.TrodAll enc Try.prog W 0 (fun _ => true) true Try.f4.params.toList args.toList ds p := hA0
  rw [Try.params4] at hA hval hsz
  obtain ⟨v0, vs0, d0, ds0, p0, q0, hargs, rfl, rfl, h0, r0⟩ := trodAll_cons hA
  obtain ⟨v1, vs1, d1, ds1, p1, q1, rfl, rfl, rfl, h1, r1⟩ := trodAll_cons r0
  obtain ⟨v2, vs2, d2, ds2, p2, q2, rfl, rfl, rfl, h2, r2⟩ := trodAll_cons r1
  obtain ⟨rfl, rfl, rfl⟩ := trodAll_nil r2
  obtain rfl : args = #[v0, v1, v2] := by cases args; simp_all
  obtain ⟨rfl, rfl⟩ := trodVars_none hV
  have k0 := h0
  have lt0 : ∀ x ∈ p0, x.block < W.heap.size := by obtain ⟨m, hm⟩ := k0; exact DataW.trod_lt m _ _ _ hm
  obtain ⟨cs0, rfl, _⟩ := okWide_struct Try.underlying24 (hval 0 24 v0 rfl rfl)
  obtain ⟨x0, hK0, w0⟩ := open_arg_struct fits24 h0 (fun n hn => of_decide_eq_true (List.all_eq_true.1 hsz n (weight_at (j := 0) rfl rfl n hn)))
  obtain ⟨A0, c0, he0, hc0, hr0⟩ := k24_open hK0
  obtain rfl : cs0 = #[.int .i64 x0.1, .slice A0 x0.2.length c0] := by apply Array.toList_inj.1; exact he0
  have k1 := h1
  have lt1 : ∀ x ∈ p1, x.block < W.heap.size := by obtain ⟨m, hm⟩ := k1; exact DataW.trod_lt m _ _ _ hm
  obtain ⟨cs1, rfl, _⟩ := okWide_struct Try.underlying38 (hval 1 38 v1 rfl rfl)
  obtain ⟨x1, hK1, w1⟩ := open_arg_struct fits38 h1 (fun n hn => of_decide_eq_true (List.all_eq_true.1 hsz n (weight_at (j := 1) rfl rfl n hn)))
  obtain ⟨A1, c1, he1, hc1, hr1⟩ := k38_open hK1
  obtain rfl : cs1 = #[.int .i64 x1.f0, .int .i64 x1.f1, .slice A1 x1.f2.length c1] := by apply Array.toList_inj.1; exact he1
  obtain ⟨a2, rfl, rfl, rfl, w2⟩ := open_int Try.underlying3 (hval 2 3 v2 rfl rfl) h2
  obtain ⟨k, h⟩ := Pure.NetOwn x0 x1 a2 w0 w1 w2
  clear hA0 hval0 hsz0 hsz
  refine (NetOwnL.calls k x0.1 A0 c0 x0.2 x1.f0 x1.f1 A1 c1 x1.f2 a2 true W hr0 hc0 hr1 hc1 h).mono fun e W' ⟨he, bel0⟩ => ?_
  have bel : Below W.heap.size W W' := bel0
  subst he
  exact ⟨_, rfl, _, _, _, [], _, [], hW', trodAll_mk1 (shut_bool Try.underlying4 _), (trodAll_cons_mk (Below.trod laidOut (by kernel_rfl) (of_decide_eq_true (by kernel_rfl)) k0 bel lt0) (trodAll_cons_mk (Below.trod laidOut (by kernel_rfl) (of_decide_eq_true (by kernel_rfl)) k1 bel lt1) (trodAll_cons_mk (shut_int Try.underlying3 w2) trodAll_mk0))), rfl, bel.frame _, fun h => by cases h⟩
theorem over : Rows.netOwnRow.holds Try.pinned (OpenSpec.ofChange Rows.netOwnSpec) :=
  OpenClaim.holds_of_wide 4 Try.f4 rfl rfl rfl rfl rfl rfl rfl ⟨rfl, rfl, rfl, rfl, rfl⟩ rfl rfl rfl rfl rfl (by kernel_rfl) Try.func4 (by kernel_rfl)
    (of_decide_eq_true (by kernel_rfl)) (by unfold Func.isWrapper; first | (rw [if_pos (by decide +kernel)]; kernel_rfl) | (rw [if_neg (by decide +kernel)]; exact ⟨rfl, rfl⟩))
    (fun os started H enc _ => lifted os started H enc)
end Go.Proofs.Ytgglmibbbjallaa.netOwn
namespace Go.Proofs.Ytgglmibbbjallaa
/-- The row, under a short name, for the claim. -/
theorem netOwn_holds : Rows.NetOwnSaid := netOwn.over
#print axioms netOwn_holds
end Go.Proofs.Ytgglmibbbjallaa
