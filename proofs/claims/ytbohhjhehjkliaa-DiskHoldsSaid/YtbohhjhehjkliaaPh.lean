import Derived.Test.YtbohhjhehjkliaaPg
namespace Go.Proofs.Ytbohhjhehjkliaa.Plain
open Go.RowKit Go.Proofs.Ytbohhjhehjkliaa.T Go.Proofs.YtbohhjhehjkliaaW.PrintWords Go.Proofs.YtbohhjhehjkliaaW.PrintLast
theorem get_one (c0 : List (List Int)) (hc : disk_Check.v c0 [] = 0) (x : Nat) (hx : x < c0.length) : disk_Get.f c0 [] x = some (c0.getD x [], 0) := by
  obtain ⟨q1, q2, q3, q4, q5⟩ := check0 hc
  unfold disk_Get.f
  refine Option.bind_eq_some_iff.mpr ⟨(c0.getD x [], 0), ?_, rfl⟩
  unfold disk_GetAll.f
  have hr : roomB c0.length (x : Int) 1 = true := decide_eq_true ⟨by omega, by omega, by omega, by omega⟩
  rw [if_pos hc, if_pos hr]
  have e : getN c0 [] (x : Int) (1 : Int).toNat = c0.getD x [] := by
    show [] ++ lastN c0 [] ((x : Int) + ((0 : Nat) : Int)) 0 = _
    rw [List.nil_append]
    show rd_L1 c0 ((x : Int) + ((0 : Nat) : Int)) = _
    unfold rd_L1
    rw [show ((x : Int) + ((0 : Nat) : Int)).toNat = x by omega]
  rw [e]
theorem old_l0 (l0 : List (List Int)) (l : List S41) (c0 : List (List Int)) (hc : disk_Check.v c0 [] = 0) (hlen : c0.length = l0.length) (hl : l.length ≤ 100000)
    (hold : ∀ x : Nat, x < l0.length → c0.getD x [] = l0.getD x [] ∨ ∃ j : Nat, j < l.length ∧ (rd_T41 l (j : Int)).f0 = (x : Int) ∧ c0.getD x [] = (rd_T41 l (j : Int)).f1) :
    ∀ (m x K : Nat), x + m = l0.length → m * (l.length + 70) + 1 ≤ K → undercroftlaw03_DiskOldOrNew.l0 K x l0 l c0 [] = some true
  | m, x, 0, _, h => by omega
  | 0, x, K + 1, e, _ => by
    rw [undercroftlaw03_DiskOldOrNew.l0, if_neg (by omega)]
    rfl
  | m + 1, x, K + 1, e, h => by
    obtain ⟨q1, q2, q3, q4, q5⟩ := check0 hc
    have hx : x < c0.length := by omega
    have h64 : (c0.getD x []).length = 64 := by
      rw [List.getD_eq_getElem?_getD, List.getElem?_eq_getElem hx]
      exact q4 _ (List.getElem_mem hx)
    have hw : wrap64 ((x : Int) + 1) = ((x + 1 : Nat) : Int) := by unfold wrap64; omega
    have hmul : (m + 1) * (l.length + 70) = m * (l.length + 70) + (l.length + 70) := Nat.succ_mul _ _
    rw [undercroftlaw03_DiskOldOrNew.l0, if_pos (by omega)]
    refine Option.bind_eq_some_iff.mpr ⟨(c0.getD x [], 0), get_one c0 hc x hx, ?_⟩
    have hx0 : (0 : Int) ≤ (x : Int) := Int.natCast_nonneg x
    refine (if_pos hx0).trans ?_
    refine Option.bind_eq_some_iff.mpr ⟨decide (c0.getD x [] = rd_L1 l0 (x : Int)), sameD (c0.getD x []) (rd_L1 l0 (x : Int)) (by rw [h64]; omega) K (by rw [h64]; omega), ?_⟩
    refine old_l1 (x : Int) (c0.getD x []) l0 l c0 [] h64 hl (m * (l.length + 70) + 1) (fun K' hK' => by rw [hw]; exact old_l0 l0 l c0 hc hlen hl hold m (x + 1) K' (by omega) hK') l.length 0 K _ (Nat.zero_add _) (by omega) ?_
    rcases hold x (by omega) with h1 | ⟨j, h1, h2, h3⟩
    · refine .inl (decide_eq_true ?_)
      rw [h1]
      unfold rd_L1
      rw [Int.toNat_natCast]
    · exact .inr ⟨j, Nat.zero_le _, h1, h2, h3⟩
end Go.Proofs.Ytbohhjhehjkliaa.Plain
