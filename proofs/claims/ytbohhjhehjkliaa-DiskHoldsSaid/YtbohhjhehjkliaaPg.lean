import Derived.Test.YtbohhjhehjkliaaPf
namespace Go.Proofs.Ytbohhjhehjkliaa.Plain
open Go.RowKit Go.Proofs.Ytbohhjhehjkliaa.T Go.Proofs.YtbohhjhehjkliaaW.PrintWords Go.Proofs.YtbohhjhehjkliaaW.PrintLast
theorem old_l1 (x7 : Int) (b : List Int) (l0 : List (List Int)) (l : List S41) (c0 : List (List Int)) (c1 : List S62) (hb : b.length = 64) (hl : l.length ≤ 100000) (Fu : Nat)
    (hnext : ∀ K, Fu ≤ K → undercroftlaw03_DiskOldOrNew.l0 K (wrap64 (x7 + 1)) l0 l c0 c1 = some true) :
    ∀ (m i k : Nat) (flag : Bool), i + m = l.length → Fu + m + 66 ≤ k → (flag = true ∨ ∃ j : Nat, i ≤ j ∧ j < l.length ∧ (rd_T41 l (j : Int)).f0 = x7 ∧ b = (rd_T41 l (j : Int)).f1) → undercroftlaw03_DiskOldOrNew.l1 k x7 b 0 flag i l0 l c0 c1 = some true
  | m, i, 0, _, _, h, _ => by omega
  | 0, i, k + 1, flag, e, h, hf => by
    have hft : flag = true := by
      rcases hf with h | ⟨j, h1, h2, _⟩
      · exact h
      · omega
    rw [undercroftlaw03_DiskOldOrNew.l1, if_neg (by omega)]
    refine Option.bind_eq_some_iff.mpr ⟨0, rfl, ?_⟩
    refine (if_pos rfl).trans ?_
    refine (if_pos hft).trans ?_
    exact hnext k (by omega)
  | m + 1, i, k + 1, flag, e, h, hf => by
    have hw : wrap64 ((i : Int) + 1) = ((i + 1 : Nat) : Int) := by unfold wrap64; omega
    have ih := old_l1 x7 b l0 l c0 c1 hb hl Fu hnext m (i + 1) k
    rw [undercroftlaw03_DiskOldOrNew.l1, if_pos (by omega), hw]
    by_cases hft : flag = true
    · rw [if_pos hft]
      exact ih true (by omega) (by omega) (.inl rfl)
    · rw [if_neg hft, if_pos (by omega)]
      obtain ⟨j, h1, h2, h3, h4⟩ := hf.resolve_left hft
      by_cases hq : (rd_T41 l (i : Int)).f0 = x7
      · rw [if_pos hq]
        refine Option.bind_eq_some_iff.mpr ⟨decide (b = (rd_T41 l (i : Int)).f1), sameD _ _ (by omega) _ (by omega), ?_⟩
        refine ih _ (by omega) (by omega) ?_
        by_cases hj : j = i
        · subst hj
          exact .inl (decide_eq_true h4)
        · exact .inr ⟨j, by omega, h2, h3, h4⟩
      · rw [if_neg hq]
        refine ih _ (by omega) (by omega) (.inr ⟨j, ?_, h2, h3, h4⟩)
        rcases Nat.lt_or_ge i j with hj | hj
        · omega
        · obtain rfl : j = i := by omega
          exact absurd h3 hq
end Go.Proofs.Ytbohhjhehjkliaa.Plain
