import Derived.Test.YtbohhjhehjkliaaPb
namespace Go.Proofs.Ytbohhjhehjkliaa.Plain
open Go.RowKit Go.Proofs.Ytbohhjhehjkliaa.T Go.Proofs.YtbohhjhehjkliaaW.PrintWords Go.Proofs.YtbohhjhehjkliaaW.PrintLast
/-- What lies in a sector when n writes have come up: what it was, or what one of its writes had. -/
theorem landN_or (kp : Int → Bool) (l0 : List (List Int)) (l1 : List S62) (k : Nat) (hk : k < l0.length) : ∀ n, n ≤ l1.length → (∀ x ∈ l1, 0 ≤ x.f0) → (landN kp l0 l1 n).getD k [] = l0.getD k [] ∨ ∃ j, j < n ∧ (rd_T62 l1 (j : Int)).f0 = k ∧ (landN kp l0 l1 n).getD k [] = (rd_T62 l1 (j : Int)).f1
  | 0, _, _ => .inl rfl
  | n + 1, hn, h0 => by
    have ih := landN_or kp l0 l1 k hk n (by omega) h0
    have h0n := h0 _ (rd62_mem (l1 := l1) (n := n) (by omega))
    rw [landN]
    split
    · by_cases e : (rd_T62 l1 (n : Int)).f0.toNat = k
      · refine .inr ⟨n, by omega, by omega, ?_⟩
        rw [List.getD_eq_getElem?_getD, List.getElem?_set, if_pos e, if_pos (by rw [landN_length]; omega)]
        rfl
      · have e2 : ((landN kp l0 l1 n).set (rd_T62 l1 (n : Int)).f0.toNat (rd_T62 l1 (n : Int)).f1).getD k [] = (landN kp l0 l1 n).getD k [] := by
          simp only [List.getD_eq_getElem?_getD, List.getElem?_set, if_neg e]
        rw [e2]
        rcases ih with h | ⟨j, hj, h1, h2⟩
        · exact .inl h
        · exact .inr ⟨j, by omega, h1, h2⟩
    · rcases ih with h | ⟨j, hj, h1, h2⟩
      · exact .inl h
      · exact .inr ⟨j, by omega, h1, h2⟩
end Go.Proofs.Ytbohhjhehjkliaa.Plain
