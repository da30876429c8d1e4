/- Sizes that the row's arguments have; small plain laws. -/
import Derived.Test.YtbohhjhehjkliaaPa
import Derived.Test.YtbohhjhehjkliaaPe
namespace Go.Proofs.Ytbohhjhehjkliaa.Pure
open Go.RowKit Go.Proofs.Ytbohhjhehjkliaa.T Go.Proofs.YtbohhjhehjkliaaW.PrintWords Go.Proofs.YtbohhjhehjkliaaW.PrintLast Go.Proofs.Ytbohhjhehjkliaa.Plain
def OkB (l : List Int) : Prop := (∀ b ∈ l, (Lit.int .u8 b).wf = true) ∧ l.length * 1 ≤ 140737488351232 ∧ l.length ≤ maxLen
def OkL (l : List (List Int)) : Prop := (∀ x ∈ l, OkB x) ∧ l.length * 24 ≤ 140737488351232 ∧ l.length ≤ maxLen
def OkE (y : Int × List Int) : Prop := (Lit.int .i64 y.1).wf = true ∧ OkB y.2
def OkQ (l : List S41) : Prop := (∀ p ∈ l, OkE (p.f0, p.f1)) ∧ l.length * 32 ≤ 140737488351232 ∧ l.length ≤ maxLen
def OkS (x : List (List Int) × List S41) : Prop := OkL x.1 ∧ OkQ x.2
def OkK (l : List Bool) : Prop := (∀ b ∈ l, True) ∧ l.length * 1 ≤ 140737488351232 ∧ l.length ≤ maxLen
theorem rd_map62 (l : List S41) (j : Nat) (h : j < l.length) : rd_T62 (l.map to62) (j : Int) = to62 (rd_T41 l (j : Int)) := by
  unfold rd_T62 rd_T41
  rw [Int.toNat_natCast, List.getD_eq_getElem?_getD, List.getD_eq_getElem?_getD, List.getElem?_map, List.getElem?_eq_getElem h]
  rfl
end Go.Proofs.Ytbohhjhehjkliaa.Pure
namespace Go.Proofs.Ytbohhjhehjkliaa.Plain
open Go.RowKit Go.Proofs.Ytbohhjhehjkliaa.T Go.Proofs.YtbohhjhehjkliaaW.PrintWords Go.Proofs.YtbohhjhehjkliaaW.PrintLast
theorem padB_eq (b : List Int) (h : b.length ≤ 64) : padB b = b ++ List.replicate (64 - b.length) 0 := by
  apply List.ext_getElem
  · rw [padB_length, List.length_append, List.length_replicate]; omega
  · intro q h1 h2
    have h3 := padB_get b h q (by rw [padB_length] at h1; exact h1)
    rw [List.getD_eq_getElem?_getD, List.getElem?_eq_getElem h1] at h3
    rw [List.getElem_append]
    split
    · rename_i hq
      rw [List.getD_eq_getElem?_getD, List.getElem?_eq_getElem hq] at h3
      exact h3
    · rename_i hq
      rw [List.getD_eq_getElem?_getD, List.getElem?_eq_none (by omega)] at h3
      rw [List.getElem_replicate]
      exact h3
end Go.Proofs.Ytbohhjhehjkliaa.Plain
