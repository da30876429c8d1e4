import Derived.Test.YtbohhjhehjkliaaPe
import Derived.Test.YtbohhjhehjkliaaTx6
namespace Go.Proofs.Ytbohhjhehjkliaa.Plain
open Go.RowKit Go.Proofs.Ytbohhjhehjkliaa.T Go.Proofs.YtbohhjhehjkliaaW.PrintWords Go.Proofs.YtbohhjhehjkliaaW.PrintLast
theorem rd_drop {a : List Int} {i : Nat} (h : i < a.length) : a.drop i = rd a (i : Int) :: a.drop (i + 1) := by
  unfold rd
  rw [Int.toNat_natCast, List.getD_eq_getElem?_getD, List.getElem?_eq_getElem h]
  exact List.drop_eq_getElem_cons h
theorem sameD_l0 (a b : List Int) (hab : a.length = b.length) (hl : a.length ≤ 100000) : ∀ (m i k : Nat), i + m = a.length → m < k → undercroftplain_SameBytes.l0 k a b i = some (decide (a.drop i = b.drop i))
  | m, i, 0, _, h => by omega
  | 0, i, k + 1, e, _ => by
    rw [undercroftplain_SameBytes.l0, if_neg (by omega), List.drop_of_length_le (by omega), List.drop_of_length_le (by omega)]
    rfl
  | m + 1, i, k + 1, e, h => by
    have hw : wrap64 ((i : Int) + 1) = ((i + 1 : Nat) : Int) := by unfold wrap64; omega
    rw [undercroftplain_SameBytes.l0, if_pos (by omega), if_pos (by omega), if_pos (by omega), hw]
    by_cases hq : rd a (i : Int) = rd b (i : Int)
    · rw [if_pos hq, sameD_l0 a b hab hl m (i + 1) k (by omega) (by omega), rd_drop (a := a) (i := i) (by omega), rd_drop (a := b) (i := i) (by omega), hq]
      simp
    · rw [if_neg hq, decide_eq_false]
      intro hd
      rw [rd_drop (a := a) (i := i) (by omega), rd_drop (a := b) (i := i) (by omega)] at hd
      injection hd with h1 _
      exact hq h1
theorem sameD (a b : List Int) (hl : a.length ≤ 100000) (k : Nat) (hk : a.length < k) : undercroftplain_SameBytes.f k a b = some (decide (a = b)) := by
  unfold undercroftplain_SameBytes.f
  by_cases h : a.length = b.length
  · rw [if_pos (by omega)]
    have := sameD_l0 a b h hl a.length 0 k (by omega) hk
    simpa using this
  · rw [if_neg (by omega), decide_eq_false (fun e => h (by rw [e]))]
end Go.Proofs.Ytbohhjhehjkliaa.Plain
