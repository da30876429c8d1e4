import Derived.Test.YtbohhjhehjkliaaPa
import Derived.Test.YtbohhjhehjkliaaTx4
namespace Go.Proofs.Ytbohhjhehjkliaa.Plain
open Go.RowKit Go.Proofs.Ytbohhjhehjkliaa.T Go.Proofs.YtbohhjhehjkliaaW.PrintWords Go.Proofs.YtbohhjhehjkliaaW.PrintLast
theorem mod_in (a : Int) (n : Nat) (hn : 1 ≤ n) (hn2 : n ≤ 2048) : ∃ s : Nat, s < n ∧ Int.tmod (wrap64 (Int.tmod a n + n)) n = (s : Int) := by
  have h1 := Int.tmod_lt_of_pos a (show (0 : Int) < n by omega)
  have h2 := Int.lt_tmod_of_pos a (show (0 : Int) < n by omega)
  have hw : wrap64 (Int.tmod a n + n) = Int.tmod a n + n := by unfold wrap64; omega
  rw [hw]
  have h3 := Int.tmod_lt_of_pos (Int.tmod a n + n) (show (0 : Int) < n by omega)
  have h4 := Int.tmod_nonneg (n : Int) (show 0 ≤ Int.tmod a n + n by omega)
  exact ⟨(Int.tmod (Int.tmod a n + n) n).toNat, by omega, by omega⟩
theorem n_in (a : Int) : ∃ n : Nat, 1 ≤ n ∧ n ≤ 20 ∧ wrap64 (1 + Int.tmod (wrap64 (Int.tmod a 20 + 20)) 20) = (n : Int) := by
  obtain ⟨s, hs, e⟩ := mod_in a 20 (by omega) (by omega)
  have e' : Int.tmod (wrap64 (Int.tmod a 20 + 20)) 20 = (s : Int) := e
  exact ⟨s + 1, by omega, by omega, by rw [e']; unfold wrap64; omega⟩
theorem div_a (L : Nat) (h : L ≤ 140737488351232) : wrap64 (Int.tdiv (wrap64 (wrap64 ((L : Int) + 64) - 1)) 64) = (((L + 63) / 64 : Nat) : Int) := by
  have e1 : wrap64 (wrap64 ((L : Int) + 64) - 1) = (L : Int) + 63 := by unfold wrap64; omega
  rw [e1, Int.tdiv_eq_ediv_of_nonneg (by omega)]
  unfold wrap64
  omega
theorem div_b (L : Nat) (h : L ≤ 140737488351232) : wrap64 (Int.tdiv (wrap64 ((L : Int) + 63)) 64) = (((L + 63) / 64 : Nat) : Int) := by
  have e1 : wrap64 ((L : Int) + 63) = (L : Int) + 63 := by unfold wrap64; omega
  rw [e1, Int.tdiv_eq_ediv_of_nonneg (by omega)]
  unfold wrap64
  omega
theorem new_l0 (n : Nat) (hn : n ≤ 2048) : ∀ (m j k : Nat), j + m = n → m < k → disk_New.l0 k n j (List.replicate j (List.replicate 64 0)) = some (List.replicate n (List.replicate 64 0), [], 0)
  | m, j, 0, _, h => by omega
  | 0, j, k + 1, e, _ => by
    rw [disk_New.l0, if_neg (by omega), show j = n by omega]
  | m + 1, j, k + 1, e, h => by
    have hw : wrap64 ((j : Int) + 1) = ((j + 1 : Nat) : Int) := by unfold wrap64; omega
    rw [disk_New.l0, if_pos (by omega), if_pos (by decide), if_pos (by rw [List.length_replicate]; omega), hw, ← List.replicate_succ']
    exact new_l0 n hn m (j + 1) k (by omega) (by omega)
theorem new_f (n k : Nat) (h1 : 1 ≤ n) (h2 : n ≤ 2048) (hk : n + 1 < k) : disk_New.f k n = some (List.replicate n (List.replicate 64 0), [], 0) := by
  obtain ⟨k, rfl⟩ : ∃ m, k = m + 1 := ⟨k - 1, by omega⟩
  unfold disk_New.f
  rw [if_neg (by omega), disk_New.j0, decide_eq_false (by omega), if_neg (by decide)]
  exact new_l0 n h2 n 0 k (by omega) (by omega)
end Go.Proofs.Ytbohhjhehjkliaa.Plain
