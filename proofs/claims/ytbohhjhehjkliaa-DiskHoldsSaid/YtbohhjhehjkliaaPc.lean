import Derived.Test.YtbohhjhehjkliaaPb
import Derived.Test.YtbohhjhehjkliaaTx11
namespace Go.Proofs.Ytbohhjhehjkliaa.Plain
open Go.RowKit Go.Proofs.Ytbohhjhehjkliaa.T Go.Proofs.YtbohhjhehjkliaaW.PrintWords Go.Proofs.YtbohhjhehjkliaaW.PrintLast
theorem same_l0 (l : List Int) (hl : l.length ≤ 100000) : ∀ (m i k : Nat), i + m = l.length → m < k → undercroftplain_SameBytes.l0 k l l i = some true
  | m, i, 0, _, h => by omega
  | 0, i, k + 1, e, _ => by rw [undercroftplain_SameBytes.l0, if_neg (by omega)]
  | m + 1, i, k + 1, e, h => by
    have hw : wrap64 ((i : Int) + 1) = ((i + 1 : Nat) : Int) := by unfold wrap64; omega
    rw [undercroftplain_SameBytes.l0, if_pos (by omega), if_pos (by omega), if_pos (by omega), if_pos rfl, hw]
    exact same_l0 l hl m (i + 1) k (by omega) (by omega)
theorem same_f (l : List Int) (hl : l.length ≤ 100000) (k : Nat) (hk : l.length < k) : undercroftplain_SameBytes.f k l l = some true := by
  unfold undercroftplain_SameBytes.f
  rw [if_pos rfl]
  exact same_l0 l hl l.length 0 k (by omega) hk
abbrev zs (n : Nat) : List (List Int) := List.replicate n (List.replicate 64 0)
abbrev cs (l : List Int) : List (List Int) := chunks l ((l.length + 63) / 64)
theorem putall (n : Nat) (h1 : 1 ≤ n) (h2 : n ≤ 20) (s : Nat) (hs : s < n) (l : List Int) (hl : l.length ≤ 140737488351232) :
    disk_PutAll.f (zs n) [] s l = if s + (l.length + 63) / 64 ≤ n then some (zs n, wrs s (cs l), 0) else some ([], [], 41) := by
  have hc : disk_Check.v (zs n) [] = 0 := check_wrs n h1 (by omega) 0 [] (by omega) (by simp) (by simp)
  unfold disk_PutAll.f disk_Check.f
  rw [hc, div_a l.length hl, room_f (by rw [List.length_replicate]; omega)]
  simp only [Option.bind_some, if_true, List.length_replicate, List.length_nil]
  by_cases h : s + (l.length + 63) / 64 ≤ n
  · have hr : roomB n (s : Int) (((l.length + 63) / 64 : Nat) : Int) = true := decide_eq_true ⟨by omega, by omega, by omega, by omega⟩
    rw [hr, if_pos rfl, if_pos h, if_neg (by unfold wrap64; omega)]
    unfold disk_State_put.f
    rw [if_pos ⟨hc, by omega, by omega, by omega⟩]
    rfl
  · have hr : roomB n (s : Int) (((l.length + 63) / 64 : Nat) : Int) = false := decide_eq_false (fun hh => h (by omega))
    rw [hr, if_neg (by decide), if_neg h]
theorem getall (n : Nat) (h1 : 1 ≤ n) (h2 : n ≤ 20) (s : Nat) (l : List Int) (hl : s + (l.length + 63) / 64 ≤ n) (i k : Nat) (hi : i + k ≤ n) :
    disk_GetAll.f (zs n) (wrs s (cs l)) i k = some (getN (zs n) (wrs s (cs l)) i k, 0) := by
  have hc : disk_Check.v (zs n) (wrs s (cs l)) = 0 := check_wrs n h1 (by omega) s (cs l) (by omega) (by rw [chunks_length]; omega) (by rw [chunks_length]; omega)
  unfold disk_GetAll.f
  have hr : roomB n (i : Int) (k : Int) = true := decide_eq_true ⟨by omega, by omega, by omega, by omega⟩
  rw [if_pos hc, List.length_replicate, if_pos hr, Int.toNat_natCast]
theorem zs_len (n : Nat) : ∀ x ∈ zs n, x.length = 64 := fun x hx => by rw [List.eq_of_mem_replicate hx]; simp
theorem wrs_len (s : Int) (c : List (List Int)) : ∀ x ∈ wrs s c, x.f1.length = 64 := fun x hx => (wrs_mem hx).2.2
/-- What lies at place p of what is got from sector i on. -/
theorem got (n : Nat) (s : Nat) (l : List Int) (hl : s + (l.length + 63) / 64 ≤ n) (i k : Nat) (hi : i + k ≤ n) (p : Nat) (hp : p < 64 * k) :
    (getN (zs n) (wrs s (cs l)) i k).getD p 0 = if 64 * s ≤ 64 * i + p then l.getD (64 * i + p - 64 * s) 0 else 0 := by
  rw [getN_get (zs_len n) (wrs_len _ _) (by omega) k (by rw [List.length_replicate]; omega) p hp]
  have hout : ∀ q, ((i : Int) + ((p / 64 : Nat) : Int) < s ∨ (s : Int) + (cs l).length ≤ (i : Int) + ((p / 64 : Nat) : Int)) → q < 64 → (lastN (zs n) (wrs s (cs l)) ((i : Int) + ((p / 64 : Nat) : Int)) (wrs s (cs l)).length).getD q 0 = 0 := fun q hq _ => by
    rw [last_out _ _ _ _ hq]
    unfold rd_L1
    have e : ((i : Int) + ((p / 64 : Nat) : Int)).toNat = i + p / 64 := by omega
    have e2 : (zs n).getD (i + p / 64) [] = List.replicate 64 0 := by
      have : i + p / 64 < n := by omega
      simp [zs, List.getD_eq_getElem?_getD, List.getElem?_replicate, this]
    rw [e, e2, List.getD_eq_getElem?_getD, List.getElem?_replicate]
    split <;> rfl
  rcases Nat.lt_or_ge (i + p / 64) s with h | h
  · rw [hout _ (.inl (by omega)) (by omega), if_neg (by omega)]
  · rw [if_pos (by omega)]
    rcases Nat.lt_or_ge (i + p / 64) (s + (l.length + 63) / 64) with h' | h'
    · have e : (i : Int) + ((p / 64 : Nat) : Int) = (s : Int) + ((i + p / 64 - s : Nat) : Int) := by omega
      have hj : i + p / 64 - s < (cs l).length := by rw [chunks_length]; omega
      rw [e, last_in _ _ _ _ hj]
      have hcj : (cs l)[i + p / 64 - s] = chunk l (i + p / 64 - s) := by simp [chunks]
      rw [hcj, padB_get _ (by rw [chunk_length]; omega) _ (by omega), chunk_get _ _ _ (by omega)]
      congr 1
      omega
    · rw [hout _ (.inr (by rw [chunks_length]; omega)) (by omega)]
      rw [List.getD_eq_getElem?_getD, List.getElem?_eq_none (by omega)]
      rfl
end Go.Proofs.Ytbohhjhehjkliaa.Plain
