import Derived.Test.YtbohhjhehjkliaaTx3
namespace Go.Proofs.Ytbohhjhehjkliaa.Plain
open Go.RowKit Go.Proofs.Ytbohhjhehjkliaa.T Go.Proofs.YtbohhjhehjkliaaW.PrintWords Go.Proofs.YtbohhjhehjkliaaW.PrintLast
theorem padB_length (x : List Int) : (padB x).length = 64 := by
  unfold padB
  rw [List.length_append, List.length_take, List.length_drop, List.length_replicate]
  omega
theorem padB_get (x : List Int) (hx : x.length ≤ 64) (q : Nat) (hq : q < 64) : (padB x).getD q 0 = x.getD q 0 := by
  unfold padB
  rw [show min x.length 64 = x.length by omega, List.take_of_length_le (Nat.le_refl _)]
  simp only [List.getD_eq_getElem?_getD]
  rcases Nat.lt_or_ge q x.length with h | h
  · rw [List.getElem?_append_left h]
  · rw [List.getElem?_append_right h, List.getElem?_drop, List.getElem?_eq_none h, List.getElem?_replicate]
    split <;> rfl
theorem chunk_get (l : List Int) (j q : Nat) (hq : q < 64) : (chunk l j).getD q 0 = l.getD (64 * j + q) 0 := by
  unfold chunk
  simp only [List.getD_eq_getElem?_getD, List.getElem?_drop, List.getElem?_take]
  rw [if_pos (by omega)]
theorem wrs_length (i : Int) (xs : List (List Int)) : (wrs i xs).length = xs.length := by simp [wrs]
theorem chunks_length (l : List Int) (k : Nat) : (chunks l k).length = k := by simp [chunks]
theorem wrs_get (i : Int) (xs : List (List Int)) (j : Nat) (hj : j < xs.length) : rd_T62 (wrs i xs) (j : Int) = ⟨i + j, padB xs[j]⟩ := by
  unfold rd_T62 wrs
  rw [Int.toNat_natCast, List.getD_eq_getElem?_getD, List.getElem?_map, List.getElem?_zipIdx]
  simp [hj]
theorem wrs_mem {i : Int} {xs : List (List Int)} {x : S62} (h : x ∈ wrs i xs) : i ≤ x.f0 ∧ x.f0 < i + xs.length ∧ x.f1.length = 64 := by
  unfold wrs at h
  rw [List.mem_map] at h
  obtain ⟨⟨a, n⟩, h1, rfl⟩ := h
  have := List.snd_lt_of_mem_zipIdx h1
  exact ⟨by show i ≤ i + (n : Int); omega, by simp at this ⊢; omega, padB_length _⟩
/-- What was put last into sector i, when chunks lie from sector s on. -/
theorem last_in (l0 : List (List Int)) (s : Int) (cs : List (List Int)) (j : Nat) (hj : j < cs.length) : lastN l0 (wrs s cs) (s + j) (wrs s cs).length = padB cs[j] := by
  rw [lastN_skip (m := j + 1) _ (by rw [wrs_length]; omega) (fun m h1 h2 => by rw [wrs_length] at h2; rw [wrs_get s cs m h2]; show s + m ≠ s + j; omega), lastN, wrs_get s cs j hj, if_pos rfl]
theorem last_out (l0 : List (List Int)) (s : Int) (cs : List (List Int)) (i : Int) (hi : i < s ∨ s + cs.length ≤ i) : lastN l0 (wrs s cs) i (wrs s cs).length = rd_L1 l0 i := by
  rw [lastN_skip (m := 0) _ (Nat.zero_le _) (fun m h1 h2 => by rw [wrs_length] at h2; rw [wrs_get s cs m h2]; show s + m ≠ i; omega)]
  rfl
theorem getN_get {l0 : List (List Int)} {l1 : List S62} {i : Int} (h0 : ∀ x ∈ l0, x.length = 64) (h1 : ∀ x ∈ l1, x.f1.length = 64) (hi0 : 0 ≤ i) : ∀ k : Nat, i + k ≤ l0.length → ∀ p, p < 64 * k → (getN l0 l1 i k).getD p 0 = (lastN l0 l1 (i + (p / 64 : Nat)) l1.length).getD (p % 64) 0
  | 0, _, p, hp => by omega
  | k + 1, h, p, hp => by
    have hl := getN_length h0 h1 hi0 k (by omega)
    rw [getN]
    simp only [List.getD_eq_getElem?_getD]
    rcases Nat.lt_or_ge p (64 * k) with hk | hk
    · rw [List.getElem?_append_left (by omega)]
      have := getN_get h0 h1 hi0 k (by omega) p hk
      simpa only [List.getD_eq_getElem?_getD] using this
    · rw [List.getElem?_append_right (by omega), hl, show p / 64 = k by omega, show p - 64 * k = p % 64 by omega]
theorem check_wrs (n : Nat) (hn1 : 1 ≤ n) (hn : n ≤ 2048) (s : Int) (cs : List (List Int)) (hs0 : 0 ≤ s) (hs : s + cs.length ≤ n) (hc : cs.length ≤ 4096) : disk_Check.v (List.replicate n (List.replicate 64 0)) (wrs s cs) = 0 := by
  unfold disk_Check.v
  rw [if_neg]
  simp only [not_or, Bool.not_eq_true]
  refine ⟨by simp; omega, by simp; omega, by rw [wrs_length]; omega, ?_, ?_⟩
  · rw [List.any_eq_false]
    intro x hx
    rw [List.eq_of_mem_replicate hx]
    unfold odd
    simp
  · rw [List.any_eq_false]
    intro x hx
    obtain ⟨h1, h2, h3⟩ := wrs_mem hx
    unfold wbad odd
    simp
    omega
end Go.Proofs.Ytbohhjhehjkliaa.Plain
