import Derived.Test.YtbohhjhehjkliaaPc
import Derived.Test.YtbohhjhehjkliaaTx12
namespace Go.Proofs.Ytbohhjhehjkliaa.Pure
open Go.RowKit Go.Proofs.Ytbohhjhehjkliaa.T Go.Proofs.YtbohhjhehjkliaaW.PrintWords Go.Proofs.YtbohhjhehjkliaaW.PrintLast Go.Proofs.Ytbohhjhehjkliaa.Plain
theorem text_l0 (s : Nat) (hs : s ≤ 20) (l all : List Int) (hlen : all.length ≤ 1280) (hz : ∀ p, p < all.length → (p < 64 * s ∨ 64 * s + l.length ≤ p) → all.getD p 0 = 0) : ∀ (m p k : Nat), p + m = all.length → m < k → undercroftlaw03_DiskText.l0 k s l all p = some true
  | m, p, 0, _, h => by omega
  | 0, p, k + 1, e, _ => by rw [undercroftlaw03_DiskText.l0, if_neg (by omega)]
  | m + 1, p, k + 1, e, h => by
    have hw : wrap64 ((p : Int) + 1) = ((p + 1 : Nat) : Int) := by unfold wrap64; omega
    have hw2 : wrap64 ((p : Int) - wrap64 (64 * (s : Int))) = (p : Int) - 64 * s := by unfold wrap64; omega
    have ih := text_l0 s hs l all hlen hz m (p + 1) k (by omega) (by omega)
    have hrd : (p < 64 * s ∨ 64 * s + l.length ≤ p) → rd all p = 0 := fun hq => by
      have := hz p (by omega) hq
      unfold rd
      rw [Int.toNat_natCast]
      exact this
    rw [undercroftlaw03_DiskText.l0, if_pos (by omega), hw2, hw]
    by_cases c1 : (p : Int) - 64 * s < 0
    · rw [if_pos c1, if_pos (by omega), if_pos (hrd (.inl (by omega)))]
      exact ih
    · rw [if_neg c1]
      by_cases c2 : (p : Int) - 64 * s ≥ (l.length : Int)
      · rw [if_pos c2, if_pos (by omega), if_pos (hrd (.inr (by omega)))]
        exact ih
      · rw [if_neg c2]
        exact ih
theorem text_out (k : Nat) (n s : Int) (l2 : List Int) (x : Int) : undercroftlaw03_DiskText.j0 (k + 1) n s l2 0 x 41 true [] [] = some true := by
  rw [undercroftlaw03_DiskText.j0, if_pos rfl]
  rfl
theorem text_in (k n s : Nat) (l2 : List Int) (hk : 3000 ≤ k) (h1 : 1 ≤ n) (h2 : n ≤ 20) (hs : s < n) (hc : s + (l2.length + 63) / 64 ≤ n) : undercroftlaw03_DiskText.j0 (k + 1 + 1) n s l2 0 (((l2.length + 63) / 64 : Nat) : Int) 0 false (zs n) (wrs s (cs l2)) = some true := by
  have z0 : ((0 : Nat) : Int) = 0 := rfl
  have h0 := getall n h1 h2 s l2 hc 0 n (by omega)
  have hb2 := getN_length (l0 := zs n) (l1 := wrs s (cs l2)) (i := ((0 : Nat) : Int)) (zs_len n) (wrs_len _ _) (by omega) n (by rw [List.length_replicate]; omega)
  have hb1 := getN_length (l0 := zs n) (l1 := wrs s (cs l2)) (i := (s : Int)) (zs_len n) (wrs_len _ _) (by omega) ((l2.length + 63) / 64) (by rw [List.length_replicate]; omega)
  have htake : (getN (zs n) (wrs s (cs l2)) s ((l2.length + 63) / 64)).take l2.length = l2 := by
    apply List.ext_getElem
    · rw [List.length_take, hb1]; omega
    · intro p hp1 hp2
      have h := got n s l2 hc s ((l2.length + 63) / 64) hc p (by omega)
      rw [if_pos (by omega), show 64 * s + p - 64 * s = p by omega, List.getD_eq_getElem?_getD, List.getD_eq_getElem?_getD, List.getElem?_eq_getElem (by rw [hb1]; omega), List.getElem?_eq_getElem hp2] at h
      rw [List.getElem_take]
      exact h
  have hall : ∀ p, p < (getN (zs n) (wrs s (cs l2)) ((0 : Nat) : Int) n).length → (p < 64 * s ∨ 64 * s + l2.length ≤ p) → (getN (zs n) (wrs s (cs l2)) ((0 : Nat) : Int) n).getD p 0 = 0 := fun p hp hq => by
    rw [hb2] at hp
    rw [got n s l2 hc 0 n (by omega) p hp]
    split
    · rw [List.getD_eq_getElem?_getD, List.getElem?_eq_none (by omega)]
      rfl
    · rfl
  have hg := getall n h1 h2 s l2 hc s ((l2.length + 63) / 64) hc
  rw [z0] at h0 hb2 hall
  generalize getN (zs n) (wrs s (cs l2)) 0 n = all at *
  generalize getN (zs n) (wrs s (cs l2)) s ((l2.length + 63) / 64) = b at *
  have w1 : wrap64 (64 * (((l2.length + 63) / 64 : Nat) : Int)) = ((64 * ((l2.length + 63) / 64) : Nat) : Int) := by unfold wrap64; omega
  have w2 : wrap64 (64 * (n : Int)) = ((64 * n : Nat) : Int) := by unfold wrap64; omega
  have w3 : wrap64 (wrap64 ((0 : Int) + 0) + 0) = 0 := by unfold wrap64; omega
  have hl0 := text_l0 s (by omega) l2 all (by rw [hb2]; omega) hall all.length 0 k (Nat.zero_add _) (by rw [hb2]; omega)
  rw [z0] at hl0
  rw [undercroftlaw03_DiskText.j0, if_neg (by decide)]
  refine Option.bind_eq_some_iff.mpr ⟨(b, 0), hg, ?_⟩
  refine Option.bind_eq_some_iff.mpr ⟨(all, 0), h0, ?_⟩
  refine Option.bind_eq_some_iff.mpr ⟨0, rfl, ?_⟩
  refine Option.bind_eq_some_iff.mpr ⟨0, rfl, ?_⟩
  refine Option.bind_eq_some_iff.mpr ⟨0, rfl, ?_⟩
  have q1 : (b.length : Int) = wrap64 (64 * (((l2.length + 63) / 64 : Nat) : Int)) := by rw [hb1, w1]
  have q2 : (all.length : Int) = wrap64 (64 * (n : Int)) := by rw [hb2, w2]
  have q3 : (0 : Int) ≤ (l2.length : Int) := by omega
  have q4 : (l2.length : Int) ≤ (b.length : Int) := by rw [hb1]; omega
  have q5 : undercroftplain_SameBytes.f (k + 1) (b.take ((l2.length : Int)).toNat) l2 = some true := by rw [Int.toNat_natCast, htake]; exact same_f l2 (by omega) _ (by omega)
  refine (if_pos w3).trans ?_
  refine (if_pos q1).trans ?_
  refine (if_pos q2).trans ?_
  refine (if_pos q3).trans ?_
  refine (if_pos q4).trans ?_
  refine Option.bind_eq_some_iff.mpr ⟨true, q5, ?_⟩
  rw [Bool.not_true, undercroftlaw03_DiskText.j1, if_neg (by decide)]
  exact hl0
theorem DiskText : undercroftlaw03_DiskText.Pure := by
  intro a0 a1 l2 _ _ _ hb _
  have hb' : l2.length ≤ 140737488351232 := by omega
  obtain ⟨k, hk⟩ : ∃ k : Nat, 3000 ≤ k := ⟨3000, Nat.le_refl _⟩
  refine ⟨k + 1 + 1, ?_⟩
  obtain ⟨n, h1, h2, hn⟩ := n_in a0
  obtain ⟨s, hs, he⟩ := mod_in a1 n h1 (by omega)
  have hws : wrap64 ((s : Int) + (((l2.length + 63) / 64 : Nat) : Int)) = (s : Int) + (((l2.length + 63) / 64 : Nat) : Int) := by unfold wrap64; omega
  have hal : undercroftlaw03_alive.f = some true := rfl
  have hin := text_in k n s l2 hk h1 h2 hs
  have hout := text_out (k + 1) n s l2 (((l2.length + 63) / 64 : Nat) : Int)
  have hp := putall n h1 h2 s hs l2 hb'
  have hnw := new_f n (k + 1 + 1) h1 (by omega) (by omega)
  have hn0 : ¬ ((n : Int) = 0) := by omega
  unfold undercroftlaw03_DiskText.f
  rw [hn, he, div_b _ hb', hws, hal, hnw]
  simp only [Option.bind_some, if_true]
  rw [if_neg hn0, hp]
  unfold undercroftlaw03_num.f
  by_cases hc : s + (l2.length + 63) / 64 ≤ n
  · rw [if_pos hc, decide_eq_false (by omega)]
    simp only [Option.bind_some, if_true]
    exact hin hc
  · rw [if_neg hc, decide_eq_true (by omega)]
    simp only [Option.bind_some, if_true]
    exact hout
end Go.Proofs.Ytbohhjhehjkliaa.Pure
