/- This text proves DiskOldOrNew's plain law: behind a crash each sector is what it was, or what one of its writes had. -/
import Derived.Test.YtbohhjhehjkliaaPh
namespace Go.Proofs.Ytbohhjhehjkliaa.Pure
open Go.RowKit Go.Proofs.Ytbohhjhehjkliaa.T Go.Proofs.YtbohhjhehjkliaaW.PrintWords Go.Proofs.YtbohhjhehjkliaaW.PrintLast Go.Proofs.Ytbohhjhehjkliaa.Plain
def OkB (l : List Int) : Prop := (∀ b ∈ l, (Lit.int .u8 b).wf = true) ∧ l.length * 1 ≤ 140737488351232 ∧ l.length ≤ maxLen
def OkL (l : List (List Int)) : Prop := (∀ x ∈ l, OkB x) ∧ l.length * 24 ≤ 140737488351232 ∧ l.length ≤ maxLen
def OkE (y : Int × List Int) : Prop := (Lit.int .i64 y.1).wf = true ∧ OkB y.2
def OkQ (l : List S41) : Prop := (∀ p ∈ l, OkE (p.f0, p.f1)) ∧ l.length * 32 ≤ 140737488351232 ∧ l.length ≤ maxLen
def OkS (x : List (List Int) × List S41) : Prop := OkL x.1 ∧ OkQ x.2
def OkK (l : List Bool) : Prop := (∀ b ∈ l, True) ∧ l.length * 1 ≤ 140737488351232 ∧ l.length ≤ maxLen
theorem rd_map62 (l : List S41) (j : Nat) (h : j < l.length) : rd_T62 (l.map to62) (j : Int) = to62 (rd_T41 l (j : Int)) := by
  unfold rd_T62 rd_T41
  rw [Int.toNat_natCast, List.getD_eq_getElem?_getD, List.getD_eq_getElem?_getD, List.getElem?_map, List.getElem?_eq_getElem h]
  rfl
theorem check_land (kp : Int → Bool) (l0 : List (List Int)) (C : List S62) (hv : disk_Check.v l0 C = 0) : disk_Check.v (landN kp l0 C C.length) [] = 0 := by
  obtain ⟨q1, q2, q3, q4, q5⟩ := check0 hv
  have h64 := landN_64 (kp := kp) q4 q5 C.length (Nat.le_refl _)
  have hlen := landN_length kp l0 C C.length
  unfold disk_Check.v
  rw [if_neg]
  simp only [not_or, Bool.not_eq_true]
  refine ⟨by omega, by omega, by simp, ?_, by simp⟩
  rw [List.any_eq_false]
  intro x hx
  have := h64 x hx
  unfold odd
  simp
  omega
theorem DiskOldOrNew (x : List (List Int) × List S41) (lk : List Bool) (h : OkS x) (_ : OkK lk) : ∃ k, undercroftlaw03_DiskOldOrNew.f k x.1 x.2 lk = some true := by
  obtain ⟨l0, l⟩ := x
  obtain ⟨⟨hb0, hs0, _⟩, ⟨hb1, hs1, _⟩⟩ := h
  have hof : ∀ k, l0.length < k → l.length < k → undercroftlaw03_Of.f k l0 l = some (l0, l.map to62) := fun k hk hk1 =>
    of_f l0 l (by simp only at hs0; omega) (fun x hx => by have := (hb0 x hx).2.1; omega) (by simp only at hs1; omega) (fun x hx => by have := (hb1 x hx).2.2.1; simp only at this; omega) k hk hk1
  refine ⟨l0.length * (l.length + 70) + 1 + l0.length + l.length, ?_⟩
  have hal : undercroftlaw03_alive.f = some true := rfl
  show undercroftlaw03_DiskOldOrNew.f _ l0 l lk = some true
  unfold undercroftlaw03_DiskOldOrNew.f
  refine Option.bind_eq_some_iff.mpr ⟨true, hal, ?_⟩
  refine (if_pos rfl).trans ?_
  refine Option.bind_eq_some_iff.mpr ⟨(l0, l.map to62), hof _ (by omega) (by omega), ?_⟩
  refine Option.bind_eq_some_iff.mpr ⟨landR (keepB lk) l0 (l.map to62), rfl, ?_⟩
  rcases checkv_cases l0 (l.map to62) with hv | hv
  · have e0 : landR (keepB lk) l0 (l.map to62) = (landN (keepB lk) l0 (l.map to62) (l.map to62).length, [], 0) := by unfold landR; rw [if_pos hv]
    rw [e0]
    refine Option.bind_eq_some_iff.mpr ⟨0, rfl, ?_⟩
    refine (if_pos rfl).trans ?_
    obtain ⟨q1, q2, q3, q4, q5⟩ := check0 hv
    have hlen := landN_length (keepB lk) l0 (l.map to62) (l.map to62).length
    have hc := check_land (keepB lk) l0 (l.map to62) hv
    have hll : (l.map to62).length = l.length := List.length_map _
    have hold := old_l0 l0 l (landN (keepB lk) l0 (l.map to62) (l.map to62).length) hc hlen (by omega) ?_ l0.length 0 (l0.length * (l.length + 70) + 1 + l0.length + l.length) (Nat.zero_add _) (by omega)
    · exact hold
    · intro k hk
      rcases landN_or (keepB lk) l0 (l.map to62) k hk _ (Nat.le_refl _) (fun x hx => (q5 x hx).1) with h1 | ⟨j, h1, h2, h3⟩
      · exact .inl h1
      · have hj : j < l.length := by omega
        rw [rd_map62 l j hj] at h2 h3
        exact .inr ⟨j, hj, h2, h3⟩
  · have e0 : landR (keepB lk) l0 (l.map to62) = ([], [], 9) := by unfold landR; rw [if_neg (by rw [hv]; decide)]
    rw [e0]
    refine Option.bind_eq_some_iff.mpr ⟨9, rfl, ?_⟩
    refine (if_neg (by decide)).trans ?_
    rfl
end Go.Proofs.Ytbohhjhehjkliaa.Pure
