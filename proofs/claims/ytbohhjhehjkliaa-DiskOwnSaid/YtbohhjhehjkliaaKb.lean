/- PutAll from the first sector on: the page's answer is the program's. -/
import Derived.Test.YtbohhjhehjkliaaKa
import Derived.Test.YtbohhjhehjkliaaPb
import Derived.Test.YtbohhjhehjkliaaTx13
namespace Go.Proofs.Ytbohhjhehjkliaa.Plain
open Go.RowKit Go.Proofs.Ytbohhjhehjkliaa.T Go.Proofs.YtbohhjhehjkliaaW.PrintWords Go.Proofs.YtbohhjhehjkliaaW.PrintLast Go.Proofs.YtbohhjhehjkliaaW.PrintMore
def wr41 (d : List Int) (n : Nat) : List S41 := (List.range n).map fun (j : Nat) => (⟨(j : Int), padB (chunk d j)⟩ : S41)
theorem wr41_length (d : List Int) (n : Nat) : (wr41 d n).length = n := by simp [wr41]
theorem wr41_succ (d : List Int) (n : Nat) : wr41 d (n + 1) = wr41 d n ++ [⟨(n : Int), padB (chunk d n)⟩] := by simp [wr41, List.range_succ]
theorem wr41_map (d : List Int) (n : Nat) : (wr41 d n).map to62 = wrs 0 (chunks d n) := by
  apply List.ext_getElem
  · rw [List.length_map, wr41_length, wrs_length, chunks_length]
  · intro j h1 h2
    simp [wr41, wrs, chunks, to62]
theorem chunk_64 (d : List Int) (j : Nat) : (chunk d j).length ≤ 64 := by unfold chunk; rw [List.length_drop, List.length_take]; omega
theorem take_min (d : List Int) (a b : Nat) (h : b = min a d.length) : d.take b = d.take a := by
  subst h
  rcases Nat.le_total a d.length with h | h
  · rw [Nat.min_eq_left h]
  · rw [Nat.min_eq_right h, List.take_of_length_le (Nat.le_refl _), List.take_of_length_le h]
theorem w_a (j : Nat) (h : j ≤ 140737488351232) : wrap64 (64 * (j : Int)) = ((64 * j : Nat) : Int) := by unfold wrap64; omega
theorem w_c (j : Nat) (h : j ≤ 140737488351232) : wrap64 (64 * ((j + 1 : Nat) : Int)) = ((64 * j + 64 : Nat) : Int) := by unfold wrap64; omega
theorem w_d (a b : Nat) : mn (a : Int) (b : Int) = ((min a b : Nat) : Int) := by unfold mn; split <;> omega
theorem w_e (j : Nat) (h : j ≤ 140737488351232) : wrap64 (0 + (j : Int)) = (j : Int) := by unfold wrap64; omega
theorem w_room (a : Nat) (h : a ≤ 2048) : wrap64 ((a : Int) - 0) = (a : Int) := by unfold wrap64; omega
theorem w_full (a : Nat) (h : a ≤ 4096) : wrap64 (4096 - (a : Int)) = 4096 - (a : Int) := by unfold wrap64; omega
theorem w_sum (a n : Nat) (h : a ≤ 4096) (h2 : n ≤ 140737488351232) : wrap64 ((a : Int) + (n : Int)) = (a : Int) + (n : Int) := by unfold wrap64; omega
theorem putall_l0 (P : List (List Int)) (C : List S41) (d : List Int) (hd : d.length ≤ 140737488351232) (n : Nat) (hn : n = (d.length + 63) / 64) (hC : C.length + n ≤ 4096) : ∀ (m j k : Nat), j + m = n → 300000000000000 + m < k → undercroftref03_PutAll.l0 k 0 d n j P (C ++ wr41 d j) = some (P, C ++ wr41 d n, 0)
  | m, j, 0, _, h => by omega
  | 0, j, k + 1, e, _ => by
    rw [undercroftref03_PutAll.l0, if_neg (by omega), show j = n by omega]
  | m + 1, j, k + 1, e, h => by
    have hj : j < n := by omega
    have hch : (d.take (((min (64 * j + 64) d.length : Nat) : Int)).toNat).drop (((64 * j : Nat) : Int)).toNat = chunk d j := by
      unfold chunk
      rw [Int.toNat_natCast, Int.toNat_natCast, take_min d (64 * j + 64) _ rfl]
    rw [undercroftref03_PutAll.l0, if_pos (by omega), w_a j (by omega), wrap_succ j (by omega), w_c j (by omega), w_d, if_pos (by omega), if_pos (by omega), if_pos (by omega), hch]
    refine Option.bind_eq_some_iff.mpr ⟨padB (chunk d j), padded_f _ (chunk_64 d j) k (by omega), ?_⟩
    rw [if_pos (by rw [List.length_append, wr41_length]; omega), w_e j (by omega), List.append_assoc, ← wr41_succ]
    exact putall_l0 P C d hd n hn hC m (j + 1) k (by omega) (by omega)
/-- What PutAll answers, in the page's words. -/
theorem putall_agree (l0 : List (List Int)) (l : List S41) (d : List Int) (hs : Sz l0 l) (hd : d.length ≤ 140737488351232) (k : Nat) (hk : 600000000000000 ≤ k) :
    ∃ (P : List (List Int)) (C : List S41) (e : Int), disk_PutAll.f l0 (l.map to62) 0 d = some (P, C.map to62, e) ∧ undercroftref03_PutAll.f k l0 l 0 d = some (P, C, e) ∧ P.length ≤ 5864062014634 ∧ (∀ x ∈ P, x.length ≤ 140737488351232) ∧ C.length ≤ 4398046510976 + 4398046510976 ∧ ∀ x ∈ C, x.f1.length ≤ 140737488351232 := by
  have hck := check_f l0 l hs.1 hs.2.2.1 k (by omega)
  have hll : (l.map to62).length = l.length := List.length_map _
  rcases checkv_cases l0 (l.map to62) with hv | hv
  · obtain ⟨q1, q2, q3, q4, q5⟩ := check0 hv
    obtain ⟨n, hn⟩ : ∃ n, n = (d.length + 63) / 64 := ⟨_, rfl⟩
    have hdiv := div_a d.length hd
    rw [← hn] at hdiv
    have HD := Aside0.mk hdiv
    clear hdiv
    have hnb : n ≤ 140737488351232 := by omega
    have hr : disk_State_room.f l0 (l.map to62) 0 (n : Int) = some (roomB l0.length 0 n) := room_f (by omega) 0 n
    obtain ⟨k', rfl⟩ : ∃ m, k = m + 1 := ⟨k - 1, by omega⟩
    by_cases hroom : n ≤ l0.length
    · have hrb : roomB l0.length 0 (n : Int) = true := decide_eq_true ⟨by omega, by omega, by omega, by omega⟩
      by_cases hfull : l.length + n ≤ 4096
      · refine ⟨l0, l ++ wr41 d n, 0, ?_, ?_, hs.1, hs.2.1, ?_, ?_⟩
        · unfold disk_PutAll.f disk_Check.f
          rw [HD.out, hr, hrb, hv, hll, w_full l.length (by omega)]
          refine Option.bind_eq_some_iff.mpr ⟨0, rfl, ?_⟩
          refine (if_pos rfl).trans ?_
          refine Option.bind_eq_some_iff.mpr ⟨true, rfl, ?_⟩
          refine (if_pos rfl).trans ?_
          refine (if_neg (by omega)).trans ?_
          refine Option.bind_eq_some_iff.mpr ⟨(l0, l.map to62 ++ wrs 0 (chunks d n)), ?_, ?_⟩
          · unfold disk_State_put.f
            rw [if_pos ⟨hv, by omega, by omega, by omega⟩, ← hn]
          · rw [List.map_append, wr41_map]
        · unfold undercroftref03_PutAll.f
          rw [HD.out, hck, hv]
          refine Option.bind_eq_some_iff.mpr ⟨0, rfl, ?_⟩
          refine (if_pos rfl).trans ?_
          refine (if_neg (by omega)).trans ?_
          refine (if_neg (by omega)).trans ?_
          rw [w_room l0.length (by omega), decide_eq_false (by omega), undercroftref03_PutAll.j0, if_neg (by decide), w_sum l.length n (by omega) hnb, if_neg (by omega)]
          refine Option.bind_eq_some_iff.mpr ⟨(l0, l), own_f l0 l hs k' (by omega), ?_⟩
          have := putall_l0 l0 l d hd n hn hfull n 0 k' (by omega) (by omega)
          rw [show wr41 d 0 = [] from rfl, List.append_nil] at this
          exact this
        · rw [List.length_append, wr41_length]; omega
        · intro x hx
          rcases List.mem_append.1 hx with hx | hx
          · exact hs.2.2.2 x hx
          · unfold wr41 at hx
            obtain ⟨j, _, rfl⟩ := List.mem_map.1 hx
            show (padB (chunk d j)).length ≤ _
            rw [padB_length]; omega
      · refine ⟨[], [], 51, ?_, ?_, by simp, by simp, by simp, by simp⟩
        · unfold disk_PutAll.f disk_Check.f
          rw [HD.out, hr, hrb, hv, hll, w_full l.length (by omega)]
          refine Option.bind_eq_some_iff.mpr ⟨0, rfl, ?_⟩
          refine (if_pos rfl).trans ?_
          refine Option.bind_eq_some_iff.mpr ⟨true, rfl, ?_⟩
          refine (if_pos rfl).trans ?_
          exact if_pos (by omega)
        · unfold undercroftref03_PutAll.f
          rw [HD.out, hck, hv]
          refine Option.bind_eq_some_iff.mpr ⟨0, rfl, ?_⟩
          refine (if_pos rfl).trans ?_
          refine (if_neg (by omega)).trans ?_
          refine (if_neg (by omega)).trans ?_
          rw [w_room l0.length (by omega), decide_eq_false (by omega), undercroftref03_PutAll.j0, if_neg (by decide), w_sum l.length n (by omega) hnb, if_pos (by omega)]
    · have hrb : roomB l0.length 0 (n : Int) = false := decide_eq_false (fun h => by omega)
      refine ⟨[], [], 41, ?_, ?_, by simp, by simp, by simp, by simp⟩
      · unfold disk_PutAll.f disk_Check.f
        rw [HD.out, hr, hrb, hv]
        refine Option.bind_eq_some_iff.mpr ⟨0, rfl, ?_⟩
        refine (if_pos rfl).trans ?_
        refine Option.bind_eq_some_iff.mpr ⟨false, rfl, ?_⟩
        exact if_neg (by decide)
      · unfold undercroftref03_PutAll.f
        rw [HD.out, hck, hv]
        refine Option.bind_eq_some_iff.mpr ⟨0, rfl, ?_⟩
        refine (if_pos rfl).trans ?_
        refine (if_neg (by omega)).trans ?_
        refine (if_neg (by omega)).trans ?_
        rw [w_room l0.length (by omega), decide_eq_true (by omega), undercroftref03_PutAll.j0, if_pos rfl]
  · refine ⟨[], [], 9, ?_, ?_, by simp, by simp, by simp, by simp⟩
    · unfold disk_PutAll.f disk_Check.f
      rw [hv]
      refine Option.bind_eq_some_iff.mpr ⟨9, rfl, ?_⟩
      exact if_neg (by decide)
    · unfold undercroftref03_PutAll.f
      rw [hck, hv]
      refine Option.bind_eq_some_iff.mpr ⟨9, rfl, ?_⟩
      exact if_neg (by decide)
end Go.Proofs.Ytbohhjhehjkliaa.Plain
