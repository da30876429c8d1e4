/- Put, Get, Crash, Flush: the page's answers are the program's. -/
import Derived.Test.YtbohhjhehjkliaaKa
import Derived.Test.YtbohhjhehjkliaaTx9
import Derived.Test.YtbohhjhehjkliaaTx10
namespace Go.Proofs.Ytbohhjhehjkliaa.Plain
open Go.RowKit Go.Proofs.Ytbohhjhehjkliaa.T Go.Proofs.YtbohhjhehjkliaaW.PrintWords Go.Proofs.YtbohhjhehjkliaaW.PrintLast Go.Proofs.YtbohhjhehjkliaaW.PrintMore
/-- What Alike is asked of. -/
def Fine (P : List (List Int)) (C : List S41) : Prop := P.length ≤ 5864062014634 ∧ (∀ x ∈ P, x.length ≤ 140737488351232) ∧ C.length ≤ 4398046510976 + 4398046510976 ∧ ∀ x ∈ C, x.f1.length ≤ 140737488351232
theorem fine_nil : Fine [] [] := ⟨by simp, by simp, by simp, by simp⟩
theorem chunk_one' (b : List Int) (h : b.length ≤ 64) : chunks b 1 = [b] := by
  unfold chunks chunk
  simp [List.take_of_length_le h]
theorem put_agree (l0 : List (List Int)) (l : List S41) (a1 : Int) (d : List Int) (hs : Sz l0 l) (k : Nat) (hk : 600000000000000 ≤ k) :
    ∃ (P : List (List Int)) (C : List S41) (e : Int), disk_Put.f l0 (l.map to62) a1 d = some (P, C.map to62, e) ∧ undercroftref03_Put.f k l0 l a1 d = some (P, C, e) ∧ Fine P C := by
  have hck := check_f l0 l hs.1 hs.2.2.1 k (by omega)
  have hll : (l.map to62).length = l.length := List.length_map _
  rcases checkv_cases l0 (l.map to62) with hv | hv
  · obtain ⟨q1, q2, q3, q4, q5⟩ := check0 hv
    have hr : disk_State_room.f l0 (l.map to62) a1 1 = some (roomB l0.length a1 1) := room_f (by omega) a1 1
    obtain ⟨k', rfl⟩ : ∃ m, k = m + 1 := ⟨k - 1, by omega⟩
    by_cases hroom : 0 ≤ a1 ∧ a1 < l0.length
    · have hrb : roomB l0.length a1 1 = true := decide_eq_true ⟨by omega, by omega, by omega, by omega⟩
      have hj : ∀ b : Bool, decide (a1 ≥ (l0.length : Int)) = b → undercroftref03_Put.f (k' + 1) l0 l a1 d = undercroftref03_Put.j0 (k' + 1) a1 d b l0 l := fun b hb => by
        unfold undercroftref03_Put.f
        rw [hck, hv]
        refine (Option.bind_some _ _).trans ?_
        refine (if_pos rfl).trans ?_
        rw [if_neg (by omega), hb]
      have hjf := hj false (decide_eq_false (by omega))
      by_cases h5 : (d.length : Int) > 64
      · refine ⟨[], [], 5, ?_, ?_, fine_nil⟩
        · unfold disk_Put.f disk_Check.f
          rw [hv, hr, hrb]
          refine Option.bind_eq_some_iff.mpr ⟨0, rfl, ?_⟩
          refine (if_pos rfl).trans ?_
          refine Option.bind_eq_some_iff.mpr ⟨true, rfl, ?_⟩
          refine (if_pos rfl).trans ?_
          exact if_pos h5
        · rw [hjf, undercroftref03_Put.j0, if_neg (by decide), if_pos h5]
      · by_cases h51 : (l.length : Int) ≥ 4096
        · refine ⟨[], [], 51, ?_, ?_, fine_nil⟩
          · unfold disk_Put.f disk_Check.f
            rw [hv, hr, hrb, hll]
            refine Option.bind_eq_some_iff.mpr ⟨0, rfl, ?_⟩
            refine (if_pos rfl).trans ?_
            refine Option.bind_eq_some_iff.mpr ⟨true, rfl, ?_⟩
            refine (if_pos rfl).trans ?_
            refine (if_neg h5).trans ?_
            exact if_pos h51
          · rw [hjf, undercroftref03_Put.j0, if_neg (by decide), if_neg h5, if_pos h51]
        · have hput : ∀ x : List Int, 1 ≤ x.length → x.length ≤ 64 → disk_State_put.f l0 (l.map to62) a1 x = some (l0, l.map to62 ++ [⟨a1, padB x⟩]) := fun x h1 h2 => by
            unfold disk_State_put.f
            rw [if_pos ⟨hv, by omega, by omega, by omega⟩, show (x.length + 63) / 64 = 1 by omega, chunk_one' x h2]
            have e : wrs a1 [x] = [⟨a1, padB x⟩] := by
              unfold wrs
              simp
            rw [e]
          refine ⟨l0, l ++ [⟨a1, padB d⟩], 0, ?_, ?_, hs.1, hs.2.1, ?_, ?_⟩
          · have em : (l ++ [(⟨a1, padB d⟩ : S41)]).map to62 = l.map to62 ++ [⟨a1, padB d⟩] := by rw [List.map_append]; rfl
            rw [em]
            unfold disk_Put.f disk_Check.f
            rw [hv, hr, hrb, hll]
            refine Option.bind_eq_some_iff.mpr ⟨0, rfl, ?_⟩
            refine (if_pos rfl).trans ?_
            refine Option.bind_eq_some_iff.mpr ⟨true, rfl, ?_⟩
            refine (if_pos rfl).trans ?_
            refine (if_neg h5).trans ?_
            refine (if_neg h51).trans ?_
            by_cases hz : (d.length : Int) = 0
            · refine (if_pos hz).trans ?_
              have hb0 : d = [] := List.length_eq_zero_iff.1 (by omega)
              subst hb0
              have e : padB [0] = padB [] := by decide
              refine Option.bind_eq_some_iff.mpr ⟨(l0, l.map to62 ++ [⟨a1, padB [0]⟩]), hput [0] (by simp) (by simp), ?_⟩
              rw [e]
            · refine (if_neg hz).trans ?_
              exact Option.bind_eq_some_iff.mpr ⟨(l0, l.map to62 ++ [⟨a1, padB d⟩]), hput d (by omega) (by omega), rfl⟩
          · rw [hjf, undercroftref03_Put.j0, if_neg (by decide), if_neg h5, if_neg h51]
            refine Option.bind_eq_some_iff.mpr ⟨(l0, l), own_f l0 l hs k' (by omega), ?_⟩
            refine Option.bind_eq_some_iff.mpr ⟨padB d, padded_f d (by omega) k' (by omega), ?_⟩
            exact if_pos (by show l.length < _; omega)
          · rw [List.length_append]; have := hs.2.2.1; simp; omega
          · intro x hx
            rcases List.mem_append.1 hx with hx | hx
            · exact hs.2.2.2 x hx
            · rw [List.mem_singleton.1 hx]
              show (padB d).length ≤ _
              rw [padB_length]; omega
    · have hrb : roomB l0.length a1 1 = false := decide_eq_false (fun h => hroom (by omega))
      refine ⟨[], [], 41, ?_, ?_, fine_nil⟩
      · unfold disk_Put.f disk_Check.f
        rw [hv, hr, hrb]
        refine Option.bind_eq_some_iff.mpr ⟨0, rfl, ?_⟩
        refine (if_pos rfl).trans ?_
        refine Option.bind_eq_some_iff.mpr ⟨false, rfl, ?_⟩
        exact if_neg (by decide)
      · unfold undercroftref03_Put.f
        rw [hck, hv]
        refine Option.bind_eq_some_iff.mpr ⟨0, rfl, ?_⟩
        refine (if_pos rfl).trans ?_
        by_cases hn : a1 < 0
        · rw [if_pos hn, undercroftref03_Put.j0, if_pos rfl]
        · rw [if_neg hn, decide_eq_true (by omega), undercroftref03_Put.j0, if_pos rfl]
  · refine ⟨[], [], 9, ?_, ?_, fine_nil⟩
    · unfold disk_Put.f disk_Check.f
      rw [hv]
      refine Option.bind_eq_some_iff.mpr ⟨9, rfl, ?_⟩
      exact if_neg (by decide)
    · unfold undercroftref03_Put.f
      rw [hck, hv]
      refine Option.bind_eq_some_iff.mpr ⟨9, rfl, ?_⟩
      exact if_neg (by decide)
theorem last_l0 (l0 : List (List Int)) (l : List S41) (a1 : Int) (h64 : ∀ n, n ≤ (l.map to62).length → (lastN l0 (l.map to62) a1 n).length = 64) (hl : l.length ≤ 4398046510976) : ∀ (m i k : Nat), i + m = l.length → m < k → undercroftref03_last.l0 k a1 (lastN l0 (l.map to62) a1 i) i l0 l = some (lastN l0 (l.map to62) a1 l.length)
  | m, i, 0, _, h => by omega
  | 0, i, k + 1, e, _ => by
    rw [undercroftref03_last.l0, if_neg (by omega), show i = l.length by omega]
    refine Option.bind_eq_some_iff.mpr ⟨lastN l0 (l.map to62) a1 l.length, copied_f _ ?_, rfl⟩
    rw [h64 l.length (by rw [List.length_map]; exact Nat.le_refl _)]; omega
  | m + 1, i, k + 1, e, h => by
    have hi : i < l.length := by omega
    have ih := last_l0 l0 l a1 h64 hl m (i + 1) k (by omega) (by omega)
    rw [lastN, Pure.rd_map62 l i hi] at ih
    rw [undercroftref03_last.l0, if_pos (by omega), if_pos (by omega), wrap_succ i (by omega)]
    by_cases c : (rd_T41 l (i : Int)).f0 = a1
    · rw [if_pos (show (to62 (rd_T41 l (i : Int))).f0 = a1 from c)] at ih
      rw [if_pos c]
      exact ih
    · rw [if_neg (show ¬ (to62 (rd_T41 l (i : Int))).f0 = a1 from c)] at ih
      rw [if_neg c]
      exact ih
theorem get_agree (l0 : List (List Int)) (l : List S41) (a1 : Int) (hs : Sz l0 l) (k : Nat) (hk : 600000000000000 ≤ k) :
    ∃ (g : List Int) (e : Int), disk_Get.f l0 (l.map to62) a1 = some (g, e) ∧ undercroftref03_Get.f k l0 l a1 = some (g, e) ∧ g.length ≤ 64 := by
  have hck := check_f l0 l hs.1 hs.2.2.1 k (by omega)
  have hll : (l.map to62).length = l.length := List.length_map _
  rcases checkv_cases l0 (l.map to62) with hv | hv
  · obtain ⟨q1, q2, q3, q4, q5⟩ := check0 hv
    by_cases hroom : 0 ≤ a1 ∧ a1 < l0.length
    · have hrb : roomB l0.length a1 1 = true := decide_eq_true ⟨by omega, by omega, by omega, by omega⟩
      have h64 : ∀ n, n ≤ (l.map to62).length → (lastN l0 (l.map to62) a1 n).length = 64 := fun n hn => lastN_64 q4 (fun x hx => (q5 x hx).2.2) hroom.1 hroom.2 n hn
      refine ⟨lastN l0 (l.map to62) a1 l.length, 0, ?_, ?_, by rw [h64 l.length (by omega)]; omega⟩
      · unfold disk_Get.f
        refine Option.bind_eq_some_iff.mpr ⟨(lastN l0 (l.map to62) a1 l.length, 0), ?_, rfl⟩
        unfold disk_GetAll.f
        rw [if_pos hv, if_pos hrb]
        have e : getN l0 (l.map to62) a1 (1 : Int).toNat = lastN l0 (l.map to62) a1 l.length := by
          show [] ++ lastN l0 (l.map to62) (a1 + ((0 : Nat) : Int)) (l.map to62).length = _
          rw [List.nil_append, hll, show a1 + ((0 : Nat) : Int) = a1 by omega]
        rw [e]
      · unfold undercroftref03_Get.f
        rw [hck, hv]
        refine Option.bind_eq_some_iff.mpr ⟨0, rfl, ?_⟩
        refine (if_pos rfl).trans ?_
        refine (if_neg (by omega)).trans ?_
        refine (if_neg (by omega)).trans ?_
        refine Option.bind_eq_some_iff.mpr ⟨lastN l0 (l.map to62) a1 l.length, ?_, rfl⟩
        unfold undercroftref03_last.f
        rw [if_pos hroom.1, if_pos hroom.2]
        have := last_l0 l0 l a1 h64 hs.2.2.1 l.length 0 k (by omega) (by have := hs.2.2.1; omega)
        exact this
    · have hrb : roomB l0.length a1 1 = false := decide_eq_false (fun h => hroom (by omega))
      refine ⟨[], 41, ?_, ?_, by simp⟩
      · unfold disk_Get.f
        refine Option.bind_eq_some_iff.mpr ⟨([], 41), ?_, rfl⟩
        unfold disk_GetAll.f
        rw [if_pos hv, if_neg (by rw [hrb]; decide)]
      · unfold undercroftref03_Get.f
        rw [hck, hv]
        refine Option.bind_eq_some_iff.mpr ⟨0, rfl, ?_⟩
        refine (if_pos rfl).trans ?_
        by_cases hn : a1 < 0
        · rw [if_pos hn]
        · rw [if_neg hn, if_pos (by omega)]
  · refine ⟨[], 9, ?_, ?_, by simp⟩
    · unfold disk_Get.f
      refine Option.bind_eq_some_iff.mpr ⟨([], 9), ?_, rfl⟩
      unfold disk_GetAll.f
      rw [if_neg (by rw [hv]; decide)]
    · unfold undercroftref03_Get.f
      rw [hck, hv]
      refine Option.bind_eq_some_iff.mpr ⟨9, rfl, ?_⟩
      exact if_neg (by decide)
theorem land_stop (kp : Int → Bool) (l0 : List (List Int)) (C : List S62) (i : Nat) (h : ∀ n : Nat, i ≤ n → kp (n : Int) = false) : ∀ n, i ≤ n → landN kp l0 C n = landN kp l0 C i
  | 0, hn => by rw [Nat.le_zero.1 hn]
  | n + 1, hn => by
    by_cases e : i = n + 1
    · rw [e]
    · rw [landN, if_neg (by rw [h n (by omega)]; decide), land_stop kp l0 C i h n (by omega)]
theorem crash_l0 (l0 : List (List Int)) (l : List S41) (kp : List Bool) (hs : Sz l0 l) (hv : disk_Check.v l0 (l.map to62) = 0) (hkp : kp.length ≤ 140737488351232) : ∀ (m i k : Nat), i + m = l.length → 2 * m + 2 < k → undercroftref03_Crash.l0 k kp i (landN (keepB kp) l0 (l.map to62) i) l = some (landN (keepB kp) l0 (l.map to62) l.length, [], 0)
  | m, i, 0, _, h => by omega
  | 0, i, k + 1, e, h => by
    obtain ⟨k, rfl⟩ : ∃ m, k = m + 1 := ⟨k - 1, by omega⟩
    rw [undercroftref03_Crash.l0, if_neg (by omega), undercroftref03_Crash.j1, if_neg (by decide), show i = l.length by omega]
  | m + 1, i, k + 1, e, h => by
    have hi : i < l.length := by omega
    obtain ⟨q1, q2, q3, q4, q5⟩ := check0 hv
    obtain ⟨k, rfl⟩ : ∃ m, k = m + 1 := ⟨k - 1, by omega⟩
    have hl := hs.2.2.1
    by_cases hq : i < kp.length
    · have ih := crash_l0 l0 l kp hs hv hkp m (i + 1) k (by omega) (by omega)
      have hmem : to62 l[i] ∈ l.map to62 := List.mem_map.2 ⟨l[i], List.getElem_mem hi, rfl⟩
      have hf := q5 _ hmem
      have hlen := landN_length (keepB kp) l0 (l.map to62) i
      rw [landN, Pure.rd_map62 l i hi, rd_T41_nat l i hi] at ih
      rw [undercroftref03_Crash.l0, if_pos (by omega), decide_eq_true (by omega), undercroftref03_Crash.j1, if_pos rfl, if_pos (by omega), if_pos (by omega)]
      by_cases hb : rdOf false kp (i : Int) = true
      · have hkb : keepB kp (i : Int) = true := by
          unfold keepB
          rw [hb, decide_eq_true (by omega)]
          rfl
        rw [if_pos hkb] at ih
        rw [if_pos hb, if_pos (by omega), rd_T41_nat l i hi]
        refine Option.bind_eq_some_iff.mpr ⟨l[i].f1, copied_f _ (hs.2.2.2 _ (List.getElem_mem hi)), ?_⟩
        have f1 : 0 ≤ l[i].f0 := hf.1
        have f2 : l[i].f0 < (l0.length : Int) := hf.2.1
        rw [if_pos f1, if_pos (by omega), wrap_succ i (by omega)]
        exact ih
      · have hkb : ¬ keepB kp (i : Int) = true := by
          unfold keepB
          rw [Bool.and_eq_true]
          exact fun h => hb h.2
        rw [if_neg hkb] at ih
        rw [if_neg hb, wrap_succ i (by omega)]
        exact ih
    · have hst := land_stop (keepB kp) l0 (l.map to62) i (fun n hn => by unfold keepB; rw [decide_eq_false (by omega)]; rfl) l.length (by omega)
      rw [undercroftref03_Crash.l0, if_pos (by omega), decide_eq_false (by omega), undercroftref03_Crash.j1, if_neg (by decide), hst]
theorem land_fine (kp : Int → Bool) (l0 : List (List Int)) (l : List S41) (hv : disk_Check.v l0 (l.map to62) = 0) : Fine (landN kp l0 (l.map to62) (l.map to62).length) [] := by
  obtain ⟨q1, q2, q3, q4, q5⟩ := check0 hv
  refine ⟨by rw [landN_length]; omega, fun x hx => ?_, by simp, by simp⟩
  have := landN_64 (kp := kp) q4 q5 _ (Nat.le_refl _) x hx
  omega
theorem crash_agree (l0 : List (List Int)) (l : List S41) (kp : List Bool) (hs : Sz l0 l) (hkp : kp.length ≤ 140737488351232) (k : Nat) (hk : 600000000000000 ≤ k) :
    ∃ (P : List (List Int)) (e : Int), disk_Crash.f l0 (l.map to62) kp = some (P, [], e) ∧ undercroftref03_Crash.f k l0 l kp = some (P, [], e) ∧ Fine P [] := by
  have hck := check_f l0 l hs.1 hs.2.2.1 k (by omega)
  have hll : (l.map to62).length = l.length := List.length_map _
  rcases checkv_cases l0 (l.map to62) with hv | hv
  · refine ⟨landN (keepB kp) l0 (l.map to62) (l.map to62).length, 0, ?_, ?_, land_fine _ l0 l hv⟩
    · unfold disk_Crash.f landR
      rw [if_pos hv]
    · unfold undercroftref03_Crash.f
      rw [hck, hv]
      refine Option.bind_eq_some_iff.mpr ⟨0, rfl, ?_⟩
      refine (if_pos rfl).trans ?_
      refine Option.bind_eq_some_iff.mpr ⟨(l0, l), own_f l0 l hs k (by omega), ?_⟩
      have := crash_l0 l0 l kp hs hv hkp l.length 0 k (by omega) (by have := hs.2.2.1; omega)
      rw [hll]
      exact this
  · refine ⟨[], 9, ?_, ?_, fine_nil⟩
    · unfold disk_Crash.f landR
      rw [if_neg (by rw [hv]; decide)]
    · unfold undercroftref03_Crash.f
      rw [hck, hv]
      refine Option.bind_eq_some_iff.mpr ⟨9, rfl, ?_⟩
      exact if_neg (by decide)
theorem land_ext (kp kq : Int → Bool) (l0 : List (List Int)) (C : List S62) : ∀ n, (∀ j : Nat, j < n → kp (j : Int) = kq (j : Int)) → landN kp l0 C n = landN kq l0 C n
  | 0, _ => rfl
  | n + 1, h => by rw [landN, landN, h n (by omega), land_ext kp kq l0 C n (fun j hj => h j (by omega))]
theorem flush_l0 (l0 : List (List Int)) (l : List S41) (hl : l.length ≤ 4398046510976) (r : List (List Int) × List S41 × Int) (K : Nat) (hr : ∀ k, K ≤ k → undercroftref03_Crash.f k l0 l (List.replicate l.length true) = some r) : ∀ (m i k : Nat), i + m = l.length → K + m < k → undercroftref03_Flush.l0 k (List.replicate i true ++ List.replicate (l.length - i) false) i l0 l = some r
  | m, i, 0, _, h => by omega
  | 0, i, k + 1, e, h => by
    have hlen : (List.replicate i true ++ List.replicate (l.length - i) false).length = l.length := by rw [List.length_append, List.length_replicate, List.length_replicate]; omega
    rw [undercroftref03_Flush.l0, if_neg (by rw [hlen]; omega), show i = l.length by omega, Nat.sub_self, List.replicate_zero, List.append_nil, hr k (by omega)]
    rfl
  | m + 1, i, k + 1, e, h => by
    have hlen : (List.replicate i true ++ List.replicate (l.length - i) false).length = l.length := by rw [List.length_append, List.length_replicate, List.length_replicate]; omega
    have hset : (List.replicate i true ++ List.replicate (l.length - i) false).set (i : Int).toNat true = List.replicate (i + 1) true ++ List.replicate (l.length - (i + 1)) false := by
      rw [Int.toNat_natCast, List.set_append_right _ _ (by rw [List.length_replicate]; exact Nat.le_refl _), List.length_replicate, Nat.sub_self, show l.length - i = (l.length - (i + 1)) + 1 by omega, List.replicate_succ, List.set_cons_zero, List.replicate_succ', List.append_assoc]
      rfl
    rw [undercroftref03_Flush.l0, if_pos (by rw [hlen]; omega), if_pos (by omega), hset, wrap_succ i (by omega)]
    exact flush_l0 l0 l hl r K hr m (i + 1) k (by omega) (by omega)
theorem flush_agree (l0 : List (List Int)) (l : List S41) (hs : Sz l0 l) (k : Nat) (hk : 700000000000000 ≤ k) :
    ∃ (P : List (List Int)) (e : Int), disk_Flush.f l0 (l.map to62) = some (P, [], e) ∧ undercroftref03_Flush.f k l0 l = some (P, [], e) ∧ Fine P [] := by
  have hll : (l.map to62).length = l.length := List.length_map _
  have hl := hs.2.2.1
  have hkl : (List.replicate l.length true).length ≤ 140737488351232 := by rw [List.length_replicate]; omega
  have hcr := fun k hk => crash_agree l0 l (List.replicate l.length true) hs hkl k hk
  obtain ⟨P, e, h1, h2, h3⟩ := hcr 600000000000000 (Nat.le_refl _)
  refine ⟨P, e, ?_, ?_, h3⟩
  · rw [← h1]
    unfold disk_Flush.f disk_Crash.f landR
    have : landN (fun _ => true) l0 (l.map to62) (l.map to62).length = landN (keepB (List.replicate l.length true)) l0 (l.map to62) (l.map to62).length := land_ext _ _ l0 _ _ (fun j hj => by
      have hj' : j < l.length := by omega
      unfold keepB rdOf
      rw [List.length_replicate, Int.toNat_natCast, List.getD_eq_getElem?_getD, List.getElem?_replicate, if_pos hj', decide_eq_true (by omega)]
      rfl)
    rw [this]
  · have hr : ∀ k, 600000000000000 ≤ k → undercroftref03_Crash.f k l0 l (List.replicate l.length true) = some (P, [], e) := fun k hk => by
      obtain ⟨P', e', g1, g2, _⟩ := hcr k hk
      rw [g2]
      rw [h1] at g1
      injection g1 with g1
      injection g1 with g1 g3
      injection g3 with _ g4
      rw [g1, g4]
    unfold undercroftref03_Flush.f
    rw [if_pos (by omega), if_pos (by rw [Int.toNat_natCast]; omega), Int.toNat_natCast]
    have := flush_l0 l0 l hl (P, [], e) 600000000000000 hr l.length 0 k (by omega) (by omega)
    rw [List.replicate_zero, List.nil_append, Nat.sub_zero] at this
    exact this
end Go.Proofs.Ytbohhjhehjkliaa.Plain
