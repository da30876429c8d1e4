/- The page's answers are the program's: Check, Own, padded, PutAll; and Alike's answer. -/
import Derived.Test.YtbohhjhehjkliaaPj
import Derived.Test.YtbohhjhehjkliaaTx8
import Derived.Test.YtbohhjhehjkliaaTx11
namespace Go.Proofs.Ytbohhjhehjkliaa.Plain
open Go.RowKit Go.Proofs.Ytbohhjhehjkliaa.T Go.Proofs.YtbohhjhehjkliaaW.PrintWords Go.Proofs.YtbohhjhehjkliaaW.PrintLast Go.Proofs.YtbohhjhehjkliaaW.PrintMore
/-- Sizes that fit a machine. -/
def Sz (l0 : List (List Int)) (l : List S41) : Prop := l0.length ≤ 5864062014634 ∧ (∀ x ∈ l0, x.length ≤ 140737488351232) ∧ l.length ≤ 4398046510976 ∧ ∀ x ∈ l, x.f1.length ≤ 140737488351232
theorem rd_L1_nat (l : List (List Int)) (i : Nat) (h : i < l.length) : rd_L1 l (i : Int) = l[i] := by
  unfold rd_L1
  rw [Int.toNat_natCast, List.getD_eq_getElem?_getD, List.getElem?_eq_getElem h]
  rfl
theorem rd_T41_nat (l : List S41) (i : Nat) (h : i < l.length) : rd_T41 l (i : Int) = l[i] := by
  unfold rd_T41
  rw [Int.toNat_natCast, List.getD_eq_getElem?_getD, List.getElem?_eq_getElem h]
  rfl
theorem wrap_succ (i : Nat) (h : i ≤ 140737488351232) : wrap64 ((i : Int) + 1) = ((i + 1 : Nat) : Int) := by unfold wrap64; omega
theorem check_l1 (l0 : List (List Int)) (l : List S41) (hl : l.length ≤ 4398046510976) : ∀ (m i k : Nat), i + m = l.length → m < k → undercroftref03_Check.l1 k i l0 l = some (if ((l.drop i).map to62).any (wbad l0.length) = true then 9 else 0)
  | m, i, 0, _, h => by omega
  | 0, i, k + 1, e, _ => by
    rw [undercroftref03_Check.l1, if_neg (by omega), List.drop_of_length_le (by omega)]
    rfl
  | m + 1, i, k + 1, e, h => by
    have hi : i < l.length := by omega
    rw [undercroftref03_Check.l1, if_pos (by omega), if_pos (by omega), rd_T41_nat l i hi, wrap_succ i (by omega), List.drop_eq_getElem_cons hi, List.map_cons, List.any_cons, check_l1 l0 l hl m (i + 1) k (by omega) (by omega)]
    by_cases c1 : l[i].f0 < 0
    · have e1 : wbad l0.length (to62 l[i]) = true := by unfold wbad to62; simp [c1]
      rw [if_pos c1, e1]
      rfl
    · rw [if_neg c1]
      by_cases c2 : l[i].f0 ≥ (l0.length : Int)
      · have e1 : wbad l0.length (to62 l[i]) = true := by unfold wbad to62; simp [c2]
        rw [if_pos c2, e1]
        rfl
      · rw [if_neg c2]
        by_cases c3 : (l[i].f1.length : Int) = 64
        · have e1 : wbad l0.length (to62 l[i]) = false := by
            unfold wbad to62 odd
            simp
            omega
          rw [if_pos c3, e1, Bool.false_or]
        · have e1 : wbad l0.length (to62 l[i]) = true := by
            unfold wbad to62 odd
            simp
            omega
          rw [if_neg c3, e1]
          rfl
theorem check_l0 (l0 : List (List Int)) (l : List S41) (h0 : l0.length ≤ 5864062014634) (hl : l.length ≤ 4398046510976) : ∀ (m i k : Nat), i + m = l0.length → m + l.length + 1 < k → undercroftref03_Check.l0 k i l0 l = some (if (l0.drop i).any odd = true ∨ (l.map to62).any (wbad l0.length) = true then 9 else 0)
  | m, i, 0, _, h => by omega
  | 0, i, k + 1, e, h => by
    rw [undercroftref03_Check.l0, if_neg (by omega), List.drop_of_length_le (by omega)]
    have := check_l1 l0 l hl l.length 0 k (by omega) (by omega)
    rw [List.drop_zero] at this
    rw [show (((0 : Nat) : Int)) = 0 from rfl] at this
    rw [this]
    congr 1
    by_cases hq : (l.map to62).any (wbad l0.length) = true
    · rw [if_pos hq, if_pos (.inr hq)]
    · rw [if_neg hq, if_neg (by simp only [not_or]; exact ⟨by simp, hq⟩)]
  | m + 1, i, k + 1, e, h => by
    have hi : i < l0.length := by omega
    rw [undercroftref03_Check.l0, if_pos (by omega), if_pos (by omega), rd_L1_nat l0 i hi, wrap_succ i (by omega), List.drop_eq_getElem_cons hi, List.any_cons, check_l0 l0 l h0 hl m (i + 1) k (by omega) (by omega)]
    by_cases c3 : (l0[i].length : Int) = 64
    · have e1 : odd l0[i] = false := by unfold odd; rw [c3]; rfl
      rw [if_pos c3, e1, Bool.false_or]
    · have e1 : odd l0[i] = true := by unfold odd; simp; omega
      rw [if_neg c3, if_pos (.inl (by rw [e1]; rfl))]
theorem check_f (l0 : List (List Int)) (l : List S41) (h0 : l0.length ≤ 5864062014634) (hl : l.length ≤ 4398046510976) (k : Nat) (hk : 300000000000000 ≤ k) : undercroftref03_Check.f k l0 l = some (disk_Check.v l0 (l.map to62)) := by
  obtain ⟨k, rfl⟩ : ∃ m, k = m + 1 := ⟨k - 1, by omega⟩
  have hll : (l.map to62).length = l.length := List.length_map _
  unfold undercroftref03_Check.f disk_Check.v
  rw [hll]
  by_cases c1 : (l0.length : Int) < 1
  · rw [if_pos c1, undercroftref03_Check.j0, if_pos rfl, if_pos (.inl c1)]
  · rw [if_neg c1]
    by_cases c2 : (l0.length : Int) > 2048
    · rw [if_pos c2, undercroftref03_Check.j0, if_pos rfl, if_pos (.inr (.inl c2))]
    · rw [if_neg c2, undercroftref03_Check.j0]
      by_cases c3 : (l.length : Int) > 4096
      · rw [decide_eq_true c3, if_pos rfl, if_pos (.inr (.inr (.inl c3)))]
      · have := check_l0 l0 l h0 hl l0.length 0 k (by omega) (by omega)
        rw [List.drop_zero, show (((0 : Nat) : Int)) = 0 from rfl] at this
        rw [decide_eq_false c3, if_neg (by decide), this]
        congr 1
        by_cases hq : l0.any odd = true ∨ (l.map to62).any (wbad l0.length) = true
        · rw [if_pos hq, if_pos (.inr (.inr (.inr hq)))]
        · rw [if_neg hq, if_neg (by simp only [not_or] at hq ⊢; exact ⟨c1, c2, c3, hq.1, hq.2⟩)]
theorem copied_f (l : List Int) (h : l.length ≤ 140737488351232) : undercroftref02_Copied.f l = some l := by
  unfold undercroftref02_Copied.f
  rw [if_pos (by simp; omega), List.nil_append]
theorem own_l1 (l0 : List (List Int)) (l : List S41) (P : List (List Int)) (hl : l.length ≤ 4398046510976) (hx : ∀ x ∈ l, x.f1.length ≤ 140737488351232) : ∀ (m i k : Nat), i + m = l.length → m < k → undercroftref03_Own.l1 k i l0 l P (l.take i) = some (P, l)
  | m, i, 0, _, h => by omega
  | 0, i, k + 1, e, _ => by
    rw [undercroftref03_Own.l1, if_neg (by omega), List.take_of_length_le (by omega)]
  | m + 1, i, k + 1, e, h => by
    have hi : i < l.length := by omega
    rw [undercroftref03_Own.l1, if_pos (by omega), if_pos (by omega), rd_T41_nat l i hi]
    refine Option.bind_eq_some_iff.mpr ⟨l[i].f1, copied_f _ (hx _ (List.getElem_mem hi)), ?_⟩
    rw [if_pos (by rw [List.length_take]; omega), wrap_succ i (by omega), show (⟨l[i].f0, l[i].f1⟩ : S41) = l[i] from rfl, ← List.take_succ_eq_append_getElem hi]
    exact own_l1 l0 l P hl hx m (i + 1) k (by omega) (by omega)
theorem own_l0 (l0 : List (List Int)) (l : List S41) (hs : Sz l0 l) : ∀ (m i k : Nat), i + m = l0.length → m + l.length + 1 < k → undercroftref03_Own.l0 k i l0 l (l0.take i) = some (l0, l)
  | m, i, 0, _, h => by omega
  | 0, i, k + 1, e, h => by
    rw [undercroftref03_Own.l0, if_neg (by omega), List.take_of_length_le (by omega)]
    exact own_l1 l0 l l0 hs.2.2.1 hs.2.2.2 l.length 0 k (by omega) (by omega)
  | m + 1, i, k + 1, e, h => by
    have hi : i < l0.length := by omega
    have h0 := hs.1
    rw [undercroftref03_Own.l0, if_pos (by omega), if_pos (by omega), rd_L1_nat l0 i hi]
    refine Option.bind_eq_some_iff.mpr ⟨l0[i], copied_f _ (hs.2.1 _ (List.getElem_mem hi)), ?_⟩
    rw [if_pos (by rw [List.length_take]; omega), wrap_succ i (by omega), ← List.take_succ_eq_append_getElem hi]
    exact own_l0 l0 l hs m (i + 1) k (by omega) (by omega)
theorem own_f (l0 : List (List Int)) (l : List S41) (hs : Sz l0 l) (k : Nat) (hk : 300000000000000 ≤ k) : undercroftref03_Own.f k l0 l = some (l0, l) := by
  unfold undercroftref03_Own.f
  have h0 := hs.1
  have h1 := hs.2.2.1
  exact own_l0 l0 l hs l0.length 0 k (by omega) (by omega)
/-- The sector's octets while the first i are there. -/
theorem padded_l0 (b : List Int) (hb : b.length ≤ 64) : ∀ (m i k : Nat), i + m = b.length → m < k → undercroftref03_padded.l0 k b (b.take i ++ List.replicate (64 - i) 0) i = some (padB b)
  | m, i, 0, _, h => by omega
  | 0, i, k + 1, e, _ => by
    rw [undercroftref03_padded.l0, if_neg (by omega), List.take_of_length_le (by omega), padB_eq b hb, show i = b.length by omega]
  | m + 1, i, k + 1, e, h => by
    have hi : i < b.length := by omega
    have hrd : rd b (i : Int) = b[i] := by
      unfold rd
      rw [Int.toNat_natCast, List.getD_eq_getElem?_getD, List.getElem?_eq_getElem hi]
      rfl
    have hset : (b.take i ++ List.replicate (64 - i) 0).set (i : Int).toNat (rd b (i : Int)) = b.take (i + 1) ++ List.replicate (64 - (i + 1)) 0 := by
      rw [hrd, Int.toNat_natCast, List.take_succ_eq_append_getElem hi, show 64 - i = (64 - (i + 1)) + 1 by omega, List.replicate_succ, List.set_append_right _ _ (by rw [List.length_take]; omega), List.length_take, show i - min i b.length = 0 by omega, List.set_cons_zero, List.append_assoc]
      rfl
    rw [undercroftref03_padded.l0, if_pos (by omega), if_pos (by omega), if_pos (by rw [List.length_append, List.length_take, List.length_replicate]; omega), hset, wrap_succ i (by omega)]
    exact padded_l0 b hb m (i + 1) k (by omega) (by omega)
theorem padded_f (b : List Int) (hb : b.length ≤ 64) (k : Nat) (hk : 300000000000000 ≤ k) : undercroftref03_padded.f k b = some (padB b) := by
  unfold undercroftref03_padded.f
  rw [if_pos (by decide)]
  have := padded_l0 b hb b.length 0 k (by omega) (by omega)
  rw [List.take_zero, List.nil_append] at this
  exact this
/-- SameBytes of a list and itself, however long. -/
theorem same_l0' (l : List Int) (hl : l.length ≤ 140737488351232) : ∀ (m i k : Nat), i + m = l.length → m < k → undercroftplain_SameBytes.l0 k l l i = some true
  | m, i, 0, _, h => by omega
  | 0, i, k + 1, e, _ => by rw [undercroftplain_SameBytes.l0, if_neg (by omega)]
  | m + 1, i, k + 1, e, h => by
    rw [undercroftplain_SameBytes.l0, if_pos (by omega), if_pos (by omega), if_pos (by omega), if_pos rfl, wrap_succ i (by omega)]
    exact same_l0' l hl m (i + 1) k (by omega) (by omega)
theorem same_any (l : List Int) (hl : l.length ≤ 140737488351232) (k : Nat) (hk : 140737488351232 < k) : undercroftplain_SameBytes.f k l l = some true := by
  unfold undercroftplain_SameBytes.f
  rw [if_pos rfl]
  exact same_l0' l hl l.length 0 k (by omega) (by omega)
theorem samel_l0 (l : List (List Int)) (hl : l.length ≤ 5864062014634) (hx : ∀ x ∈ l, x.length ≤ 140737488351232) : ∀ (m i k : Nat), i + m = l.length → m + 140737488351232 < k → undercroftplain_SameLists.l0 k l l i = some true
  | m, i, 0, _, h => by omega
  | 0, i, k + 1, e, _ => by rw [undercroftplain_SameLists.l0, if_neg (by omega)]
  | m + 1, i, k + 1, e, h => by
    have hi : i < l.length := by omega
    rw [undercroftplain_SameLists.l0, if_pos (by omega), if_pos (by omega), if_pos (by omega), rd_L1_nat l i hi]
    refine Option.bind_eq_some_iff.mpr ⟨true, same_any _ (hx _ (List.getElem_mem hi)) k (by omega), ?_⟩
    rw [if_pos rfl, wrap_succ i (by omega)]
    exact samel_l0 l hl hx m (i + 1) k (by omega) (by omega)
theorem alike_l0 (P : List (List Int)) (C : List S41) (hl : C.length ≤ 4398046510976 + 4398046510976) (hx : ∀ x ∈ C, x.f1.length ≤ 140737488351232) : ∀ (m i k : Nat), i + m = C.length → m + 140737488351232 < k → undercroftlaw03_Alike.l0 k i P (C.map to62) P C = some 0
  | m, i, 0, _, h => by omega
  | 0, i, k + 1, e, _ => by rw [undercroftlaw03_Alike.l0, if_neg (by rw [List.length_map]; omega)]
  | m + 1, i, k + 1, e, h => by
    have hi : i < C.length := by omega
    rw [undercroftlaw03_Alike.l0, if_pos (by rw [List.length_map]; omega), if_pos (by omega), if_pos (by omega), Pure.rd_map62 C i hi, rd_T41_nat C i hi, if_pos (show (to62 C[i]).f0 = C[i].f0 from rfl)]
    refine Option.bind_eq_some_iff.mpr ⟨true, same_any _ (hx _ (List.getElem_mem hi)) k (by omega), ?_⟩
    rw [if_pos rfl, wrap_succ i (by omega)]
    exact alike_l0 P C hl hx m (i + 1) k (by omega) (by omega)
theorem alike_f (P : List (List Int)) (C : List S41) (h0 : P.length ≤ 5864062014634) (h1 : ∀ x ∈ P, x.length ≤ 140737488351232) (hl : C.length ≤ 4398046510976 + 4398046510976) (hx : ∀ x ∈ C, x.f1.length ≤ 140737488351232) (k : Nat) (hk : 300000000000000 ≤ k) : undercroftlaw03_Alike.f k P (C.map to62) P C = some 0 := by
  unfold undercroftlaw03_Alike.f
  refine Option.bind_eq_some_iff.mpr ⟨true, ?_, ?_⟩
  · unfold undercroftplain_SameLists.f
    rw [if_pos rfl]
    exact samel_l0 P h0 h1 P.length 0 k (by omega) (by omega)
  · obtain ⟨k, rfl⟩ : ∃ m, k = m + 1 := ⟨k - 1, by omega⟩
    rw [if_pos rfl, undercroftlaw03_Alike.j0, if_neg (by rw [List.length_map]; simp)]
    exact alike_l0 P C hl hx C.length 0 k (by omega) (by omega)
end Go.Proofs.Ytbohhjhehjkliaa.Plain
