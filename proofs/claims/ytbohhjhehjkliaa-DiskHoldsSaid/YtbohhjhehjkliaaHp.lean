/- DiskHolds: what the puts leave, in plain lists. -/
import Derived.Test.YtbohhjhehjkliaaPc
import Derived.Test.YtbohhjhehjkliaaPi
import Derived.Test.YtbohhjhehjkliaaTx9
namespace Go.Proofs.Ytbohhjhehjkliaa.Plain
open Go.RowKit Go.Proofs.Ytbohhjhehjkliaa.T Go.Proofs.YtbohhjhehjkliaaW.PrintWords Go.Proofs.YtbohhjhehjkliaaW.PrintLast
/-- Between two puts: what the cache and 'last' hold. -/
structure PInv (n : Nat) (C : List S62) (L : List (List Int)) (i : Nat) : Prop where
  cl : C.length ≤ i
  ll : L.length = n
  c : ∀ x ∈ C, 0 ≤ x.f0 ∧ x.f0 < n ∧ x.f1.length = 64
  l : ∀ k, k < n → (L.getD k [] = [] ∧ lastN (zs n) C (k : Int) C.length = List.replicate 64 0) ∨ ((L.getD k []).length = 64 ∧ lastN (zs n) C (k : Int) C.length = L.getD k [])
theorem zs_at (n k : Nat) (h : k < n) : rd_L1 (zs n) (k : Int) = List.replicate 64 0 := by
  unfold rd_L1
  rw [Int.toNat_natCast, List.getD_eq_getElem?_getD, List.getElem?_replicate, if_pos h]
  rfl
theorem pinv_start (n : Nat) : PInv n [] (List.replicate n []) 0 where
  cl := Nat.le_refl _
  ll := List.length_replicate
  c := by simp
  l := fun k hk => .inl ⟨by rw [List.getD_eq_getElem?_getD, List.getElem?_replicate, if_pos hk]; rfl, zs_at n k hk⟩
theorem lastN_append (l0 : List (List Int)) (C : List S62) (x : S62) (i : Int) : ∀ m, m ≤ C.length → lastN l0 (C ++ [x]) i m = lastN l0 C i m
  | 0, _ => rfl
  | m + 1, h => by
    have e : rd_T62 (C ++ [x]) (m : Int) = rd_T62 C (m : Int) := by
      unfold rd_T62
      rw [Int.toNat_natCast, List.getD_eq_getElem?_getD, List.getD_eq_getElem?_getD, List.getElem?_append_left (by omega)]
    rw [lastN, lastN, e, lastN_append l0 C x i m (by omega)]
theorem rd_snoc (C : List S62) (x : S62) : rd_T62 (C ++ [x]) (C.length : Int) = x := by
  unfold rd_T62
  rw [Int.toNat_natCast, List.getD_eq_getElem?_getD, List.getElem?_append_right (Nat.le_refl _)]
  simp
theorem padB_eq (b : List Int) (h : b.length ≤ 64) : padB b = b ++ List.replicate (64 - b.length) 0 := by
  apply List.ext_getElem
  · rw [padB_length, List.length_append, List.length_replicate]; omega
  · intro q h1 h2
    have h3 := padB_get b h q (by rw [padB_length] at h1; exact h1)
    rw [List.getD_eq_getElem?_getD, List.getElem?_eq_getElem h1] at h3
    rw [List.getElem_append]
    split
    · rename_i hq
      rw [List.getD_eq_getElem?_getD, List.getElem?_eq_getElem hq] at h3
      exact h3
    · rename_i hq
      rw [List.getD_eq_getElem?_getD, List.getElem?_eq_none (by omega)] at h3
      rw [List.getElem_replicate]
      exact h3
theorem pinv_step {n : Nat} {C : List S62} {L : List (List Int)} {i : Nat} (h : PInv n C L i) (k : Nat) (hk : k < n) (b : List Int) : PInv n (C ++ [⟨(k : Int), padB b⟩]) (L.set k (padB b)) (i + 1) where
  cl := by have := h.cl; rw [List.length_append]; simp; omega
  ll := by rw [List.length_set]; exact h.ll
  c := fun x hx => by
    rcases List.mem_append.1 hx with hx | hx
    · exact h.c x hx
    · rw [List.mem_singleton.1 hx]
      exact ⟨Int.natCast_nonneg k, by show (k : Int) < n; omega, padB_length b⟩
  l := fun j hj => by
    have e : lastN (zs n) (C ++ [⟨(k : Int), padB b⟩]) (j : Int) (C ++ [(⟨(k : Int), padB b⟩ : S62)]).length = if (k : Int) = j then padB b else lastN (zs n) C (j : Int) C.length := by
      rw [List.length_append, List.length_singleton, lastN, rd_snoc, lastN_append _ _ _ _ _ (Nat.le_refl _)]
    rw [e]
    by_cases hkj : k = j
    · subst hkj
      rw [if_pos rfl, List.getD_eq_getElem?_getD, List.getElem?_set, if_pos rfl, if_pos (by rw [h.ll]; exact hk)]
      exact .inr ⟨padB_length b, rfl⟩
    · rw [if_neg (by omega), List.getD_eq_getElem?_getD, List.getElem?_set, if_neg hkj, ← List.getD_eq_getElem?_getD]
      exact h.l j hj
theorem check_inv {n : Nat} (hn1 : 1 ≤ n) (hn : n ≤ 2048) {C : List S62} (hc : C.length ≤ 4096) (hC : ∀ x ∈ C, 0 ≤ x.f0 ∧ x.f0 < n ∧ x.f1.length = 64) : disk_Check.v (zs n) C = 0 := by
  unfold disk_Check.v
  rw [if_neg]
  simp only [not_or, Bool.not_eq_true]
  refine ⟨by simp; omega, by simp; omega, by omega, ?_, ?_⟩
  · rw [List.any_eq_false]
    intro x hx
    rw [List.eq_of_mem_replicate hx]
    unfold odd
    simp
  · rw [List.any_eq_false]
    intro x hx
    obtain ⟨h1, h2, h3⟩ := hC x hx
    unfold wbad odd
    simp
    omega
theorem chunk_one (b : List Int) (h : b.length ≤ 64) : chunks b 1 = [b] := by
  unfold chunks chunk
  simp [List.take_of_length_le h]
theorem put_f {n : Nat} {C : List S62} {L : List (List Int)} {i : Nat} (h : PInv n C L i) (hn1 : 1 ≤ n) (hn : n ≤ 20) (hi : i < 60) (k : Nat) (hk : k < n) (b : List Int) (hb : b.length ≤ 64) :
    disk_Put.f (zs n) C (k : Int) b = some (zs n, C ++ [⟨(k : Int), padB b⟩], 0) := by
  have hcl := h.cl
  have hc : disk_Check.v (zs n) C = 0 := check_inv hn1 (by omega) (by omega) h.c
  have hlz : (zs n).length = n := List.length_replicate
  unfold disk_Put.f disk_Check.f
  rw [hc, room_f (by rw [hlz]; omega), hlz]
  have hr : roomB n (k : Int) 1 = true := decide_eq_true ⟨by omega, by omega, by omega, by omega⟩
  rw [hr]
  simp only [Option.bind_some, if_true]
  rw [if_neg (by omega), if_neg (by omega)]
  have hput : ∀ x : List Int, 1 ≤ x.length → x.length ≤ 64 → disk_State_put.f (zs n) C (k : Int) x = some (zs n, C ++ [⟨(k : Int), padB x⟩]) := fun x h1 h2 => by
    unfold disk_State_put.f
    rw [if_pos ⟨hc, by omega, by omega, by omega⟩, show (x.length + 63) / 64 = 1 by omega, chunk_one x h2]
    have e : wrs (k : Int) [x] = [⟨(k : Int), padB x⟩] := by
      unfold wrs
      simp
    rw [e]
  by_cases hz : (b.length : Int) = 0
  · rw [if_pos hz, hput [0] (by simp) (by simp)]
    have hb0 : b = [] := List.length_eq_zero_iff.1 (by omega)
    subst hb0
    have e : padB [0] = padB [] := by decide
    rw [e]
    rfl
  · rw [if_neg hz, hput b (by omega) hb]
    rfl
theorem landN_last (l0 : List (List Int)) (C : List S62) (k : Nat) (hk : k < l0.length) (h0 : ∀ x ∈ C, 0 ≤ x.f0) : ∀ m, m ≤ C.length → (landN (fun _ => true) l0 C m).getD k [] = lastN l0 C (k : Int) m
  | 0, _ => by
    rw [landN, lastN]
    unfold rd_L1
    rw [Int.toNat_natCast]
  | m + 1, h => by
    have hm := h0 _ (rd62_mem (l1 := C) (n := m) (by omega))
    rw [landN, if_pos rfl, lastN]
    by_cases e : (rd_T62 C (m : Int)).f0 = k
    · rw [if_pos e, List.getD_eq_getElem?_getD, List.getElem?_set, if_pos (by omega), if_pos (by rw [landN_length]; omega)]
      rfl
    · rw [if_neg e, List.getD_eq_getElem?_getD, List.getElem?_set, if_neg (by omega), ← List.getD_eq_getElem?_getD]
      exact landN_last l0 C k hk h0 m (by omega)
/-- What Flush leaves. -/
def fl (n : Nat) (C : List S62) : List (List Int) := landN (fun _ => true) (zs n) C C.length
theorem fl_facts {n : Nat} {C : List S62} {L : List (List Int)} {i : Nat} (h : PInv n C L i) (hn1 : 1 ≤ n) (hn : n ≤ 20) (hi : i ≤ 60) (keep : List Bool) :
    disk_Flush.f (zs n) C = some (fl n C, [], 0) ∧ disk_Crash.f (fl n C) [] keep = some (fl n C, [], 0) ∧ (fl n C).length = n := by
  have hcl := h.cl
  have hc : disk_Check.v (zs n) C = 0 := check_inv hn1 (by omega) (by omega) h.c
  have hlz : (zs n).length = n := List.length_replicate
  have hcf : disk_Check.v (fl n C) [] = 0 := Pure.check_land (fun _ => true) (zs n) C hc
  refine ⟨?_, ?_, ?_⟩
  · unfold disk_Flush.f landR
    rw [if_pos hc]
    rfl
  · unfold disk_Crash.f landR
    rw [if_pos hcf]
    rfl
  · unfold fl
    rw [landN_length, hlz]
theorem get_facts {n : Nat} {C : List S62} {L : List (List Int)} {i : Nat} (h : PInv n C L i) (hn1 : 1 ≤ n) (hn : n ≤ 20) (hi : i ≤ 60) (k : Nat) (hk : k < n) :
    ∃ W : List Int, W.length = 64 ∧ disk_Get.f (zs n) C (k : Int) = some (W, 0) ∧ disk_Get.f (fl n C) [] (k : Int) = some (W, 0) ∧ ((L.getD k [] = [] ∧ W = List.replicate 64 0) ∨ ((L.getD k []).length = 64 ∧ W = L.getD k [])) := by
  have hcl := h.cl
  have hc : disk_Check.v (zs n) C = 0 := check_inv hn1 (by omega) (by omega) h.c
  have hlz : (zs n).length = n := List.length_replicate
  have hcf : disk_Check.v (fl n C) [] = 0 := Pure.check_land (fun _ => true) (zs n) C hc
  have hfl : (fl n C).length = n := (fl_facts h hn1 hn hi []).2.2
  refine ⟨lastN (zs n) C (k : Int) C.length, lastN_64 (zs_len n) (fun x hx => (h.c x hx).2.2) (by omega) (by rw [hlz]; omega) _ (Nat.le_refl _), ?_, ?_, h.l k hk⟩
  · unfold disk_Get.f
    refine Option.bind_eq_some_iff.mpr ⟨(lastN (zs n) C (k : Int) C.length, 0), ?_, rfl⟩
    unfold disk_GetAll.f
    have hr : roomB (zs n).length (k : Int) 1 = true := decide_eq_true ⟨by omega, by omega, by rw [hlz]; omega, by rw [hlz]; omega⟩
    rw [if_pos hc, if_pos hr]
    have e : getN (zs n) C (k : Int) (1 : Int).toNat = lastN (zs n) C (k : Int) C.length := by
      show [] ++ lastN (zs n) C ((k : Int) + ((0 : Nat) : Int)) C.length = _
      rw [List.nil_append]
      congr 1
    rw [e]
  · rw [get_one (fl n C) hcf k (by rw [hfl]; exact hk)]
    unfold fl
    rw [landN_last (zs n) C k (by rw [hlz]; exact hk) (fun x hx => (h.c x hx).1) _ (Nat.le_refl _)]
end Go.Proofs.Ytbohhjhehjkliaa.Plain
