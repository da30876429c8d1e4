/- NetCounts: what the functions answer on packets of one octet each. -/
import Derived.Test.YtgglmibbbjallaaPb
set_option linter.unusedVariables false
set_option linter.unusedSimpArgs false
namespace Go.Proofs.Ytgglmibbbjallaa.Plain
open Go.RowKit Go.Proofs.YtgglmibbbjallaaW.PrintWords Go.Proofs.Ytgglmibbbjallaa.T
def pk (b : Int) : S40 := ⟨1, 2, [b]⟩
def pk8 (b : Int) : S38 := ⟨1, 2, [b]⟩
theorem pk_map (l : List Int) : l.map pk = (l.map pk8).map c := by rw [List.map_map]; rfl
theorem pbad_pk (b : Int) : pbad (pk b) = false := rfl
theorem chk_pk {a : Int} {l : List Int} (h1 : 1 ≤ a) (h2 : a ≤ 20) (h : (l.length : Int) ≤ a) : chkv a ((l.map pk8).map c) = 0 := by
  unfold chkv
  rw [if_neg]
  rw [← pk_map]
  simp only [List.length_map, not_or]
  refine ⟨by omega, by omega, by omega, ?_⟩
  simp only [List.any_map, Bool.not_eq_true, List.any_eq_false]
  intro x _
  simp [pbad_pk]
theorem send_room {a : Int} {l : List Int} (b : Int) (h1 : 1 ≤ a) (h2 : a ≤ 20) (h : (l.length : Int) < a) : ∃ k, net_Send.f k a (l.map pk) 1 2 [b] = some (a, (l ++ [b]).map pk, true, 0) := by
  have e := (send_ev a (l.map pk8) 1 2 [b]).rounds
  obtain ⟨k, e⟩ := e
  refine ⟨k, ?_⟩
  rw [pk_map, e]
  have hs : sendS a (l.map pk8) 1 2 [b] = (a, (l ++ [b]).map pk8, true, 0) := by
    unfold sendS
    rw [if_pos (chk_pk h1 h2 (by omega)), if_pos (by rfl), if_neg (by rw [List.length_map]; omega), List.map_append]
    rfl
  rw [hs, pk_map]
theorem send_full {a : Int} {l : List Int} (b : Int) (h1 : 1 ≤ a) (h2 : a ≤ 20) (h : (l.length : Int) = a) : ∃ k, net_Send.f k a (l.map pk) 1 2 [b] = some (a, l.map pk, false, 0) := by
  have e := (send_ev a (l.map pk8) 1 2 [b]).rounds
  obtain ⟨k, e⟩ := e
  refine ⟨k, ?_⟩
  rw [pk_map, e]
  have hs : sendS a (l.map pk8) 1 2 [b] = (a, l.map pk8, false, 0) := by
    unfold sendS
    rw [if_pos (chk_pk h1 h2 (by omega)), if_pos (by rfl), if_pos (by rw [List.length_map]; omega)]
  rw [hs]
theorem ask_pk {a : Int} {l : List Int} {n : Int} (h1 : 1 ≤ a) (h2 : a ≤ 20) (h : (l.length : Int) ≤ a) (h3 : 0 ≤ n) (h4 : n < l.length) : askS a (l.map pk8) n = 0 := by
  unfold askS
  rw [if_pos (chk_pk h1 h2 h), if_neg (by omega), if_neg (by rw [List.length_map]; omega)]
theorem rd_pk8 {l : List Int} {n : Int} (h3 : 0 ≤ n) (h4 : n < l.length) : rd_T38 (l.map pk8) n = pk8 (rd l n) := by
  obtain ⟨m, rfl⟩ := Int.eq_ofNat_of_zero_le h3
  rw [rd38 _ m (by simp; omega), List.getElem_map, rdI _ m (by omega)]
theorem erase_pk (l : List Int) (n : Nat) : (l.map pk8).eraseIdx n = (l.eraseIdx n).map pk8 := by
  rw [List.eraseIdx_eq_take_drop_succ, List.eraseIdx_eq_take_drop_succ, List.map_append, List.map_take, List.map_drop]
theorem takeS_pk {a : Int} {l : List Int} {n : Int} (h1 : 1 ≤ a) (h2 : a ≤ 20) (h : (l.length : Int) ≤ a) (h3 : 0 ≤ n) (h4 : n < l.length) : takeS a (l.map pk8) n = (a, (l.eraseIdx n.toNat).map pk8, 1, 2, [rd l n], 0) := by
  unfold takeS
  rw [if_pos (ask_pk h1 h2 h h3 h4), rd_pk8 h3 h4, erase_pk]
  rfl
theorem take_pk {a : Int} {l : List Int} {n : Int} (h1 : 1 ≤ a) (h2 : a ≤ 20) (h : (l.length : Int) ≤ a) (h3 : 0 ≤ n) (h4 : n < l.length) : net_Take.f a (l.map pk) n = some (a, (l.eraseIdx n.toNat).map pk, 1, 2, [rd l n], 0) := by
  rw [pk_map, take_f, takeS_pk h1 h2 h h3 h4, pk_map]
theorem drop_pk {a : Int} {l : List Int} {n : Int} (h1 : 1 ≤ a) (h2 : a ≤ 20) (h : (l.length : Int) ≤ a) (h3 : 0 ≤ n) (h4 : n < l.length) : net_Drop.f a (l.map pk) n = some (a, (l.eraseIdx n.toNat).map pk, 0) := by
  unfold net_Drop.f
  rw [take_pk h1 h2 h h3 h4]
  rfl
theorem dbl_room {a : Int} {l : List Int} {n : Int} (h1 : 1 ≤ a) (h2 : a ≤ 20) (h : (l.length : Int) < a) (h3 : 0 ≤ n) (h4 : n < l.length) : ∃ k, net_Double.f k a (l.map pk) n = some (a, (l ++ [rd l n]).map pk, true, 0) := by
  obtain ⟨k, e⟩ := (dbl_ev a (l.map pk8) n).rounds
  refine ⟨k, ?_⟩
  rw [pk_map, e]
  have hs : dblS a (l.map pk8) n = (a, (l ++ [rd l n]).map pk8, true, 0) := by
    unfold dblS
    rw [if_pos (ask_pk h1 h2 (by omega) h3 h4), rd_pk8 h3 h4]
    unfold sendS
    rw [if_pos (chk_pk h1 h2 (by omega)), if_pos (by rfl), if_neg (by rw [List.length_map]; omega), List.map_append]
    rfl
  rw [hs, pk_map]
theorem dbl_full {a : Int} {l : List Int} {n : Int} (h1 : 1 ≤ a) (h2 : a ≤ 20) (h : (l.length : Int) = a) (h3 : 0 ≤ n) (h4 : n < l.length) : ∃ k, net_Double.f k a (l.map pk) n = some (a, l.map pk, false, 0) := by
  obtain ⟨k, e⟩ := (dbl_ev a (l.map pk8) n).rounds
  refine ⟨k, ?_⟩
  rw [pk_map, e]
  have hs : dblS a (l.map pk8) n = (a, l.map pk8, false, 0) := by
    unfold dblS
    rw [if_pos (ask_pk h1 h2 (by omega) h3 h4), rd_pk8 h3 h4]
    unfold sendS
    rw [if_pos (chk_pk h1 h2 (by omega)), if_pos (by rfl), if_pos (by rw [List.length_map]; omega)]
  rw [hs]
theorem modn (x : Int) (n : Nat) (h : 0 < n) (h2 : n ≤ 20) : 0 ≤ (wrap64 (x.tmod n + n)).tmod n ∧ (wrap64 (x.tmod n + n)).tmod n < n := by
  have h0 : (0 : Int) < n := by omega
  have h1 := Int.tmod_lt_of_pos x h0
  have h3 := Int.lt_tmod_of_pos x h0
  have hw : wrap64 (x.tmod n + n) = x.tmod n + n := by unfold wrap64; omega
  rw [hw]
  exact ⟨Int.tmod_nonneg _ (by omega), Int.tmod_lt_of_pos _ h0⟩
theorem mod4 (x : Int) : 0 ≤ (wrap64 (x.tmod 4 + 4)).tmod 4 ∧ (wrap64 (x.tmod 4 + 4)).tmod 4 < 4 := modn x 4 (by decide) (by decide)
theorem limOk (x : Int) : 1 ≤ wrap64 (1 + (wrap64 (x.tmod 20 + 20)).tmod 20) ∧ wrap64 (1 + (wrap64 (x.tmod 20 + 20)).tmod 20) ≤ 20 := by
  have h := modn x 20 (by decide) (by decide)
  simp only [Int.cast_ofNat_Int] at h
  have hw : wrap64 (1 + (wrap64 (x.tmod 20 + 20)).tmod 20) = 1 + (wrap64 (x.tmod 20 + 20)).tmod 20 := by
    have h1 := h.1
    have h2 := h.2
    generalize (wrap64 (x.tmod 20 + 20)).tmod 20 = y at *
    unfold wrap64; omega
  rw [hw]
  omega
theorem erase_two (l : List Int) (n : Int) (h3 : 0 ≤ n) (h4 : n < l.length) : l.take n.toNat ++ l.drop (n + 1).toNat = l.eraseIdx n.toNat := by
  rw [List.eraseIdx_eq_take_drop_succ, show (n + 1).toNat = n.toNat + 1 by omega]
end Go.Proofs.Ytgglmibbbjallaa.Plain
