import Derived.Test.YtbohhjhehjkliaaPd
import Derived.Test.YtbohhjhehjkliaaTx5
namespace Go.Proofs.Ytbohhjhehjkliaa.Plain
open Go.RowKit Go.Proofs.Ytbohhjhehjkliaa.T Go.Proofs.YtbohhjhehjkliaaW.PrintWords Go.Proofs.YtbohhjhehjkliaaW.PrintLast
theorem copyb (l : List Int) (h : l.length < 140737488355328) : undercroftplain_CopyBytes.f l = some l := by
  unfold undercroftplain_CopyBytes.f
  rw [if_pos (by simpa using h), List.nil_append]
theorem copyl0 (l : List (List Int)) (hl : l.length ≤ 5864062014634) (hx : ∀ x ∈ l, x.length < 140737488355328) : ∀ (m i k : Nat), i + m = l.length → m < k → undercroftplain_CopyLists.l0 k l (l.take i) i = some l
  | m, i, 0, _, h => by omega
  | 0, i, k + 1, e, _ => by
    rw [undercroftplain_CopyLists.l0, if_neg (by omega), List.take_of_length_le (by omega)]
  | m + 1, i, k + 1, e, h => by
    have hi : i < l.length := by omega
    have hrd : rd_L1 l (i : Int) = l[i] := by
      unfold rd_L1
      rw [Int.toNat_natCast, List.getD_eq_getElem?_getD, List.getElem?_eq_getElem hi]
      rfl
    have hw : wrap64 ((i : Int) + 1) = ((i + 1 : Nat) : Int) := by unfold wrap64; omega
    rw [undercroftplain_CopyLists.l0, if_pos (by omega), if_pos (by omega), hrd]
    refine Option.bind_eq_some_iff.mpr ⟨l[i], copyb _ (hx _ (List.getElem_mem hi)), ?_⟩
    rw [if_pos (by rw [List.length_take]; omega), hw, ← List.take_succ_eq_append_getElem hi]
    exact copyl0 l hl hx m (i + 1) k (by omega) (by omega)
theorem copyl (l : List (List Int)) (hl : l.length ≤ 5864062014634) (hx : ∀ x ∈ l, x.length < 140737488355328) (k : Nat) (hk : l.length < k) : undercroftplain_CopyLists.f k l = some l := by
  unfold undercroftplain_CopyLists.f
  exact copyl0 l hl hx l.length 0 k (by omega) hk
def to62 (x : S41) : S62 := ⟨x.f0, x.f1⟩
theorem of_l0 (l0 : List (List Int)) (l : List S41) (hl : l.length ≤ 4398046510976) (hx : ∀ x ∈ l, x.f1.length < 140737488355328) : ∀ (m i k : Nat), i + m = l.length → m < k → undercroftlaw03_Of.l0 k i l0 l l0 ((l.take i).map to62) = some (l0, l.map to62)
  | m, i, 0, _, h => by omega
  | 0, i, k + 1, e, _ => by
    rw [undercroftlaw03_Of.l0, if_neg (by omega), List.take_of_length_le (by omega)]
  | m + 1, i, k + 1, e, h => by
    have hi : i < l.length := by omega
    have hrd : rd_T41 l (i : Int) = l[i] := by
      unfold rd_T41
      rw [Int.toNat_natCast, List.getD_eq_getElem?_getD, List.getElem?_eq_getElem hi]
      rfl
    have hw : wrap64 ((i : Int) + 1) = ((i + 1 : Nat) : Int) := by unfold wrap64; omega
    rw [undercroftlaw03_Of.l0, if_pos (by omega), if_pos (by omega), hrd]
    refine Option.bind_eq_some_iff.mpr ⟨l[i].f1, copyb _ (hx _ (List.getElem_mem hi)), ?_⟩
    have e2 : (l.take i).map to62 ++ [(⟨l[i].f0, l[i].f1⟩ : S62)] = (l.take (i + 1)).map to62 := by
      rw [List.take_succ_eq_append_getElem hi, List.map_append]
      rfl
    rw [if_pos (by rw [List.length_map, List.length_take]; omega), hw, e2]
    exact of_l0 l0 l hl hx m (i + 1) k (by omega) (by omega)
theorem of_f (l0 : List (List Int)) (l : List S41) (hl0 : l0.length ≤ 5864062014634) (hx0 : ∀ x ∈ l0, x.length < 140737488355328) (hl : l.length ≤ 4398046510976) (hx : ∀ x ∈ l, x.f1.length < 140737488355328) (k : Nat) (hk : l0.length < k) (hk1 : l.length < k) : undercroftlaw03_Of.f k l0 l = some (l0, l.map to62) := by
  unfold undercroftlaw03_Of.f
  refine Option.bind_eq_some_iff.mpr ⟨l0, copyl l0 hl0 hx0 k hk, ?_⟩
  exact of_l0 l0 l hl hx l.length 0 k (by omega) hk1
end Go.Proofs.Ytbohhjhehjkliaa.Plain
