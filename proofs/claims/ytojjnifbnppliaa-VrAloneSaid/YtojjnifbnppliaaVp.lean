/- VrAgrees, the plain side: the state behind some answers, and what a further answer makes of it. -/
import Derived.Test.YtojjnifbnppliaaVo
namespace Go.Proofs.Ytojjnifbnppliaa.T
open Go.RowKit Go.Proofs.YtojjnifbnppliaaW.PrintWords Go.Proofs.YtojjnifbnppliaaW.PrintLast Go.Proofs.YtojjnifbnppliaaW.PrintMore
attribute [local go_sem] max2_int min2_int max_two min_two max_three min_three max_four min_four
set_option linter.unusedVariables false
set_option linter.unusedSimpArgs false
def vaM (H : List Bool) : List Int := H.map (fun b => if b = true then 1 else 0)
def vaT (H : List Bool) : Int := cnt (fun b => b) H
def vaS (n : Int) (d : List Int) (H : List Bool) : St := ⟨0, n, 0, 0, 0, [d], if 2 * vaT H > n then 1 else 0, vaM H, [], false, [], 0, 10, []⟩
def vaX (f : Int) : Ms := ⟨2, f, 0, 0, 0, 0, [], 0, 1⟩
theorem leads0 {n : Int} : leadsV 0 n 0 0 = true := by unfold leadsV primaryV; simp
theorem cnt_vaM (H : List Bool) : cnt (geK 1) (vaM H) = vaT H := by
  unfold vaM vaT cnt
  rw [List.filter_map, List.length_map]
  congr 2
  apply List.filter_congr
  intro b _
  cases b <;> rfl
theorem vaT_nn (H : List Bool) : 0 ≤ vaT H ∧ vaT H ≤ H.length := cnt_le _ _
theorem agree1 {n : Int} (hn : 1 ≤ n) (mat : List Int) (c : Int) (hc : c = 0 ∨ c = 1) : agreeV n mat 1 c = if c = 1 then 1 else if 2 * cnt (geK 1) mat > n then 1 else 0 := by
  have h1 : ∀ f, agreeF n mat 1 f 1 = 1 := fun f => by
    cases f with
    | zero => rfl
    | succ f => unfold agreeF; rw [if_neg (fun h => by have := h.1; omega)]
  unfold agreeV
  rcases hc with rfl | rfl
  · rw [if_neg (by omega)]
    unfold agreeF
    have hm : mostV n (cnt (geK (0 + 1)) mat) = true ↔ 2 * cnt (geK 1) mat > n := by
      unfold mostV
      rw [decide_eq_true_iff]
      show n / 2 < cnt (geK 1) mat ↔ _
      omega
    by_cases h : 2 * cnt (geK 1) mat > n
    · rw [if_pos h, if_pos ⟨by decide, hm.2 h⟩]
      exact h1 1
    · rw [if_neg h, if_neg (fun h2 => h (hm.1 h2.2))]
  · rw [if_pos rfl]
    exact h1 _
def vaH0 (n : Int) : List Bool := true :: List.replicate (n.toNat - 1) false
theorem vaH0_len {n : Int} (hn : 1 ≤ n) : ((vaH0 n).length : Int) = n := by unfold vaH0; simp; omega
theorem va0 {n : Int} (hn : 1 ≤ n ∧ n ≤ 9) (d : List Int) (hd : d.length ≤ 256) : reqE (new0 n) d = none ∧ reqS (new0 n) d = vaS n d (vaH0 n) := by
  have hl : leadsV (new0 n).id (new0 n).n (new0 n).view (new0 n).status = true := leads0
  constructor
  · unfold reqE
    rw [if_pos hl, if_neg (by omega), if_neg (by show ¬ (([] : List (List Int)).length : Int) ≥ 512; simp)]
  · have hm : (new0 n).mat.set (new0 n).id.toNat ((new0 n).log.length + 1) = vaM (vaH0 n) := by
      show (newM 0 n).set 0 (((([] : List (List Int)).length : Nat) : Int) + 1) = _
      unfold newM
      rw [if_pos leads0]
      obtain ⟨m, hm⟩ : ∃ m, n.toNat = m + 1 := ⟨n.toNat - 1, by omega⟩
      unfold vaH0 vaM
      rw [hm, List.replicate_succ]
      simp
    unfold reqS
    rw [hm]
    have hc : agreeV (new0 n).n (vaM (vaH0 n)) ((new0 n).log.length + 1) (new0 n).commit = if 2 * vaT (vaH0 n) > n then 1 else 0 := by
      show agreeV n (vaM (vaH0 n)) 1 0 = _
      rw [agree1 hn.1 _ 0 (.inl rfl), if_neg (by decide), cnt_vaM]
    rw [hc]
    rfl
theorem vaM_set (H : List Bool) (i : Nat) : (vaM H).set i 1 = vaM (H.set i true) := by
  unfold vaM
  rw [List.map_set]
  rfl
theorem vaT_set (H : List Bool) : ∀ i : Nat, vaT H ≤ vaT (H.set i true) := by
  unfold vaT cnt
  induction H with
  | nil => intro i; simp
  | cons b t ih =>
    intro i
    cases i with
    | zero => cases b <;> simp [List.filter_cons] <;> omega
    | succ i =>
      have := ih i
      cases b <;> simp [List.filter_cons] <;> omega
theorem va1 {n : Int} (hn : 1 ≤ n ∧ n ≤ 9) (d : List Int) (H : List Bool) (f : Int) : prepE (vaS n d H) (vaX f) = none ∧ prepS (vaS n d H) (vaX f) = vaS n d (H.set f.toNat true) := by
  have hh : hereV (vaS n d H).status (vaS n d H).view (vaX f).view = true := rfl
  have hl : leadsV (vaS n d H).id (vaS n d H).n (vaS n d H).view (vaS n d H).status = true := leads0
  constructor
  · unfold prepE
    rw [if_pos ⟨hh, hl⟩, if_neg (by show ¬ (1 : Int) > ((([d] : List (List Int)).length : Nat) : Int); simp)]
  · unfold prepS
    rw [if_pos ⟨hh, hl⟩]
    have hm : prepM (vaS n d H) (vaX f) = vaM (H.set f.toNat true) := by
      unfold prepM
      rw [← vaM_set]
      show (vaM H).set f.toNat (max ((vaM H).getD f.toNat 0) 1) = _
      have : max ((vaM H).getD f.toNat 0) 1 = 1 := by
        have : (vaM H).getD f.toNat 0 ≤ 1 := by
          unfold vaM
          rw [List.getD_eq_getElem?_getD, List.getElem?_map]
          cases H[f.toNat]? with
          | none => simp
          | some b => cases b <;> simp
        omega
      rw [this]
    rw [hm]
    have hc : agreeV (vaS n d H).n (vaM (H.set f.toNat true)) (vaS n d H).log.length (vaS n d H).commit = if 2 * vaT (H.set f.toNat true) > n then 1 else 0 := by
      show agreeV n (vaM (H.set f.toNat true)) 1 (if 2 * vaT H > n then 1 else 0) = _
      have hs := vaT_set H f.toNat
      by_cases h : 2 * vaT H > n
      · rw [if_pos h, agree1 hn.1 _ 1 (.inr rfl), if_pos rfl, if_pos (by omega)]
      · rw [if_neg h, agree1 hn.1 _ 0 (.inl rfl), if_neg (by decide), cnt_vaM]
    rw [hc]
    rfl
theorem vaS_chk {n : Int} (hn : 1 ≤ n ∧ n ≤ 9) (d : List Int) (hd : d.length ≤ 256) (H : List Bool) (hH : (H.length : Int) = n) : Chk (vaS n d H) := by
  have hl : leadsV 0 n 0 0 = true := leads0
  refine ⟨hn, ⟨Int.le_refl _, by show (0 : Int) ≤ n - 1; omega⟩, ⟨Int.le_refl _, by simp [vaS]⟩, ⟨Int.le_refl _, Int.le_refl _⟩, ⟨Int.le_refl _, by simp [vaS]⟩, .inr rfl, ?_, ?_, ⟨Int.le_refl _, by simp [vaS]⟩, ⟨by simp [vaS], by simp [vaS]⟩, by simp [vaS], .inr rfl, ?_, ?_, ?_, ?_, by intro b hb; exact absurd hb (by show ¬ b ∈ ([] : List S69); simp)⟩
  · refine mayLogV_iff.2 ⟨by simp [vaS], fun x hx => ?_⟩
    have e : x = d := by simpa [vaS] using hx
    rw [e]; exact hd
  · show 0 ≤ (if 2 * vaT H > n then (1 : Int) else 0) ∧ (if 2 * vaT H > n then (1 : Int) else 0) ≤ 1
    split <;> omega
  · show ((vaM H).length : Int) = szM 0 n 0 0
    unfold szM vaM
    rw [if_pos hl, List.length_map]; exact hH
  · show (0 : Int) = szK 0 n 0 0
    unfold szK
    rw [if_pos hl]
  · show (0 : Int) = szB 0 n 0 0
    unfold szB
    rw [if_pos hl]
  · intro x hx
    have hx' : x ∈ vaM H := hx
    unfold vaM at hx'
    obtain ⟨b, _, rfl⟩ := List.mem_map.1 hx'
    cases b <;> rfl
theorem vaX_ok {n f : Int} (hf : 1 ≤ f ∧ f < n) : MsgOk 0 n (vaX f) := by
  refine ⟨by kernel_rfl, wi_iff.2 ⟨by show 0 ≤ f; omega, by show f ≤ n - 1; omega⟩, by kernel_rfl, ?_, by kernel_rfl, by simp [vaX], by kernel_rfl, by kernel_rfl, by kernel_rfl, by kernel_rfl⟩
  show (f == 0) = false
  exact beq_eq_false_iff_ne.2 (by omega)
theorem new0_chk {n : Int} (hn : 1 ≤ n ∧ n ≤ 9) : Chk (new0 n) := by
  have hl : leadsV 0 n 0 0 = true := leads0
  refine ⟨hn, ⟨Int.le_refl _, by show (0 : Int) ≤ n - 1; omega⟩, ⟨Int.le_refl _, by simp [new0, newS, drawV]⟩, ⟨Int.le_refl _, Int.le_refl _⟩, ⟨Int.le_refl _, by simp [new0, newS, drawV]⟩, .inr rfl, by kernel_rfl, ⟨Int.le_refl _, by simp [new0, newS, drawV]⟩, ⟨Int.le_refl _, by simp [new0, newS, drawV]⟩, ⟨by simp [new0, newS, drawV], by simp [new0, newS, drawV]⟩, by simp [new0, newS, drawV], .inr rfl, ?_, ?_, ?_, ?_, by intro b hb; exact absurd hb (by show ¬ b ∈ ([] : List S69); simp)⟩
  · show ((newM 0 n).length : Int) = szM 0 n 0 0
    unfold szM newM
    rw [if_pos hl, if_pos hl]; simp; omega
  · show (0 : Int) = szK 0 n 0 0
    unfold szK
    rw [if_pos hl]
  · show (0 : Int) = szB 0 n 0 0
    unfold szB
    rw [if_pos hl]
  · intro x hx
    have hx' : x ∈ newM 0 n := hx
    unfold newM at hx'
    rw [if_pos hl] at hx'
    rcases List.mem_or_eq_of_mem_set hx' with h | rfl
    · rw [List.mem_replicate] at h; rw [h.2]; rfl
    · rfl
end Go.Proofs.Ytojjnifbnppliaa.T
