/- Plain laws of the table layer, third text: no slot is given that is not free, none is freed that has live blocks. -/
import Derived.Test.YteahohglkeimmaaPm
import Derived.Test.YteahohglkeimmaaTx8
namespace Go.Proofs.Yteahohglkeimmaa.Plain
open Go.RowKit Go.Proofs.YteahohglkeimmaaW.PrintWords Go.Proofs.Yteahohglkeimmaa.T
set_option linter.unusedVariables false

theorem tm (a n : Int) (h0 : 0 < n) (h1 : n ≤ 1000) : 0 ≤ Int.tmod (wrap64 (Int.tmod a n + n)) n ∧ Int.tmod (wrap64 (Int.tmod a n + n)) n < n := by
  have h2 := Int.tmod_lt_of_pos a h0
  have h3 := Int.lt_tmod_of_pos a h0
  have h4 : wrap64 (Int.tmod a n + n) = Int.tmod a n + n := by unfold wrap64; omega
  rw [h4]
  exact ⟨Int.tmod_nonneg n (by omega), Int.tmod_lt_of_pos _ h0⟩

/-- A table that may be: what was given up to now. -/
structure Good (n i : Nat) (L : List S31) : Prop where
  len : L.length = n
  el : ∀ x ∈ L, 0 ≤ x.f0 ∧ x.f0 ≤ i ∧ 0 ≤ x.f1 ∧ x.f1 ≤ 8 ∧ (0 < x.f0 ∨ x.f1 = 0)
  ne : ∀ a b (ha : a < b) (hb : b < L.length), (L[a]'(by omega)).f0 = L[b].f0 → L[b].f0 = 0
def lv (L : List S31) : List Int := L.map (·.f1)
def us (L : List S31) : List Bool := L.map (fun x => decide (x.f0 ≠ 0))

theorem chk_good : ∀ (l : List S39) (s : List Int), (∀ x ∈ l, mayB x = true) → (∀ x ∈ l, x.f0 = 0 ∨ x.f0 ∉ s) → l.Pairwise (fun a b => a.f0 = b.f0 → b.f0 = 0) → chk true s l = true
  | [], _, _, _, _ => rfl
  | x :: r, s, h1, h2, h3 => by
    rw [chk, h1 x (List.mem_cons_self ..)]
    have e : (x.f0 == 0 || !s.contains x.f0) = true := by
      rcases h2 x (List.mem_cons_self ..) with h | h
      · simp [h]
      · simp [h]
    rw [e]
    rw [List.pairwise_cons] at h3
    refine chk_good r _ (fun y hy => h1 y (List.mem_cons_of_mem _ hy)) (fun y hy => ?_) h3.2
    by_cases hz : y.f0 = 0
    · exact .inl hz
    · refine .inr (fun hm => ?_)
      rcases List.mem_cons.1 hm with h | h
      · exact hz (h3.1 y hy h.symm)
      · rcases h2 y (List.mem_cons_of_mem _ hy) with h' | h'
        · exact hz h'
        · exact h' h

theorem good_chk {n i : Nat} {L : List S31} (h : Good n i L) (hn : 1 ≤ n) (hn2 : n ≤ 64) (hi : i ≤ 1000) : chkv L = 0 := by
  unfold chkv
  have e : ok0 (L.map c) = true := by simp [ok0, h.len]; omega
  rw [e, chk_good _ _ ?_ ?_ ?_]
  · rfl
  · intro x hx
    obtain ⟨y, hy, rfl⟩ := List.mem_map.1 hx
    have := h.el y hy
    exact (mayB_iff _).2 ⟨this.1, by simp only [c]; omega, this.2.2.1, this.2.2.2.1, this.2.2.2.2⟩
  · intro x hx; exact .inr (by simp)
  · rw [List.pairwise_map, List.pairwise_iff_getElem]
    intro a b ha hb hab he
    exact h.ne a b hab hb he

theorem good_mono {n i : Nat} {L : List S31} (h : Good n i L) : Good n (i + 1) L := ⟨h.len, fun x hx => by have := h.el x hx; exact ⟨this.1, by omega, this.2.2⟩, h.ne⟩
theorem good_wfs {n i : Nat} {L : List S31} (h : Good n i L) (hi : i ≤ 1000) : wfs L := fun x hx => by
  have := h.el x hx
  simp [Lit.wf, IntKind.min, IntKind.max, IntKind.signed, IntKind.bits]
  omega
theorem good_set {n i : Nat} {L : List S31} (h : Good n i L) {j : Nat} (hj : j < n) {q v : Int} (hq : 0 ≤ q ∧ q ≤ i ∧ 0 ≤ v ∧ v ≤ 8 ∧ (0 < q ∨ v = 0)) (hd : q = 0 ∨ ∀ a (ha : a < L.length), a ≠ j → (L[a]).f0 ≠ q) : Good n i (L.set j ⟨q, v⟩) := by
  refine ⟨by rw [List.length_set]; exact h.len, fun x hx => ?_, fun a b hab hb he => ?_⟩
  · rcases List.mem_or_eq_of_mem_set hx with h' | rfl
    · exact h.el x h'
    · exact hq
  · rw [List.length_set] at hb
    rw [List.getElem_set, List.getElem_set] at he
    rw [List.getElem_set]
    by_cases e1 : j = a
    · rw [if_pos e1] at he
      rw [if_neg (by omega)] at he ⊢
      rcases hd with h' | h'
      · rw [← he]; exact h'
      · exact absurd he.symm (h' b hb (by omega))
    · rw [if_neg e1] at he
      by_cases e2 : j = b
      · rw [if_pos e2] at he ⊢
        rcases hd with h' | h'
        · exact h'
        · exact absurd he (h' a (by omega) (by omega))
      · rw [if_neg e2] at he ⊢
        exact h.ne a b hab hb he

theorem rdL (L : List S31) (j : Nat) (h : j < L.length) : rd (lv L) (j : Int) = L[j].f1 := by
  unfold rd lv
  rw [Int.toNat_natCast, List.getD_eq_getElem?_getD, List.getElem?_eq_getElem (by rw [List.length_map]; exact h), List.getElem_map]; rfl
theorem rdU (L : List S31) (j : Nat) (h : j < L.length) : rdOf false (us L) (j : Int) = decide (L[j].f0 ≠ 0) := by
  unfold rdOf us
  rw [Int.toNat_natCast, List.getD_eq_getElem?_getD, List.getElem?_eq_getElem (by rw [List.length_map]; exact h), List.getElem_map]; rfl

/-- The room, counted by hand. -/
theorem room_l2 (n : Nat) (hn : n ≤ 12) (l1 : List S56) (X : List S39) (L : List S31) (hL : L.length = n) (i : Int) (x21 x22 : Int) (hnext : Ev (fun k => undercroftlaw14_TableOnce.l0 k n l1 X (lv L) (us L) (wrap64 (i + 1))) true) :
    ∀ (d j : Nat) (a b : Int), j + d = n → roomL (L.drop j) a b = (x21, x22, 0) → Ev (fun k => undercroftlaw14_TableOnce.l2 k n l1 X (lv L) (us L) i x21 x22 0 a b j) true := by
  intro d
  induction d with
  | zero =>
    intro j a b hj hr
    rw [List.drop_eq_nil_of_le (by omega), roomL] at hr
    simp only [Prod.mk.injEq] at hr
    obtain ⟨rfl, rfl, _⟩ := hr
    refine Ev.step (fun k => ?_) hnext
    simp only [undercroftlaw14_TableOnce.l2]
    rw [if_neg (by omega)]
    simp [undercroftlaw14_num.f]
  | succ d ih =>
    intro j a b hj hr
    have hjl : j < L.length := by omega
    rw [List.drop_eq_getElem_cons hjl, roomL] at hr
    refine Ev.step (fun k => ?_) (ih (j + 1) _ _ (by omega) hr)
    simp only [undercroftlaw14_TableOnce.l2]
    rw [if_pos (by omega), if_pos (by omega), if_pos (by simp [lv]; omega), if_pos (by simp [us]; omega), rdL L j hjl, rdU L j hjl, wrap_ok (i := (j : Int)) (by omega) (by omega)]
    by_cases hz : L[j].f0 = 0
    · rw [if_pos hz, if_neg (by simp [hz])]; rfl
    · rw [if_neg hz, if_pos (by simp [hz])]; rfl

theorem room_of (L : List S31) (a b : Int) : ∃ x y, roomL L a b = (x, y, 0) := by
  induction L generalizing a b with
  | nil => exact ⟨a, b, rfl⟩
  | cons x r ih => exact ih _ _

theorem j5_ev {n i : Nat} (hn : 1 ≤ n) (hn2 : n ≤ 12) (hi : i < 200) (l1 : List S56) (L : List S31) (hG : Good n (i + 1) L) (hnext : Ev (fun k => undercroftlaw14_TableOnce.l0 k n l1 (L.map c) (lv L) (us L) ((i + 1 : Nat) : Int)) true) :
    Ev (fun k => undercroftlaw14_TableOnce.j5 k n l1 (L.map c) (lv L) (us L) (i : Int)) true := by
  refine Ev.step (f := fun k => (table_Room.f k (L.map c)).bind fun bt335 => (undercroftlaw14_TableOnce.l2 k n l1 (L.map c) (lv L) (us L) i bt335.1 bt335.2.1 bt335.2.2 0 0 0)) (fun k => by simp only [undercroftlaw14_TableOnce.j5]) ?_
  refine Ev.bind (room_ev L (good_wfs hG (by omega)) (by rw [hG.len]; omega)) ?_
  have hc := good_chk hG hn (by omega) (by omega)
  unfold roomS
  rw [if_pos hc]
  obtain ⟨x, y, hr⟩ := room_of L 0 0
  rw [hr]
  refine room_l2 n hn2 l1 (L.map c) L hG.len i x y ?_ n 0 0 0 (by omega) (by rw [List.drop_zero]; exact hr)
  rw [wrap_ok (by omega) (by omega)]
  exact hnext

theorem lv_set (L : List S31) (j : Nat) (q v : Int) : lv (L.set j ⟨q, v⟩) = (lv L).set j v := by unfold lv; rw [List.map_set]
theorem us_set (L : List S31) (j : Nat) (q v : Int) : us (L.set j ⟨q, v⟩) = (us L).set j (decide (q ≠ 0)) := by unfold us; rw [List.map_set]
theorem c_set (L : List S31) (j : Nat) (q v : Int) : (L.set j ⟨q, v⟩).map c = (L.map c).set j ⟨q, v⟩ := by rw [List.map_set]; rfl
theorem set_self {α : Type} (l : List α) (j : Nat) (h : j < l.length) (x : α) (hx : l[j] = x) : l.set j x = l := by subst hx; exact List.set_getElem_self h

def frB (L : List S31) (j : Nat) : Bool := (L.take j).any (fun x => x.f0 == 0)
theorem loop_l1 (n : Nat) (hn : n ≤ 12) (l1 : List S56) (X x12 : List S39) (L : List S31) (hL : L.length = n) (i V x13 x14 : Int) (hfin : Ev (fun k => undercroftlaw14_TableOnce.l1 k n l1 X (lv L) (us L) i V x12 x13 x14 (frB L n) n) true) :
    ∀ (d j : Nat), j + d = n → Ev (fun k => undercroftlaw14_TableOnce.l1 k n l1 X (lv L) (us L) i V x12 x13 x14 (frB L j) j) true := by
  intro d
  induction d with
  | zero =>
    intro j hj
    obtain rfl : j = n := by omega
    exact hfin
  | succ d ih =>
    intro j hj
    have hjl : j < L.length := by omega
    have e : frB L (j + 1) = (frB L j || (L[j].f0 == 0)) := by
      unfold frB
      rw [List.take_succ_eq_append_getElem hjl, List.any_append]
      simp
    refine Ev.step (fun k => ?_) (ih (j + 1) (by omega))
    simp only [undercroftlaw14_TableOnce.l1]
    rw [if_pos (by omega), wrap_ok (i := (j : Int)) (by omega) (by omega), e]
    cases hf : frB L j with
    | true => rfl
    | false =>
      rw [if_neg (by simp), if_pos (by omega), if_pos (by simp [us]; omega), rdU L j hjl, Bool.false_or]
      have : (!decide (L[j].f0 ≠ 0)) = (L[j].f0 == 0) := by
        by_cases hz : L[j].f0 = 0 <;> simp [hz]
      rw [this]
      rfl

theorem rd31i (L : List S31) (K : Int) (h0 : 0 ≤ K) (h1 : K < L.length) : rd_T31 L K = L[K.toNat]'(by omega) := by
  obtain ⟨m, rfl⟩ := Int.eq_ofNat_of_zero_le h0
  exact rd31 L m (by omega)

theorem alloc_good {n i : Nat} {L : List S31} (hG : Good n i L) (hn : 1 ≤ n) (hn2 : n ≤ 12) (hi : i < 200) (V : Int) (h0 : 0 ≤ V) (h1 : V < 9) :
    (frB L n = false ∧ allocS L ((i + 1 : Nat) : Int) V = ([], 0, 51)) ∨
    (frB L n = true ∧ ∃ m : Nat, ∃ h : m < L.length, (L[m]).f0 = 0 ∧ allocS L ((i + 1 : Nat) : Int) V = (L.set m ⟨((i + 1 : Nat) : Int), V⟩, (m : Int), 0) ∧ Good n (i + 1) (L.set m ⟨((i + 1 : Nat) : Int), V⟩)) := by
  have hchk := good_chk hG hn (by omega) (by omega)
  have hm : mayB ⟨((i + 1 : Nat) : Int), V⟩ = true := (mayB_iff ⟨((i + 1 : Nat) : Int), V⟩).2 (by simp only; omega)
  have hno : idxP (fun x : S39 => x.f0 == ((i + 1 : Nat) : Int)) (L.map c) = -1 := by
    rcases idxP_spec (fun x : S39 => x.f0 == ((i + 1 : Nat) : Int)) (L.map c) with h | ⟨m, _, hm, hp, _⟩
    · exact h.1
    · rw [List.length_map] at hm
      rw [List.getElem_map] at hp
      have := hG.el _ (List.getElem_mem hm)
      have hp' : (L[m]).f0 = ((i + 1 : Nat) : Int) := by simpa [c] using hp
      omega
  have hlen := hG.len
  have hfr : frB L n = L.any (fun x => x.f0 == 0) := by unfold frB; rw [List.take_of_length_le (by omega)]
  rcases idxP_spec (fun x : S39 => x.f0 == 0) (L.map c) with h | ⟨m, he, hm2, hp, _⟩
  · refine .inl ⟨?_, ?_⟩
    · rw [hfr, List.any_eq_false]
      intro x hx
      have := h.2 (c x) (List.mem_map_of_mem hx)
      simp only [c] at this
      rw [this]
      exact Bool.false_ne_true
    · unfold allocS
      rw [if_pos hchk, if_neg (by omega), if_neg (by rw [hm]; exact Bool.noConfusion), hno, if_neg (by omega), h.1, if_pos (by omega)]
  · rw [List.length_map] at hm2
    rw [List.getElem_map] at hp
    have hp' : (L[m]).f0 = 0 := by simpa [c] using hp
    refine .inr ⟨?_, m, hm2, hp', ?_, ?_⟩
    · rw [hfr, List.any_eq_true]
      exact ⟨L[m], List.getElem_mem hm2, by rw [hp']; rfl⟩
    · unfold allocS
      rw [if_pos hchk, if_neg (by omega), if_neg (by rw [hm]; exact Bool.noConfusion), hno, if_neg (by omega), he, if_neg (by omega), Int.toNat_natCast]
    · refine good_set (good_mono hG) (by omega) (by omega) (.inr (fun a ha _ => ?_))
      have := hG.el _ (List.getElem_mem ha)
      omega

theorem l0_ev (n : Nat) (hn : 1 ≤ n) (hn2 : n ≤ 12) (l1 : List S56) (hl : l1.length ≤ 9223372036854775807) : ∀ (d i : Nat), i + d = 200 → ∀ L, Good n i L → Ev (fun k => undercroftlaw14_TableOnce.l0 k n l1 (L.map c) (lv L) (us L) i) true := by
  intro d
  induction d with
  | zero =>
    intro i hi L hG
    have h2 : Ev (fun k => undercroftlaw14_TableOnce.j1 k n l1 (L.map c) (lv L) (us L) i false) true := Ev.step (f := fun _ => some true) (fun k => by simp only [undercroftlaw14_TableOnce.j1]; rfl) (Ev.now _)
    refine Ev.step (fun k => ?_) h2
    simp only [undercroftlaw14_TableOnce.l0]
    rw [decide_eq_false (show ¬ (i : Int) < 200 by omega)]
    split <;> rfl
  | succ d ih =>
    intro i hi L hG
    by_cases hlt : i < l1.length
    · refine Ev.step (f := fun k => undercroftlaw14_TableOnce.j1 k n l1 (L.map c) (lv L) (us L) i true) (fun k => ?_) ?_
      · simp only [undercroftlaw14_TableOnce.l0]
        rw [if_pos (by omega), decide_eq_true (show (i : Int) < 200 by omega)]
      have hchk := good_chk hG hn (by omega) (by omega)
      have hwf := good_wfs hG (by omega)
      have hnx := ih (i + 1) (by omega)
      generalize hs : rd_T56 l1 i = S
      have ht := tm S.f0 3 (by omega) (by omega)
      have hK := tm S.f1 n (by omega) (by omega)
      have hV := tm S.f2 9 (by omega) (by omega)
      generalize hq : Int.tmod (wrap64 (Int.tmod S.f0 3 + 3)) 3 = W at *
      generalize hk : Int.tmod (wrap64 (Int.tmod S.f1 n + n)) n = K at *
      generalize hv : Int.tmod (wrap64 (Int.tmod S.f2 9 + 9)) 9 = V at *
      have hn0 : ¬ (n : Int) = 0 := by omega
      have hLn := hG.len
      have hKl : K < L.length := by omega
      have hKn : K.toNat < L.length := by omega
      have hel := hG.el _ (List.getElem_mem hKn)
      have r31 := rd31i L K hK.1 hKl
      have rU : rdOf false (us L) K = decide ((L[K.toNat]).f0 ≠ 0) := by
        have := rdU L K.toNat hKn
        rw [Int.toNat_of_nonneg hK.1] at this
        exact this
      have rL : rd (lv L) K = (L[K.toNat]).f1 := by
        have := rdL L K.toNat hKn
        rw [Int.toNat_of_nonneg hK.1] at this
        exact this
      have hj5 : ∀ L', Good n (i + 1) L' → Ev (fun k => undercroftlaw14_TableOnce.j5 k n l1 (L'.map c) (lv L') (us L') (i : Int)) true := fun L' hG' => j5_ev hn hn2 (by omega) l1 L' hG' (hnx L' hG')
      have hks : killS L K 1 = if (L[K.toNat]).f0 = 0 then ([], 71) else if 1 > (L[K.toNat]).f1 then ([], 4) else (L.set K.toNat ⟨(L[K.toNat]).f0, wrap64 ((L[K.toNat]).f1 - 1)⟩, 0) := by
        unfold killS
        rw [if_pos hchk, if_neg (by omega), if_neg (show ¬ ¬ K < L.length by omega), r31, if_neg (show ¬ (1 : Int) < 0 by omega)]
      have hfs : freeS L K = if (L[K.toNat]).f0 = 0 then ([], 71) else if (L[K.toNat]).f1 > 0 then ([], 91) else (L.set K.toNat ⟨0, 0⟩, 0) := by
        unfold freeS
        rw [if_pos hchk, if_neg (by omega), if_neg (show ¬ ¬ K < L.length by omega), r31]
      by_cases w0 : W = 0
      · refine Ev.step (f := fun k => (table_Alloc.f (L.map c) (i + 1 : Nat) V).bind fun bt305 => (undercroftlaw14_TableOnce.l1 k n l1 (L.map c) (lv L) (us L) i V bt305.1 bt305.2.1 bt305.2.2 false 0)) (fun k => ?_) ?_
        · simp only [undercroftlaw14_TableOnce.j1]
          rw [if_pos trivial, if_pos (by omega), if_pos (by omega), if_neg hn0, hs, hq, hv, if_pos w0, wrap_ok (by omega) (by omega)]
          rfl
        · rw [alloc_f L hwf]
          simp only [Option.bind_some]
          refine loop_l1 n hn2 l1 _ _ L hLn i V _ _ ?_ n 0 (by omega)
          rcases alloc_good hG hn hn2 (by omega) V hV.1 hV.2 with ⟨hf, he⟩ | ⟨hf, m, hm, hz, he, hG'⟩
          · rw [hf, he]
            refine Ev.step (fun k => ?_) (hnx L (good_mono hG))
            simp only [undercroftlaw14_TableOnce.l1]
            rw [if_neg (by omega), if_neg (by simp), wrap_ok (by omega) (by omega)]
            rfl
          · rw [hf, he]
            refine Ev.step (fun k => ?_) (hj5 _ hG')
            simp only [undercroftlaw14_TableOnce.l1, undercroftlaw14_num.f, Option.bind_some]
            rw [if_neg (by omega), if_pos trivial, if_pos trivial, if_neg (by omega), if_neg (by omega), if_pos (by omega), if_pos (by simp [us]; omega), rdU L m hm, if_neg (by simp [hz]), if_pos (by simp [lv]; omega), lv_set, us_set, Int.toNat_natCast]
            congr 2
      · by_cases w1 : W = 1
        · refine Ev.step (f := fun k => (undercroftlaw14_TableOnce.j3 k n l1 (L.map c) (lv L) (us L) i K ((killS L K 1).1.map c) (killS L K 1).2 false)) (fun k => ?_) ?_
          · simp only [undercroftlaw14_TableOnce.j1]
            rw [if_pos trivial, if_pos (by omega), if_pos (by omega), if_neg hn0, hs, hq, hk, if_neg w0, if_pos w1, kill_f L hwf]
            simp only [Option.bind_some, undercroftlaw14_num.f]
            rw [if_pos hK.1, if_pos (by simp [us]; omega), rU, rL]
            rw [hks]
            by_cases hz : (L[K.toNat]).f0 = 0
            · rw [if_pos hz, if_neg (show ¬ decide ((L[K.toNat]).f0 ≠ 0) = true by simp [hz])]
              rfl
            · rw [if_neg hz, if_pos (show decide ((L[K.toNat]).f0 ≠ 0) = true by simp [hz]), if_pos (show K < (lv L).length by simp [lv]; omega)]
              by_cases h1 : 1 > (L[K.toNat]).f1
              · rw [if_pos h1, decide_eq_false (by omega)]
                rfl
              · rw [if_neg h1, decide_eq_true (by omega)]
                rfl
          · rw [hks]
            by_cases hz : (L[K.toNat]).f0 = 0
            · rw [if_pos hz]
              refine Ev.step (fun k => ?_) (hj5 L (good_mono hG))
              simp only [undercroftlaw14_TableOnce.j3, undercroftlaw14_num.f, Option.bind_some]
              rfl
            · rw [if_neg hz]
              by_cases h1 : 1 > (L[K.toNat]).f1
              · rw [if_pos h1]
                refine Ev.step (fun k => ?_) (hj5 L (good_mono hG))
                simp only [undercroftlaw14_TableOnce.j3, undercroftlaw14_num.f, Option.bind_some]
                rfl
              · rw [if_neg h1]
                have hwr : wrap64 ((L[K.toNat]).f1 - 1) = (L[K.toNat]).f1 - 1 := by unfold wrap64; omega
                have hG' : Good n (i + 1) (L.set K.toNat ⟨(L[K.toNat]).f0, (L[K.toNat]).f1 - 1⟩) := good_set (good_mono hG) (by omega) (by omega) (.inr (fun a ha hne he => by
                  rcases Nat.lt_or_ge a K.toNat with h' | h'
                  · exact hz (hG.ne a K.toNat h' hKn he)
                  · have h3 := hG.ne K.toNat a (by omega) ha he.symm
                    exact hz (by rw [← he]; exact h3)))
                refine Ev.step (fun k => ?_) (hj5 _ hG')
                simp only [undercroftlaw14_TableOnce.j3, undercroftlaw14_num.f, Option.bind_some]
                rw [if_neg (by simp), if_pos trivial, if_pos hK.1, if_pos (by simp [lv]; omega), rL, hwr, lv_set, us_set]
                congr 2
                exact (set_self _ _ (by simp [us]; omega) _ (by simp [us])).symm
        · have w2 : W = 2 := by omega
          refine Ev.step (f := fun k => (undercroftlaw14_TableOnce.j4 k n l1 (L.map c) (lv L) (us L) i K ((freeS L K).1.map c) (freeS L K).2 false)) (fun k => ?_) ?_
          · simp only [undercroftlaw14_TableOnce.j1]
            rw [if_pos trivial, if_pos (by omega), if_pos (by omega), if_neg hn0, hs, hq, hk, if_neg w0, if_neg w1, if_pos w2, free_f L hwf]
            simp only [Option.bind_some, undercroftlaw14_num.f]
            rw [if_pos hK.1, if_pos (by simp [us]; omega), rU, rL]
            rw [hfs]
            by_cases hz : (L[K.toNat]).f0 = 0
            · rw [if_pos hz, if_neg (show ¬ decide ((L[K.toNat]).f0 ≠ 0) = true by simp [hz])]
              rfl
            · rw [if_neg hz, if_pos (show decide ((L[K.toNat]).f0 ≠ 0) = true by simp [hz]), if_pos (by simp [lv]; omega)]
              by_cases h1 : (L[K.toNat]).f1 > 0
              · rw [if_pos h1, show ((L[K.toNat]).f1 == 0) = false from by simp; omega]
                rfl
              · rw [if_neg h1, show ((L[K.toNat]).f1 == 0) = true from by simp; omega]
                rfl
          · rw [hfs]
            by_cases hz : (L[K.toNat]).f0 = 0
            · rw [if_pos hz]
              refine Ev.step (fun k => ?_) (hj5 L (good_mono hG))
              simp only [undercroftlaw14_TableOnce.j4, undercroftlaw14_num.f, Option.bind_some]
              rfl
            · rw [if_neg hz]
              by_cases h1 : (L[K.toNat]).f1 > 0
              · rw [if_pos h1]
                refine Ev.step (fun k => ?_) (hj5 L (good_mono hG))
                simp only [undercroftlaw14_TableOnce.j4, undercroftlaw14_num.f, Option.bind_some]
                rfl
              · rw [if_neg h1]
                have hG' : Good n (i + 1) (L.set K.toNat ⟨0, 0⟩) := good_set (good_mono hG) (by omega) (by omega) (.inl rfl)
                refine Ev.step (fun k => ?_) (hj5 _ hG')
                simp only [undercroftlaw14_TableOnce.j4, undercroftlaw14_num.f, Option.bind_some]
                rw [if_neg (by simp), if_pos trivial, if_pos hK.1, if_pos (by simp [us]; omega), lv_set, us_set]
                congr 2
                exact (set_self _ _ (by simp [lv]; omega) _ (by simp [lv]; omega)).symm
    · have h2 : Ev (fun k => undercroftlaw14_TableOnce.j1 k n l1 (L.map c) (lv L) (us L) i false) true := Ev.step (f := fun _ => some true) (fun k => by simp only [undercroftlaw14_TableOnce.j1]; rfl) (Ev.now _)
      refine Ev.step (fun k => ?_) h2
      simp only [undercroftlaw14_TableOnce.l0]
      rw [if_neg (by omega)]

theorem TableOnce (a0 : Int) (l1 : List S56) (hl : l1.length ≤ 9223372036854775807) : ∃ k, undercroftlaw14_TableOnce.f k a0 l1 = some true := by
  refine Ev.rounds (g := fun k => undercroftlaw14_TableOnce.f k a0 l1) ?_
  unfold undercroftlaw14_TableOnce.f
  rw [alive_ok]
  have ht := tm a0 12 (by omega) (by omega)
  generalize hq : Int.tmod (wrap64 (Int.tmod a0 12 + 12)) 12 = q at *
  have hw : wrap64 (1 + q) = ((q.toNat + 1 : Nat) : Int) := by unfold wrap64; omega
  simp only [Option.bind_some, if_true, hw]
  rw [new_f]
  unfold newS
  rw [if_neg (by omega), if_neg (by omega)]
  simp only [Option.bind_some, undercroftlaw14_num.f, if_true]
  have hG : Good (q.toNat + 1) 0 (List.replicate (q.toNat + 1) z31) := by
    refine ⟨by simp, fun x hx => ?_, fun a b hab hb _ => ?_⟩
    · rw [List.eq_of_mem_replicate hx]; simp [z31]
    · simp [z31]
  have := l0_ev (q.toNat + 1) (by omega) (by omega) l1 hl 200 0 (by omega) _ hG
  unfold lv us at this
  rw [List.map_replicate, List.map_replicate, List.map_replicate] at this
  refine Ev.congr (fun k => ?_) this
  rw [if_pos (by omega), if_pos (by omega), if_pos (by omega), Int.toNat_natCast, List.map_replicate]
  rfl
end Go.Proofs.Yteahohglkeimmaa.Plain
namespace Go.Proofs.Yteahohglkeimmaa.Pure
open Go.RowKit Go.Proofs.Yteahohglkeimmaa.T
theorem TableOnce (a0 : Int) (l1 : List S56) (_ : (Lit.int .i64 a0).wf = true) (h : (∀ x ∈ l1, (Lit.int .i64 x.f0).wf = true ∧ (Lit.int .i64 x.f1).wf = true ∧ (Lit.int .i64 x.f2).wf = true) ∧ l1.length * 24 ≤ 140737488351232 ∧ l1.length ≤ maxLen) : ∃ k, undercroftlaw14_TableOnce.f k a0 l1 = some true :=
  Plain.TableOnce a0 l1 (by have := h.2.1; omega)
end Go.Proofs.Yteahohglkeimmaa.Pure
