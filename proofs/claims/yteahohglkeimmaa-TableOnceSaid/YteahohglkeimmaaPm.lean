/- Plain laws of the table layer, second text: what the page's calls and the program's calls tell, side by side. -/
import Derived.Test.YteahohglkeimmaaPl
import Derived.Test.YteahohglkeimmaaTx7
namespace Go.Proofs.Yteahohglkeimmaa.Plain
open Go.RowKit Go.Proofs.YteahohglkeimmaaW.PrintWords Go.Proofs.Yteahohglkeimmaa.T
set_option linter.unusedVariables false

def prev (l : List S31) (i : Nat) : List Int := ((l.take i).map (·.f0)).reverse
theorem prev_succ (l : List S31) (i : Nat) (h : i < l.length) : prev l (i + 1) = (l[i]).f0 :: prev l i := by
  unfold prev; rw [List.take_succ_eq_append_getElem h, List.map_append, List.reverse_append]; rfl
theorem prev_mem (l : List S31) (i : Nat) (hi : i ≤ l.length) (x : Int) : (prev l i).contains x = true ↔ ∃ j, ∃ h : j < i, (l[j]'(by omega)).f0 = x := by
  unfold prev
  rw [List.contains_iff_mem, List.mem_reverse, List.mem_map]
  constructor
  · rintro ⟨y, hy, rfl⟩
    obtain ⟨j, hj, rfl⟩ := List.getElem_of_mem hy
    rw [List.length_take] at hj
    exact ⟨j, by omega, by rw [List.getElem_take]⟩
  · rintro ⟨j, hj, rfl⟩
    refine ⟨l[j]'(by omega), ?_, rfl⟩
    rw [List.mem_take_iff_getElem]
    exact ⟨j, by omega, rfl⟩

theorem mayB_iff (x : S39) : mayB x = true ↔ 0 ≤ x.f0 ∧ x.f0 ≤ 1099511627776 ∧ 0 ≤ x.f1 ∧ x.f1 ≤ 8 ∧ (0 < x.f0 ∨ x.f1 = 0) := by
  unfold mayB table_Slot_may.f
  repeat' split
  all_goals simp
  all_goals omega

theorem refCheck_l0 (l : List S31) (hs : l.length * 16 ≤ 140737488351232) : ∀ (d i : Nat), i + d = l.length → Ev (fun k => undercroftref14_Check.l0 k l i) (if chk true (prev l i) ((l.drop i).map c) then 0 else 9) := by
  intro d
  induction d with
  | zero =>
    intro i hi
    refine Ev.step (f := fun _ => some 0) (fun k => ?_) ?_
    · simp only [undercroftref14_Check.l0]
      rw [if_neg (by omega)]
    · rw [List.drop_eq_nil_of_le (by omega)]
      exact Ev.now _
  | succ d ih =>
    intro i hi
    have hil : i < l.length := by omega
    have hnext := ih (i + 1) (by omega)
    rw [List.drop_eq_getElem_cons hil, List.map_cons, chk]
    rw [prev_succ l i hil] at hnext
    have hbad : (mayB (c l[i]) = false) → Ev (fun k => undercroftref14_Check.j2 k l (i : Int) true (l[i]).f0 (l[i]).f1) (if chk (true && mayB (c l[i]) && ((c l[i]).f0 == 0 || !(prev l i).contains (c l[i]).f0)) ((c l[i]).f0 :: prev l i) ((l.drop (i + 1)).map c) then 0 else 9) := by
      intro hm
      refine Ev.step (f := fun _ => some 9) (fun k => by simp only [undercroftref14_Check.j2]; rfl) ?_
      rw [hm]
      simp only [Bool.and_false, Bool.false_and, chk_false]
      exact Ev.now _
    have hgood : (mayB (c l[i]) = true) → Ev (fun k => undercroftref14_Check.j2 k l (i : Int) false (l[i]).f0 (l[i]).f1) (if chk (true && mayB (c l[i]) && ((c l[i]).f0 == 0 || !(prev l i).contains (c l[i]).f0)) ((c l[i]).f0 :: prev l i) ((l.drop (i + 1)).map c) then 0 else 9) := by
      intro hm
      refine Ev.step (f := fun k => undercroftref14_Check.l1 k l (i : Int) 0 (l[i]).f0 (l[i]).f1) (fun k => by simp only [undercroftref14_Check.j2]; rfl) ?_
      have hend : Ev (fun k => undercroftref14_Check.l0 k l (wrap64 ((i : Int) + 1))) (if chk true ((c l[i]).f0 :: prev l i) ((l.drop (i + 1)).map c) then 0 else 9) := by
        rw [wrap_ok (by omega) (by omega)]
        exact hnext
      by_cases hz : (l[i]).f0 = 0
      · have e : (true && mayB (c l[i]) && ((c l[i]).f0 == 0 || !(prev l i).contains (c l[i]).f0)) = true := by rw [hm]; simp [c, hz]
        rw [e]
        have inner : ∀ (d j : Nat), j + d = i → Ev (fun k => undercroftref14_Check.l1 k l (i : Int) j (l[i]).f0 (l[i]).f1) (if chk true ((c l[i]).f0 :: prev l i) ((l.drop (i + 1)).map c) then 0 else 9) := by
          intro d
          induction d with
          | zero =>
            intro j hj
            refine Ev.step (f := fun k => undercroftref14_Check.l0 k l (wrap64 ((i : Int) + 1))) (fun k => ?_) hend
            simp only [undercroftref14_Check.l1]
            rw [if_neg (by omega)]
          | succ d ih2 =>
            intro j hj
            refine Ev.step (f := fun k => undercroftref14_Check.l1 k l (i : Int) (j + 1 : Nat) (l[i]).f0 (l[i]).f1) (fun k => ?_) (ih2 (j + 1) (by omega))
            simp only [undercroftref14_Check.l1]
            rw [if_pos (by omega), if_pos hz, wrap_ok (by omega) (by omega)]
            rfl
        exact inner i 0 (by omega)
      · have inner : ∀ (d j : Nat) (hj0 : j + d = i), (∀ j' (h : j' < j), ¬ (l[j']'(by omega)).f0 = (l[i]).f0) → Ev (fun k => undercroftref14_Check.l1 k l (i : Int) j (l[i]).f0 (l[i]).f1) (if chk (true && mayB (c l[i]) && ((c l[i]).f0 == 0 || !(prev l i).contains (c l[i]).f0)) ((c l[i]).f0 :: prev l i) ((l.drop (i + 1)).map c) then 0 else 9) := by
          intro d
          induction d with
          | zero =>
            intro j hj hno
            have e : (prev l i).contains (c l[i]).f0 = false := by
              rw [Bool.eq_false_iff]
              intro hc
              obtain ⟨j', hj', he⟩ := (prev_mem l i (by omega) _).1 hc
              exact hno j' (by omega) he
            rw [e, hm]
            simp only [Bool.not_false, Bool.or_true, Bool.and_self]
            refine Ev.step (f := fun k => undercroftref14_Check.l0 k l (wrap64 ((i : Int) + 1))) (fun k => ?_) hend
            simp only [undercroftref14_Check.l1]
            rw [if_neg (by omega)]
          | succ d ih2 =>
            intro j hj hno
            by_cases he : (l[j]'(by omega)).f0 = (l[i]).f0
            · have e : (prev l i).contains (c l[i]).f0 = true := (prev_mem l i (by omega) _).2 ⟨j, by omega, he⟩
              rw [e]
              have z : ((c l[i]).f0 == 0) = false := by simpa [c] using hz
              rw [z]
              simp only [Bool.not_true, Bool.or_false, Bool.and_false, chk_false]
              refine Ev.step (f := fun _ => some 9) (fun k => ?_) (Ev.now _)
              simp only [undercroftref14_Check.l1]
              rw [if_pos (by omega), if_neg hz, if_pos (by omega), if_pos (by omega), rd31 l j (by omega), if_pos he]
            · refine Ev.step (f := fun k => undercroftref14_Check.l1 k l (i : Int) (j + 1 : Nat) (l[i]).f0 (l[i]).f1) (fun k => ?_) (ih2 (j + 1) (by omega) (fun j' hj' => ?_))
              · simp only [undercroftref14_Check.l1]
                rw [if_pos (by omega), if_neg hz, if_pos (by omega), if_pos (by omega), rd31 l j (by omega), if_neg he, wrap_ok (by omega) (by omega)]
                rfl
              · by_cases e : j' = j
                · subst e; exact he
                · exact hno j' (by omega)
        exact inner i 0 (by omega) (fun j' h => by omega)
    have hm := mayB_iff (c l[i])
    simp only [c] at hm
    have hmf : ¬ (0 ≤ (l[i]).f0 ∧ (l[i]).f0 ≤ 1099511627776 ∧ 0 ≤ (l[i]).f1 ∧ (l[i]).f1 ≤ 8 ∧ (0 < (l[i]).f0 ∨ (l[i]).f1 = 0)) → mayB (c l[i]) = false := by
      intro h
      rw [Bool.eq_false_iff]
      intro h'
      exact h (hm.1 h')
    by_cases g1 : (l[i]).f0 < 0
    · refine Ev.step (fun k => ?_) (hbad (hmf (by omega)))
      simp only [undercroftref14_Check.l0]
      rw [if_pos (by omega), if_pos (by omega), rd31 l i hil, if_pos g1]
    by_cases g2 : (l[i]).f0 > 1099511627776
    · refine Ev.step (fun k => ?_) (hbad (hmf (by omega)))
      simp only [undercroftref14_Check.l0]
      rw [if_pos (by omega), if_pos (by omega), rd31 l i hil, if_neg g1, if_pos g2]
    by_cases g3 : (l[i]).f1 < 0
    · refine Ev.step (fun k => ?_) (hbad (hmf (by omega)))
      simp only [undercroftref14_Check.l0]
      rw [if_pos (by omega), if_pos (by omega), rd31 l i hil, if_neg g1, if_neg g2, if_pos g3]
    by_cases g4 : (l[i]).f1 > 8
    · refine Ev.step (fun k => ?_) (hbad (hmf (by omega)))
      simp only [undercroftref14_Check.l0]
      rw [if_pos (by omega), if_pos (by omega), rd31 l i hil, if_neg g1, if_neg g2, if_neg g3, if_pos g4]
    by_cases g5 : (l[i]).f0 = 0
    · by_cases g6 : (l[i]).f1 = 0
      · refine Ev.step (fun k => ?_) (hgood (hm.2 (by omega)))
        simp only [undercroftref14_Check.l0]
        rw [if_pos (by omega), if_pos (by omega), rd31 l i hil, if_neg g1, if_neg g2, if_neg g3, if_neg g4, if_pos g5, show ((l[i]).f1 != 0) = false from by simp [g6]]
      · refine Ev.step (fun k => ?_) (hbad (hmf (by omega)))
        simp only [undercroftref14_Check.l0]
        rw [if_pos (by omega), if_pos (by omega), rd31 l i hil, if_neg g1, if_neg g2, if_neg g3, if_neg g4, if_pos g5, show ((l[i]).f1 != 0) = true from by simp [g6]]
    · refine Ev.step (fun k => ?_) (hgood (hm.2 (by omega)))
      simp only [undercroftref14_Check.l0]
      rw [if_pos (by omega), if_pos (by omega), rd31 l i hil, if_neg g1, if_neg g2, if_neg g3, if_neg g4, if_neg g5]

theorem refCheck_ev (l : List S31) (hs : l.length * 16 ≤ 140737488351232) : Ev (fun k => undercroftref14_Check.f k l) (chkv l) := by
  unfold undercroftref14_Check.f chkv
  by_cases h1 : (l.length : Int) < 1
  · have e : ok0 (l.map c) = false := by simp [ok0]; omega
    rw [e]
    simp only [if_pos h1, chk_false]
    exact Ev.step (f := fun _ => some 9) (fun k => by simp only [undercroftref14_Check.j0]; rfl) (Ev.now _)
  · simp only [if_neg h1]
    by_cases h2 : (l.length : Int) > 64
    · have e : ok0 (l.map c) = false := by simp [ok0]; omega
      rw [e]
      simp only [decide_eq_true h2, chk_false]
      exact Ev.step (f := fun _ => some 9) (fun k => by simp only [undercroftref14_Check.j0]; rfl) (Ev.now _)
    · have e : ok0 (l.map c) = true := by simp [ok0]; omega
      rw [e]
      simp only [decide_eq_false h2]
      exact Ev.step (f := fun k => undercroftref14_Check.l0 k l 0) (fun k => by simp only [undercroftref14_Check.j0]; rfl) (refCheck_l0 l hs l.length 0 (by omega))

theorem own_f (l : List S31) (hs : l.length * 16 ≤ 140737488351232) : undercroftref14_own.f l = some l := by
  unfold undercroftref14_own.f
  rw [if_pos (by simp; omega)]
  rfl

theorem refAlloc_ev (l : List S31) (hs : l.length * 16 ≤ 140737488351232) (a1 a2 : Int) : Ev (fun k => undercroftref14_Alloc.f k l a1 a2) (allocS l a1 a2) := by
  unfold undercroftref14_Alloc.f
  refine Ev.bind (refCheck_ev l hs) ?_
  unfold allocS
  by_cases h0 : chkv l = 0
  · simp only [if_pos h0]
    by_cases h1 : a1 < 1
    · simp only [if_pos h1]; exact Ev.now _
    · simp only [if_neg h1]
      have hm := mayB_iff ⟨a1, a2⟩
      simp only at hm
      have hmf : ¬ (0 ≤ a1 ∧ a1 ≤ 1099511627776 ∧ 0 ≤ a2 ∧ a2 ≤ 8 ∧ (0 < a1 ∨ a2 = 0)) → mayB ⟨a1, a2⟩ = false := fun h => by
        rw [Bool.eq_false_iff]
        exact fun h' => h (hm.1 h')
      by_cases h2 : a1 > 1099511627776
      · simp only [if_pos h2, if_pos (hmf (by omega))]; exact Ev.now _
      by_cases h3 : a2 < 0
      · simp only [if_neg h2, if_pos h3, if_pos (hmf (by omega))]; exact Ev.now _
      by_cases h4 : a2 > 8
      · simp only [if_neg h2, if_neg h3, if_pos h4, if_pos (hmf (by omega))]; exact Ev.now _
      have hmt : ¬ mayB ⟨a1, a2⟩ = false := by rw [hm.2 (by omega)]; simp
      simp only [if_neg h2, if_neg h3, if_neg h4, if_neg hmt]
      -- the second loop
      have loop1 : Ev (fun k => undercroftref14_Alloc.l1 k l a1 a2 0) (if idxP (fun x : S39 => x.f0 == 0) (l.map c) < 0 then ([], 0, 51) else (l.set (idxP (fun x : S39 => x.f0 == 0) (l.map c)).toNat ⟨a1, a2⟩, idxP (fun x : S39 => x.f0 == 0) (l.map c), 0)) := by
        rcases idxP_spec (fun x : S39 => x.f0 == 0) (l.map c) with ⟨h5, hno⟩ | ⟨i, h5, hi, hp, hb⟩
        · rw [h5, if_pos (by omega)]
          have key : ∀ (d i : Nat), i + d = l.length → Ev (fun k => undercroftref14_Alloc.l1 k l a1 a2 i) ([], 0, 51) := by
            intro d
            induction d with
            | zero =>
              intro i hi
              refine Ev.step (f := fun _ => some ([], 0, 51)) (fun k => ?_) (Ev.now _)
              simp only [undercroftref14_Alloc.l1]
              rw [if_neg (by omega)]
            | succ d ih =>
              intro i hi
              have hz : ¬ (l[i]'(by omega)).f0 = 0 := by
                have := hno (c (l[i]'(by omega))) (List.mem_map_of_mem (List.getElem_mem _))
                simpa [c] using this
              refine Ev.step (f := fun k => undercroftref14_Alloc.l1 k l a1 a2 (i + 1 : Nat)) (fun k => ?_) (ih (i + 1) (by omega))
              simp only [undercroftref14_Alloc.l1]
              rw [if_pos (by omega), if_pos (by omega), rd31 l i (by omega), if_neg hz, wrap_ok (by omega) (by omega)]
              rfl
          exact key l.length 0 (by omega)
        · have hil : i < l.length := by simpa using hi
          have hp' : (l[i]).f0 = 0 := by simpa [c] using hp
          have hb' : ∀ j (hj : j < i), ¬ (l[j]'(by omega)).f0 = 0 := fun j hj => by simpa [c] using hb j hj
          rw [h5, if_neg (by omega)]
          have key : ∀ (d j : Nat), j + d = i → Ev (fun k => undercroftref14_Alloc.l1 k l a1 a2 j) (l.set (i : Int).toNat ⟨a1, a2⟩, (i : Int), 0) := by
            intro d
            induction d with
            | zero =>
              intro j hj
              obtain rfl : j = i := by omega
              refine Ev.step (f := fun _ => some (l.set (j : Int).toNat ⟨a1, a2⟩, (j : Int), 0)) (fun k => ?_) (Ev.now _)
              simp only [undercroftref14_Alloc.l1]
              rw [if_pos (by omega), if_pos (by omega), rd31 l j hil, if_pos hp', own_f l hs]
              simp only [Option.bind_some]
              rw [if_pos (by omega)]
            | succ d ih =>
              intro j hj
              refine Ev.step (f := fun k => undercroftref14_Alloc.l1 k l a1 a2 (j + 1 : Nat)) (fun k => ?_) (ih (j + 1) (by omega))
              simp only [undercroftref14_Alloc.l1]
              rw [if_pos (by omega), if_pos (by omega), rd31 l j (by omega), if_neg (hb' j (by omega)), wrap_ok (by omega) (by omega)]
              rfl
          exact key i 0 (by omega)
      rcases idxP_spec (fun x : S39 => x.f0 == a1) (l.map c) with ⟨h5, hno⟩ | ⟨i, h5, hi, hp, hb⟩
      · rw [h5, if_neg (by omega)]
        have key : ∀ (d i : Nat), i + d = l.length → Ev (fun k => undercroftref14_Alloc.l0 k l a1 a2 i) (if idxP (fun x : S39 => x.f0 == 0) (l.map c) < 0 then ([], 0, 51) else (l.set (idxP (fun x : S39 => x.f0 == 0) (l.map c)).toNat ⟨a1, a2⟩, idxP (fun x : S39 => x.f0 == 0) (l.map c), 0)) := by
          intro d
          induction d with
          | zero =>
            intro i hi
            refine Ev.step (fun k => ?_) loop1
            simp only [undercroftref14_Alloc.l0]
            rw [if_neg (by omega)]
          | succ d ih =>
            intro i hi
            have hz : ¬ (l[i]'(by omega)).f0 = a1 := by
              have := hno (c (l[i]'(by omega))) (List.mem_map_of_mem (List.getElem_mem _))
              simpa [c] using this
            refine Ev.step (f := fun k => undercroftref14_Alloc.l0 k l a1 a2 (i + 1 : Nat)) (fun k => ?_) (ih (i + 1) (by omega))
            simp only [undercroftref14_Alloc.l0]
            rw [if_pos (by omega), if_pos (by omega), rd31 l i (by omega), if_neg hz, wrap_ok (by omega) (by omega)]
            rfl
        exact key l.length 0 (by omega)
      · have hil : i < l.length := by simpa using hi
        have hp' : (l[i]).f0 = a1 := by simpa [c] using hp
        have hb' : ∀ j (hj : j < i), ¬ (l[j]'(by omega)).f0 = a1 := fun j hj => by simpa [c] using hb j hj
        rw [h5, if_pos (by omega)]
        have key : ∀ (d j : Nat), j + d = i → Ev (fun k => undercroftref14_Alloc.l0 k l a1 a2 j) ([], 0, 6) := by
          intro d
          induction d with
          | zero =>
            intro j hj
            obtain rfl : j = i := by omega
            refine Ev.step (f := fun _ => some ([], 0, 6)) (fun k => ?_) (Ev.now _)
            simp only [undercroftref14_Alloc.l0]
            rw [if_pos (by omega), if_pos (by omega), rd31 l j hil, if_pos hp']
          | succ d ih =>
            intro j hj
            refine Ev.step (f := fun k => undercroftref14_Alloc.l0 k l a1 a2 (j + 1 : Nat)) (fun k => ?_) (ih (j + 1) (by omega))
            simp only [undercroftref14_Alloc.l0]
            rw [if_pos (by omega), if_pos (by omega), rd31 l j (by omega), if_neg (hb' j (by omega)), wrap_ok (by omega) (by omega)]
            rfl
        exact key i 0 (by omega)
  · simp only [if_neg h0]; exact Ev.now _

theorem alloc_len {l : List S31} {a1 a2 : Int} : (allocS l a1 a2).1.length ≤ l.length := by
  unfold allocS; repeat' split
  all_goals simp

/-- Kill, as the page has it. -/
def killS (l : List S31) (a1 a2 : Int) : List S31 × Int :=
  if chkv l = 0 then
    (if a1 < 0 then ([], 71) else if ¬ a1 < l.length then ([], 71) else if (rd_T31 l a1).f0 = 0 then ([], 71)
      else if a2 < 0 then ([], 4) else if a2 > (rd_T31 l a1).f1 then ([], 4)
      else (l.set a1.toNat ⟨(rd_T31 l a1).f0, wrap64 ((rd_T31 l a1).f1 - a2)⟩, 0))
  else ([], 9)
theorem rd_c (l : List S31) (i : Int) (h0 : 0 ≤ i) (h1 : i < l.length) : rd_T39 (l.map c) i = c (rd_T31 l i) := by
  obtain ⟨n, rfl⟩ := Int.eq_ofNat_of_zero_le h0
  rw [rd39 _ n (by simp; omega), rd31 l n (by omega), List.getElem_map]
theorem kill_f (l : List S31) (hw : wfs l) (a1 a2 : Int) : table_Kill.f (l.map c) a1 a2 = some ((killS l a1 a2).1.map c, (killS l a1 a2).2) := by
  unfold table_Kill.f killS
  rw [check_f l hw]
  simp only [Option.bind_some, List.length_map]
  by_cases h0 : chkv l = 0
  · have hlen := len_of_chkv h0
    simp only [if_pos h0]
    by_cases h1 : a1 < 0
    · simp only [if_pos h1]; rfl
    by_cases h2 : ¬ a1 < (l.length : Int)
    · simp only [if_neg h1, if_pos h2]; rfl
    simp only [if_neg h1, if_neg h2]
    have e := rd_c l a1 (by omega) (Classical.not_not.1 h2)
    rw [e]
    by_cases h3 : (rd_T31 l a1).f0 = 0
    · rw [if_pos (show (c (rd_T31 l a1)).f0 = 0 from h3), if_pos h3]; rfl
    rw [if_neg (show ¬ (c (rd_T31 l a1)).f0 = 0 from h3), if_neg h3, if_neg (by omega)]
    by_cases h4 : a2 < 0
    · simp only [if_pos h4]; rfl
    by_cases h5 : a2 > (rd_T31 l a1).f1
    · simp only [if_neg h4]; rw [if_pos (show a2 > (c (rd_T31 l a1)).f1 from h5), if_pos h5]; rfl
    simp only [if_neg h4]
    rw [if_neg (show ¬ a2 > (c (rd_T31 l a1)).f1 from h5), if_neg h5, List.map_set]
    rfl
  · rw [if_neg h0, if_neg h0]
    have : chkv l = 9 := by rcases chkv_cases l with h | h <;> simp_all
    rw [this]
    rfl

def usedS (l : List S31) (a1 : Int) : Int := if chkv l = 0 then (if a1 < 0 then 71 else if a1 ≥ l.length then 71 else if (rd_T31 l a1).f0 = 0 then 71 else 0) else 9
theorem used_ev (l : List S31) (hs : l.length * 16 ≤ 140737488351232) (a1 : Int) : Ev (fun k => undercroftref14_used.f k l a1) (usedS l a1) := by
  unfold undercroftref14_used.f usedS
  refine Ev.bind (refCheck_ev l hs) ?_
  by_cases h0 : chkv l = 0
  · simp only [if_pos h0]
    by_cases h1 : a1 < 0
    · simp only [if_pos h1]; exact Ev.now _
    by_cases h2 : a1 ≥ (l.length : Int)
    · simp only [if_neg h1, if_pos h2]; exact Ev.now _
    simp only [if_neg h1, if_neg h2, if_pos (show 0 ≤ a1 by omega), if_pos (show a1 < (l.length : Int) by omega)]
    by_cases h3 : (rd_T31 l a1).f0 = 0
    · simp only [if_pos h3]; exact Ev.now _
    · simp only [if_neg h3]; exact Ev.now _
  · simp only [if_neg h0]; exact Ev.now _
theorem refKill_ev (l : List S31) (hs : l.length * 16 ≤ 140737488351232) (a1 a2 : Int) : Ev (fun k => undercroftref14_Kill.f k l a1 a2) (killS l a1 a2) := by
  unfold undercroftref14_Kill.f
  refine Ev.bind (used_ev l hs a1) ?_
  simp only [own_f l hs, Option.bind_some]
  unfold usedS killS
  by_cases h0 : chkv l = 0
  · simp only [if_pos h0]
    by_cases h1 : a1 < 0
    · simp only [if_pos h1]; exact Ev.now _
    by_cases h2 : a1 ≥ (l.length : Int)
    · simp only [if_neg h1, if_pos h2, if_pos (show ¬ a1 < (l.length : Int) by omega)]; exact Ev.now _
    simp only [if_neg h1, if_neg h2, if_neg (show ¬ ¬ a1 < (l.length : Int) by omega)]
    by_cases h3 : (rd_T31 l a1).f0 = 0
    · simp only [if_pos h3]; exact Ev.now _
    simp only [if_neg h3, if_true, if_pos (show 0 ≤ a1 by omega), if_pos (show a1 < (l.length : Int) by omega)]
    by_cases h4 : a2 < 0
    · simp only [if_pos h4]; exact Ev.now _
    by_cases h5 : a2 > (rd_T31 l a1).f1
    · simp only [if_neg h4, if_pos h5]; exact Ev.now _
    simp only [if_neg h4, if_neg h5]; exact Ev.now _
  · simp only [if_neg h0]; exact Ev.now _
theorem kill_len {l : List S31} {a1 a2 : Int} : (killS l a1 a2).1.length ≤ l.length := by
  unfold killS; repeat' split
  all_goals simp

/-- Free, as the page has it. -/
def freeS (l : List S31) (a1 : Int) : List S31 × Int :=
  if chkv l = 0 then
    (if a1 < 0 then ([], 71) else if ¬ a1 < l.length then ([], 71) else if (rd_T31 l a1).f0 = 0 then ([], 71)
      else if (rd_T31 l a1).f1 > 0 then ([], 91) else (l.set a1.toNat ⟨0, 0⟩, 0))
  else ([], 9)
theorem free_f (l : List S31) (hw : wfs l) (a1 : Int) : table_Free.f (l.map c) a1 = some ((freeS l a1).1.map c, (freeS l a1).2) := by
  unfold table_Free.f freeS
  rw [check_f l hw]
  simp only [Option.bind_some, List.length_map]
  by_cases h0 : chkv l = 0
  · have hlen := len_of_chkv h0
    simp only [if_pos h0]
    by_cases h1 : a1 < 0
    · simp only [if_pos h1]; rfl
    by_cases h2 : ¬ a1 < (l.length : Int)
    · simp only [if_neg h1, if_pos h2]; rfl
    simp only [if_neg h1, if_neg h2]
    have e := rd_c l a1 (by omega) (Classical.not_not.1 h2)
    rw [e]
    by_cases h3 : (rd_T31 l a1).f0 = 0
    · rw [if_pos (show (c (rd_T31 l a1)).f0 = 0 from h3), if_pos h3]; rfl
    rw [if_neg (show ¬ (c (rd_T31 l a1)).f0 = 0 from h3), if_neg h3, if_neg (by omega)]
    by_cases h5 : (rd_T31 l a1).f1 > 0
    · rw [if_pos (show (c (rd_T31 l a1)).f1 > 0 from h5), if_pos h5]; rfl
    rw [if_neg (show ¬ (c (rd_T31 l a1)).f1 > 0 from h5), if_neg h5, List.map_set]
    rfl
  · rw [if_neg h0, if_neg h0]
    have : chkv l = 9 := by rcases chkv_cases l with h | h <;> simp_all
    rw [this]
    rfl
theorem refFree_ev (l : List S31) (hs : l.length * 16 ≤ 140737488351232) (a1 : Int) : Ev (fun k => undercroftref14_Free.f k l a1) (freeS l a1) := by
  unfold undercroftref14_Free.f
  refine Ev.bind (used_ev l hs a1) ?_
  simp only [own_f l hs, Option.bind_some]
  unfold usedS freeS
  by_cases h0 : chkv l = 0
  · simp only [if_pos h0]
    by_cases h1 : a1 < 0
    · simp only [if_pos h1]; exact Ev.now _
    by_cases h2 : a1 ≥ (l.length : Int)
    · simp only [if_neg h1, if_pos h2, if_pos (show ¬ a1 < (l.length : Int) by omega)]; exact Ev.now _
    simp only [if_neg h1, if_neg h2, if_neg (show ¬ ¬ a1 < (l.length : Int) by omega)]
    by_cases h3 : (rd_T31 l a1).f0 = 0
    · simp only [if_pos h3]; exact Ev.now _
    simp only [if_neg h3, if_true, if_pos (show 0 ≤ a1 by omega), if_pos (show a1 < (l.length : Int) by omega)]
    by_cases h5 : (rd_T31 l a1).f1 > 0
    · simp only [if_pos h5]; exact Ev.now _
    simp only [if_neg h5]; exact Ev.now _
  · simp only [if_neg h0]; exact Ev.now _
theorem free_len {l : List S31} {a1 : Int} : (freeS l a1).1.length ≤ l.length := by
  unfold freeS; repeat' split
  all_goals simp

/-- Room's loop. -/
def roomL : List S31 → Int → Int → Int × Int × Int
  | [], a, b => (a, b, 0)
  | x :: r, a, b => roomL r (if x.f0 = 0 then wrap64 (a + 1) else a) (wrap64 (b + x.f1))
def roomS (l : List S31) : Int × Int × Int := if chkv l = 0 then roomL l 0 0 else (0, 0, 9)
theorem room_ev (l : List S31) (hw : wfs l) (hs : l.length * 16 ≤ 140737488351232) : Ev (fun k => table_Room.f k (l.map c)) (roomS l) := by
  unfold table_Room.f roomS
  rw [check_f l hw]
  simp only [Option.bind_some]
  by_cases h0 : chkv l = 0
  · simp only [if_pos h0]
    have key : ∀ (d i : Nat) (a b : Int), i + d = l.length → Ev (fun k => table_Room.l0 k a b (l.map c) ((l.map c).length : Int) i) (roomL (l.drop i) a b) := by
      intro d
      induction d with
      | zero =>
        intro i a b hi
        rw [List.drop_eq_nil_of_le (by omega)]
        refine Ev.step (f := fun _ => some (a, b, 0)) (fun k => ?_) (Ev.now _)
        simp only [table_Room.l0]
        rw [if_neg (by simp; omega)]
      | succ d ih =>
        intro i a b hi
        rw [List.drop_eq_getElem_cons (by omega), roomL]
        refine Ev.step (fun k => ?_) (ih (i + 1) _ _ (by omega))
        simp only [table_Room.l0]
        rw [if_pos (by simp; omega), if_pos (by omega), if_pos (by simp; omega), rd39 _ i (by simp; omega), wrap_ok (i := (i : Int)) (by omega) (by omega), List.getElem_map]
        by_cases hz : (l[i]'(by omega)).f0 = 0
        · rw [if_pos (show (c (l[i]'(by omega))).f0 = 0 from hz), if_pos hz]; rfl
        · rw [if_neg (show ¬ (c (l[i]'(by omega))).f0 = 0 from hz), if_neg hz]; rfl
    exact key l.length 0 0 0 (by omega)
  · simp only [if_neg h0]
    have : chkv l = 9 := by rcases chkv_cases l with h | h <;> simp_all
    rw [this]
    exact Ev.now _
theorem refRoom_ev (l : List S31) (hs : l.length * 16 ≤ 140737488351232) : Ev (fun k => undercroftref14_Room.f k l) (roomS l) := by
  unfold undercroftref14_Room.f roomS
  refine Ev.bind (refCheck_ev l hs) ?_
  by_cases h0 : chkv l = 0
  · simp only [if_pos h0]
    have key : ∀ (d i : Nat) (a b : Int), i + d = l.length → Ev (fun k => undercroftref14_Room.l0 k l a b i) (roomL (l.drop i) a b) := by
      intro d
      induction d with
      | zero =>
        intro i a b hi
        rw [List.drop_eq_nil_of_le (by omega)]
        refine Ev.step (f := fun _ => some (a, b, 0)) (fun k => ?_) (Ev.now _)
        simp only [undercroftref14_Room.l0]
        rw [if_neg (by omega)]
      | succ d ih =>
        intro i a b hi
        rw [List.drop_eq_getElem_cons (by omega), roomL]
        refine Ev.step (fun k => ?_) (ih (i + 1) _ _ (by omega))
        simp only [undercroftref14_Room.l0]
        rw [if_pos (by omega), if_pos (by omega), rd31 l i (by omega), wrap_ok (i := (i : Int)) (by omega) (by omega)]
        by_cases hz : (l[i]'(by omega)).f0 = 0
        · rw [if_pos hz, if_pos hz]; rfl
        · rw [if_neg hz, if_neg hz]; rfl
    exact key l.length 0 0 0 (by omega)
  · simp only [if_neg h0]; exact Ev.now _

def newS (n : Int) : List S31 × Int := if n < 1 then ([], 4) else if n > 64 then ([], 4) else (List.replicate n.toNat z31, 0)
theorem new_f (n : Int) : table_New.f n = some ((newS n).1.map c, (newS n).2) := by
  unfold table_New.f newS
  by_cases h1 : n < 1
  · simp only [if_pos h1]; rfl
  by_cases h2 : n > 64
  · simp only [if_neg h1, if_pos h2]; rfl
  simp only [if_neg h1, if_neg h2, if_pos (show 0 ≤ n by omega), if_pos (show n.toNat ≤ 17592186044416 by omega), List.map_replicate]; rfl
theorem refNew_f (n : Int) : undercroftref14_New.f n = some (newS n) := by
  unfold undercroftref14_New.f newS
  by_cases h1 : n < 1
  · simp only [if_pos h1]
  by_cases h2 : n > 64
  · simp only [if_neg h1, if_pos h2]
  simp only [if_neg h1, if_neg h2, if_pos (show 0 ≤ n by omega), if_pos (show n.toNat ≤ 17592186044416 by omega)]
theorem new_len (n : Int) : (newS n).1.length ≤ 64 := by
  unfold newS; repeat' split
  all_goals simp
  omega

theorem TableTells (l : List S31) (a1 a2 a3 a4 : Int) (hl : wfs l) (hs : l.length * 16 ≤ 140737488351232) : ∃ k, undercroftlaw14_TableTells.f k l a1 a2 a3 a4 = some true := by
  refine Ev.rounds (g := fun k => undercroftlaw14_TableTells.f k l a1 a2 a3 a4) ?_
  unfold undercroftlaw14_TableTells.f
  refine Ev.bind (of_ev l hs) ?_
  simp only [alloc_f l hl, kill_f l hl, free_f l hl, new_f, refNew_f, alive_ok, check_f l hl, undercroftlaw14_num.f, Option.bind_some]
  refine Ev.bind (refAlloc_ev l hs a1 a2) ?_
  refine Ev.bind (refKill_ev l hs a3 a4) ?_
  refine Ev.bind (refFree_ev l hs a3) ?_
  refine Ev.bind (room_ev l hl hs) ?_
  refine Ev.bind (refRoom_ev l hs) ?_
  have ha := @alloc_len l a1 a2
  have hk := @kill_len l a3 a4
  have hf := @free_len l a3
  refine Ev.bind (same_ev _ (by omega)) ?_
  simp only [if_true]
  refine Ev.bind (same_ev _ (by omega)) ?_
  simp only [if_true]
  refine Ev.bind (same_ev _ (by omega)) ?_
  simp only [if_true]
  refine Ev.bind (same_ev _ (by have := new_len a4; omega)) ?_
  simp only [if_true]
  refine Ev.bind (refCheck_ev l hs) ?_
  simp only [if_true]
  refine Ev.bind (same_ev _ hs) ?_
  simp only [if_true]
  exact Ev.now _

theorem TableOwn (l : List S31) (a1 a2 : Int) (hl : wfs l) (hs : l.length * 16 ≤ 140737488351232) : ∃ k, undercroftlaw14_TableOwn.f k l a1 a2 = some true := by
  refine Ev.rounds (g := fun k => undercroftlaw14_TableOwn.f k l a1 a2) ?_
  unfold undercroftlaw14_TableOwn.f
  simp only [alive_ok, Option.bind_some, if_true]
  refine Ev.bind (of_ev l hs) ?_
  simp only [alloc_f l hl, kill_f l hl, Option.bind_some]
  refine Ev.bind (refAlloc_ev l hs a1 1) ?_
  refine Ev.bind (refKill_ev l hs a2 0) ?_
  have ha := @alloc_len l a1 1
  have hk := @kill_len l a2 0
  have key : ∀ (d i : Nat) (x : List S39), x.length = l.length → i + d = l.length → Ev (fun k => undercroftlaw14_TableOwn.l0 k x ((allocS l a1 1).1.map c) (allocS l a1 1).2.2 (allocS l a1 1).1 (allocS l a1 1).2.2 ((killS l a2 0).1.map c) (killS l a2 0).2 (killS l a2 0).1 (killS l a2 0).2 i) true := by
    intro d
    induction d with
    | zero =>
      intro i x hx hi
      refine Ev.step (fun k => by simp only [undercroftlaw14_TableOwn.l0]; rw [if_neg (by omega)]) ?_
      simp only [undercroftlaw14_num.f, Option.bind_some]
      refine Ev.bind (same_ev _ (by omega)) ?_
      simp only [if_true]
      refine Ev.bind (same_ev _ (by omega)) ?_
      simp only [if_true, beq_self_eq_true]
      exact Ev.now _
    | succ d ih =>
      intro i x hx hi
      refine Ev.step (fun k => ?_) (ih (i + 1) (x.set (i : Int).toNat ⟨-1, 0⟩) (by simpa using hx) (by omega))
      simp only [undercroftlaw14_TableOwn.l0]
      rw [if_pos (by omega), if_pos (by omega), wrap_ok (by omega) (by omega)]
      rfl
  exact key l.length 0 (l.map c) (by simp) (by omega)
end Go.Proofs.Yteahohglkeimmaa.Plain
namespace Go.Proofs.Yteahohglkeimmaa.Pure
open Go.RowKit Go.Proofs.Yteahohglkeimmaa.T
theorem TableOwn (l : List S31) (a1 a2 : Int) (h : Ok31 l) (_ : (Lit.int .i64 a1).wf = true) (_ : (Lit.int .i64 a2).wf = true) : ∃ k, undercroftlaw14_TableOwn.f k l a1 a2 = some true :=
  Plain.TableOwn l a1 a2 h.1 h.2.1
theorem TableTells (l : List S31) (a1 a2 a3 a4 : Int) (h : Ok31 l) (_ : (Lit.int .i64 a1).wf = true) (_ : (Lit.int .i64 a2).wf = true) (_ : (Lit.int .i64 a3).wf = true) (_ : (Lit.int .i64 a4).wf = true) : ∃ k, undercroftlaw14_TableTells.f k l a1 a2 a3 a4 = some true :=
  Plain.TableTells l a1 a2 a3 a4 h.1 h.2.1
end Go.Proofs.Yteahohglkeimmaa.Pure
