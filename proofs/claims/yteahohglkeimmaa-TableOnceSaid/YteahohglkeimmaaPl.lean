/- Plain laws of the table layer: no program and no memory in sight. -/
import Derived.Test.YteahohglkeimmaaTx2
import Derived.Test.YteahohglkeimmaaTx3
import Derived.Test.YteahohglkeimmaaTx4
import Derived.Test.YteahohglkeimmaaTx5
import Derived.Test.YteahohglkeimmaaTx6
namespace Go.Proofs.Yteahohglkeimmaa.Plain
open Go.RowKit Go.Proofs.YteahohglkeimmaaW.PrintWords Go.Proofs.Yteahohglkeimmaa.T
set_option linter.unusedVariables false

def c (x : S31) : S39 := ⟨x.f0, x.f1⟩
def wfs (l : List S31) : Prop := ∀ x ∈ l, (Lit.int .i64 x.f0).wf = true ∧ (Lit.int .i64 x.f1).wf = true

theorem wrap_ok {i : Int} (h0 : 0 ≤ i) (h1 : i < 9223372036854775807) : wrap64 (i + 1) = i + 1 := by unfold wrap64; omega

theorem rd31 (l : List S31) (i : Nat) (h : i < l.length) : rd_T31 l (i : Int) = l[i] := by
  unfold rd_T31; rw [Int.toNat_natCast, List.getD_eq_getElem?_getD, List.getElem?_eq_getElem h]; rfl
theorem rd39 (l : List S39) (i : Nat) (h : i < l.length) : rd_T39 l (i : Int) = l[i] := by
  unfold rd_T39; rw [Int.toNat_natCast, List.getD_eq_getElem?_getD, List.getElem?_eq_getElem h]; rfl

theorem of_ev (l : List S31) (h : l.length * 16 ≤ 140737488351232) : Ev (fun k => undercroftlaw14_of.f k l) (l.map c) := by
  have key : ∀ (d i : Nat), i + d = l.length → Ev (fun k => undercroftlaw14_of.l0 k l ((l.take i).map c) i) (l.map c) := by
    intro d
    induction d with
    | zero =>
      intro i hi
      refine Ev.step (f := fun _ => some (l.map c)) (fun k => ?_) (Ev.now _)
      simp only [undercroftlaw14_of.l0]
      rw [if_neg (by omega), List.take_of_length_le (by omega)]
    | succ d ih =>
      intro i hi
      refine Ev.step (f := fun k => undercroftlaw14_of.l0 k l ((l.take (i + 1)).map c) (i + 1 : Nat)) (fun k => ?_) (ih (i + 1) (by omega))
      simp only [undercroftlaw14_of.l0]
      rw [if_pos (by omega), if_pos (by omega), if_pos (by simp; omega), wrap_ok (by omega) (by omega), rd31 l i (by omega), List.take_succ_eq_append_getElem (by omega), List.map_append]
      rfl
  exact key l.length 0 (by omega)

theorem same_ev (l : List S31) (h : l.length * 16 ≤ 140737488351232) : Ev (fun k => undercroftlaw14_same.f k (l.map c) l) true := by
  have key : ∀ (d i : Nat), i + d = l.length → Ev (fun k => undercroftlaw14_same.l0 k (l.map c) l i) true := by
    intro d
    induction d with
    | zero =>
      intro i hi
      refine Ev.step (f := fun _ => some true) (fun k => ?_) (Ev.now _)
      simp only [undercroftlaw14_same.l0]
      rw [if_neg (by simp; omega)]
    | succ d ih =>
      intro i hi
      refine Ev.step (f := fun k => undercroftlaw14_same.l0 k (l.map c) l (i + 1 : Nat)) (fun k => ?_) (ih (i + 1) (by omega))
      simp only [undercroftlaw14_same.l0]
      rw [if_pos (by simp; omega), if_pos (by omega), if_pos (by omega), wrap_ok (by omega) (by omega), rd31 l i (by omega), rd39 _ i (by simp; omega), if_neg (by simp [c])]
      rfl
  have := key l.length 0 (by omega)
  refine Ev.congr (fun k => ?_) this
  unfold undercroftlaw14_same.f
  rw [if_pos (by simp)]
  rfl

theorem alive_ok : undercroftlaw14_alive.f = some true := by kernel_rfl

/-- What Check tells. -/
def chkv (l : List S31) : Int := if chk (ok0 (l.map c)) [] (l.map c) then 0 else 9
theorem chkv_cases (l : List S31) : chkv l = 0 ∨ chkv l = 9 := by unfold chkv; split <;> simp
theorem check_f (l : List S31) (hw : wfs l) : table_Check.f (l.map c) = some (chkv l) := by
  unfold table_Check.f chkv
  rw [if_pos]
  rw [List.all_eq_true]
  intro x hx
  obtain ⟨y, hy, rfl⟩ := List.mem_map.1 hx
  exact (hw y hy).1

theorem chk_false (s : List Int) (l : List S39) : chk false s l = false := by
  induction l generalizing s with
  | nil => rfl
  | cons x r ih => simp only [chk, Bool.false_and]; exact ih _
theorem chk_len {b : Bool} {l : List S31} (h : chk (ok0 (l.map c)) [] (l.map c) = true) : 1 ≤ l.length ∧ l.length ≤ 64 := by
  cases hk : ok0 (l.map c) with
  | false => rw [hk, chk_false] at h; cases h
  | true => simpa [ok0] using hk
theorem len_of_chkv {l : List S31} (h : chkv l = 0) : 1 ≤ l.length ∧ l.length ≤ 64 := by
  unfold chkv at h
  split at h
  · exact chk_len (b := true) ‹_›
  · simp at h

/-- Alloc, as the page has it: a table over the page's slots. -/
def allocS (l : List S31) (a1 a2 : Int) : List S31 × Int × Int :=
  if chkv l = 0 then
    (if a1 < 1 then ([], 0, 4) else if mayB ⟨a1, a2⟩ = false then ([], 0, 4)
      else if 0 ≤ idxP (fun x : S39 => x.f0 == a1) (l.map c) then ([], 0, 6)
      else if idxP (fun x : S39 => x.f0 == 0) (l.map c) < 0 then ([], 0, 51)
      else (l.set (idxP (fun x : S39 => x.f0 == 0) (l.map c)).toNat ⟨a1, a2⟩, idxP (fun x : S39 => x.f0 == 0) (l.map c), 0))
  else ([], 0, 9)
theorem alloc_f (l : List S31) (hw : wfs l) (a1 a2 : Int) : table_Alloc.f (l.map c) a1 a2 = some ((allocS l a1 a2).1.map c, (allocS l a1 a2).2.1, (allocS l a1 a2).2.2) := by
  unfold table_Alloc.f allocS
  rw [check_f l hw]
  simp only [Option.bind_some]
  by_cases h0 : chkv l = 0
  · rw [if_pos h0, if_pos h0]
    by_cases h1 : a1 < 1
    · simp only [if_pos h1]; rfl
    · simp only [if_neg h1]
      by_cases h2 : mayB ⟨a1, a2⟩ = false
      · simp only [if_pos h2]; rfl
      · simp only [if_neg h2]
        by_cases h3 : 0 ≤ idxP (fun x : S39 => x.f0 == a1) (l.map c)
        · simp only [if_pos h3]; rfl
        · simp only [if_neg h3]
          by_cases h4 : idxP (fun x : S39 => x.f0 == 0) (l.map c) < 0
          · simp only [if_pos h4]; rfl
          · simp only [if_neg h4]
            rw [if_pos (by have := len_of_chkv h0; simp; omega), List.map_set]
            rfl
  · rw [if_neg h0, if_neg h0]
    have : chkv l = 9 := by rcases chkv_cases l with h | h <;> simp_all
    rw [this]
    rfl

theorem idxP_spec {α : Type} (p : α → Bool) (l : List α) : (idxP p l = -1 ∧ ∀ x ∈ l, p x = false) ∨ (∃ i : Nat, idxP p l = i ∧ ∃ h : i < l.length, p l[i] = true ∧ ∀ j (hj : j < i), p (l[j]'(by omega)) = false) := by
  unfold idxP
  split
  · rename_i h
    refine .inr ⟨_, rfl, h, List.findIdx_getElem, fun j hj => ?_⟩
    have := List.not_of_lt_findIdx hj
    simpa using this
  · rename_i h
    refine .inl ⟨rfl, fun x hx => ?_⟩
    have h2 : l.findIdx p = l.length := by have := List.findIdx_le_length (p := p) (xs := l); omega
    have := List.findIdx_eq_length.1 h2 x hx
    simpa using this

/-- The law: the slot that is given is the lowest free one. -/
theorem TableLowest (l : List S31) (a1 a2 : Int) (hl : wfs l) (hs : l.length * 16 ≤ 140737488351232) : ∃ k, undercroftlaw14_TableLowest.f k l a1 a2 = some true := by
  refine Ev.rounds (g := fun k => undercroftlaw14_TableLowest.f k l a1 a2) ?_
  unfold undercroftlaw14_TableLowest.f
  simp only [alive_ok, Option.bind_some, if_true]
  refine Ev.bind (of_ev l hs) ?_
  simp only [alloc_f l hl, Option.bind_some, undercroftlaw14_num.f]
  unfold allocS
  by_cases h0 : chkv l = 0
  · simp only [if_pos h0]
    by_cases h1 : a1 < 1
    · simp only [if_pos h1]; exact Ev.now _
    · simp only [if_neg h1]
      by_cases h2 : mayB ⟨a1, a2⟩ = false
      · simp only [if_pos h2]; exact Ev.now _
      · simp only [if_neg h2]
        by_cases h3 : 0 ≤ idxP (fun x : S39 => x.f0 == a1) (l.map c)
        · simp only [if_pos h3]; exact Ev.now _
        · simp only [if_neg h3]
          rcases idxP_spec (fun x : S39 => x.f0 == 0) (l.map c) with ⟨h4, _⟩ | ⟨i, h4, hi, hp, hb⟩
          · simp only [h4]; exact Ev.now _
          · rw [h4, if_neg (by omega)]
            simp only [if_true]
            have hil : i < l.length := by simpa using hi
            have hp' : (l[i]).f0 = 0 := by simpa [c] using hp
            have hb' : ∀ j (hj : j < i), ¬ (l[j]'(by omega)).f0 = 0 := fun j hj => by simpa [c] using hb j hj
            have key : ∀ (d j : Nat), j + d = i → Ev (fun k => undercroftlaw14_TableLowest.l0 k l (i : Int) j) true := by
              intro d
              induction d with
              | zero =>
                intro j hj
                refine Ev.step (f := fun _ => some true) (fun k => ?_) (Ev.now _)
                simp only [undercroftlaw14_TableLowest.l0]
                rw [if_neg (by omega), if_pos (by omega), if_pos (by omega), if_pos (by omega), rd31 l i hil, hp']
                rfl
              | succ d ih =>
                intro j hj
                refine Ev.step (f := fun k => undercroftlaw14_TableLowest.l0 k l (i : Int) (j + 1 : Nat)) (fun k => ?_) (ih (j + 1) (by omega))
                simp only [undercroftlaw14_TableLowest.l0]
                rw [if_pos (by omega), if_pos (by omega), if_pos (by omega), rd31 l j (by omega), if_neg (hb' j (by omega)), wrap_ok (by omega) (by omega)]
                rfl
            exact key i 0 (by omega)
  · simp only [if_neg h0]; exact Ev.now _
end Go.Proofs.Yteahohglkeimmaa.Plain
namespace Go.Proofs.Yteahohglkeimmaa.Pure
open Go.RowKit Go.Proofs.Yteahohglkeimmaa.T
def Ok31 (l : List S31) : Prop := (∀ x ∈ l, (Lit.int .i64 x.f0).wf = true ∧ (Lit.int .i64 x.f1).wf = true) ∧ l.length * 16 ≤ 140737488351232 ∧ l.length ≤ maxLen
theorem TableLowest (l : List S31) (a1 a2 : Int) (h : Ok31 l) (_ : (Lit.int .i64 a1).wf = true) (_ : (Lit.int .i64 a2).wf = true) : ∃ k, undercroftlaw14_TableLowest.f k l a1 a2 = some true :=
  Plain.TableLowest l a1 a2 h.1 h.2.1
end Go.Proofs.Yteahohglkeimmaa.Pure
