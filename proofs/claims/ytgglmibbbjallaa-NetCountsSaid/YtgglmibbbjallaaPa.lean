/- Plain laws of the net layer: no program and no memory in sight. -/
import Derived.Test.YtgglmibbbjallaaTa8
namespace Go.Proofs.Ytgglmibbbjallaa.Plain
open Go.RowKit Go.Proofs.YtgglmibbbjallaaW.PrintWords Go.Proofs.Ytgglmibbbjallaa.T
set_option linter.unusedVariables false
set_option linter.unusedSimpArgs false

def c (x : S38) : S40 := ⟨x.f0, x.f1, x.f2⟩
/-- What a packet in memory is bound to. -/
def okP (x : S38) : Prop := (Lit.int .i64 x.f0).wf = true ∧ (Lit.int .i64 x.f1).wf = true ∧ x.f2.length ≤ 140737488351232
def okL (l : List S38) : Prop := (∀ x ∈ l, okP x) ∧ l.length * 40 ≤ 140737488351232

theorem wrap_ok {i : Int} (h0 : 0 ≤ i) (h1 : i < 9223372036854775807) : wrap64 (i + 1) = i + 1 := by unfold wrap64; omega

theorem rd38 (l : List S38) (i : Nat) (h : i < l.length) : rd_T38 l (i : Int) = l[i] := by
  unfold rd_T38; rw [Int.toNat_natCast, List.getD_eq_getElem?_getD, List.getElem?_eq_getElem h]; rfl
theorem rd40 (l : List S40) (i : Nat) (h : i < l.length) : rd_T40 l (i : Int) = l[i] := by
  unfold rd_T40; rw [Int.toNat_natCast, List.getD_eq_getElem?_getD, List.getElem?_eq_getElem h]; rfl
theorem rdI (l : List Int) (i : Nat) (h : i < l.length) : rd l (i : Int) = l[i] := by
  unfold rd; rw [Int.toNat_natCast, List.getD_eq_getElem?_getD, List.getElem?_eq_getElem h]; rfl

theorem copy_ok (l : List Int) (h : l.length ≤ 140737488351232) : undercroftplain_CopyBytes.f l = some l := by
  unfold undercroftplain_CopyBytes.f
  rw [if_pos (by simp; omega), List.nil_append]
theorem one_ok (x : S38) (h : okP x) : undercroftlaw04_one.f x.f0 x.f1 x.f2 = some (x.f0, x.f1, x.f2) := by
  unfold undercroftlaw04_one.f
  rw [copy_ok x.f2 h.2.2]
  rfl

theorem of_ev (a : Int) (l : List S38) (h : okL l) : Ev (fun k => undercroftlaw04_Of.f k a l) (a, l.map c) := by
  have key : ∀ (d i : Nat), i + d = l.length → Ev (fun k => undercroftlaw04_Of.l0 k i a l a ((l.take i).map c)) (a, l.map c) := by
    intro d
    induction d with
    | zero =>
      intro i hi
      refine Ev.step (f := fun _ => some (a, l.map c)) (fun k => ?_) (Ev.now _)
      simp only [undercroftlaw04_Of.l0]
      rw [if_neg (by omega), List.take_of_length_le (by omega)]
    | succ d ih =>
      intro i hi
      have h2 := h.2
      refine Ev.step (f := fun k => undercroftlaw04_Of.l0 k (i + 1 : Nat) a l a ((l.take (i + 1)).map c)) (fun k => ?_) (ih (i + 1) (by omega))
      simp only [undercroftlaw04_Of.l0]
      rw [if_pos (by omega), if_pos (by omega), rd38 l i (by omega), one_ok _ (h.1 _ (List.getElem_mem _)), Option.bind_some, if_pos (by simp; omega), wrap_ok (by omega) (by omega), List.take_succ_eq_append_getElem (by omega), List.map_append]
      rfl
  exact key l.length 0 (by omega)

/-- What both checks tell. -/
def chkv (a : Int) (l : List S40) : Int := if a < 1 ∨ a > 4096 ∨ (l.length : Int) > a ∨ l.any pbad = true then 9 else 0
theorem pCheck (a : Int) (l : List S40) : net_Check.f a l = some (chkv a l) := rfl

theorem pbad_iff (x : S40) : pbad x = false ↔ 0 ≤ x.f0 ∧ x.f0 < 9 ∧ 0 ≤ x.f1 ∧ x.f1 < 9 ∧ (x.f2.length : Int) ≤ 4096 := by
  unfold pbad pchk
  repeat' split
  all_goals simp
  all_goals omega

theorem node_eq (a : Int) : undercroftref04_node.f a = some (decide (0 ≤ a ∧ a < 9)) := by
  unfold undercroftref04_node.f
  split
  · rename_i h
    congr 1
    rw [decide_eq_decide]
    omega
  · congr 1
    rw [eq_comm, decide_eq_false_iff_not]
    omega

theorem refCheck_l0 (a : Int) (l : List S38) (hs : l.length * 40 ≤ 140737488351232) : ∀ (d i : Nat), i + d = l.length → Ev (fun k => undercroftref04_Check.l0 k i a l) (if ((l.drop i).map c).any pbad = true then 9 else 0) := by
  intro d
  induction d with
  | zero =>
    intro i hi
    refine Ev.step (f := fun _ => some 0) (fun k => ?_) ?_
    · simp only [undercroftref04_Check.l0]
      rw [if_neg (by omega)]
    · rw [List.drop_eq_nil_of_le (by omega)]
      exact Ev.now _
  | succ d ih =>
    intro i hi
    have hil : i < l.length := by omega
    have hnext := ih (i + 1) (by omega)
    rw [List.drop_eq_getElem_cons hil, List.map_cons, List.any_cons]
    have hb := pbad_iff (c l[i])
    simp only [c] at hb
    by_cases hp : pbad (c l[i]) = false
    · have h5 := hb.1 hp
      refine Ev.step (fun k => ?_) (by rw [hp, Bool.false_or]; exact hnext)
      simp only [undercroftref04_Check.l0]
      rw [if_pos (by omega), if_pos (by omega), rd38 l i hil, node_eq, node_eq]
      rw [show decide (0 ≤ (l[i]).f0 ∧ (l[i]).f0 < 9) = true from decide_eq_true (by omega), show decide (0 ≤ (l[i]).f1 ∧ (l[i]).f1 < 9) = true from decide_eq_true (by omega)]
      simp only [Option.bind_some, if_true]
      rw [if_neg (by omega), wrap_ok (by omega) (by omega)]
      rfl
    · have h5 := fun h => hp (hb.2 h)
      have e : pbad (c l[i]) = true := by simpa using hp
      refine Ev.step (f := fun _ => some 9) (fun k => ?_) (by rw [e, Bool.true_or, if_pos rfl]; exact Ev.now _)
      simp only [undercroftref04_Check.l0]
      rw [if_pos (by omega), if_pos (by omega), rd38 l i hil, node_eq, node_eq]
      simp only [Option.bind_some, decide_eq_true_eq]
      split
      · split
        · split
          · rfl
          · exfalso; apply h5; omega
        · rfl
      · rfl

theorem refCheck_ev (a : Int) (l : List S38) (hs : l.length * 40 ≤ 140737488351232) : Ev (fun k => undercroftref04_Check.f k a l) (chkv a (l.map c)) := by
  unfold undercroftref04_Check.f chkv
  by_cases h1 : a < 1
  · rw [if_pos (.inl h1)]
    simp only [if_pos h1]
    exact Ev.step (f := fun _ => some 9) (fun k => by simp only [undercroftref04_Check.j0]; rfl) (Ev.now _)
  by_cases h2 : a > 4096
  · rw [if_pos (.inr (.inl h2))]
    simp only [if_neg h1, if_pos h2]
    exact Ev.step (f := fun _ => some 9) (fun k => by simp only [undercroftref04_Check.j0]; rfl) (Ev.now _)
  simp only [if_neg h1, if_neg h2]
  by_cases h3 : (l.length : Int) > a
  · rw [if_pos (.inr (.inr (.inl (by simpa using h3)))), decide_eq_true h3]
    exact Ev.step (f := fun _ => some 9) (fun k => by simp only [undercroftref04_Check.j0]; rfl) (Ev.now _)
  · rw [decide_eq_false h3]
    refine Ev.step (f := fun k => undercroftref04_Check.l0 k 0 a l) (fun k => by simp only [undercroftref04_Check.j0]; rfl) ?_
    have := refCheck_l0 a l hs l.length 0 (by omega)
    rw [List.drop_zero] at this
    have e : (a < 1 ∨ a > 4096 ∨ ((l.map c).length : Int) > a ∨ (l.map c).any pbad = true) ↔ (l.map c).any pbad = true := by
      rw [List.length_map]
      constructor
      · rintro (h | h | h | h)
        · exact absurd h h1
        · exact absurd h h2
        · exact absurd h h3
        · exact h
      · exact fun h => .inr (.inr (.inr h))
    simp only [e]
    exact this

/-- The places of what goes to one node, among the first i. -/
def pl (l : List S40) (n : Int) : Nat → List Int
  | 0 => []
  | i + 1 => if (rd_T40 l i).f1 = n then pl l n i ++ [(i : Int)] else pl l n i
theorem pl_le (l : List S40) (n : Int) : ∀ i, (pl l n i).length ≤ i
  | 0 => Nat.le_refl _
  | i + 1 => by
    have := pl_le l n i
    unfold pl
    split
    · rw [List.length_append]; simp; omega
    · omega
theorem pl_mem (l : List S40) (n : Int) : ∀ i, ∀ e ∈ pl l n i, 0 ≤ e ∧ e < i ∧ (rd_T40 l e).f1 = n
  | 0, e, h => by simp [pl] at h
  | i + 1, e, h => by
    have ih := pl_mem l n i
    unfold pl at h
    split at h
    · rename_i h1
      rcases List.mem_append.1 h with h | h
      · have := ih e h; exact ⟨this.1, by omega, this.2.2⟩
      · rw [List.mem_singleton] at h; subst h; exact ⟨by omega, by omega, h1⟩
    · have := ih e h; exact ⟨this.1, by omega, this.2.2⟩
theorem pl_up (l : List S40) (n : Int) : ∀ i, (pl l n i).Pairwise (· < ·)
  | 0 => List.Pairwise.nil
  | i + 1 => by
    unfold pl
    split
    · rw [List.pairwise_append]
      refine ⟨pl_up l n i, List.pairwise_singleton _ _, fun a ha b hb => ?_⟩
      rw [List.mem_singleton] at hb
      subst hb
      exact (pl_mem l n i a ha).2.1
    · exact pl_up l n i
theorem pl_len (l : List S40) (n : Int) : ∀ i, i ≤ l.length → (pl l n i).length = (l.take i).countP (fun x => decide (x.f1 = n))
  | 0, _ => by simp [pl]
  | i + 1, h => by
    rw [List.take_succ_eq_append_getElem (by omega), List.countP_append, ← pl_len l n i (by omega)]
    rw [pl, rd40 l i (by omega)]
    split
    · rename_i h1
      simp [h1]
    · rename_i h1
      simp [h1]

theorem pFor_ev (a : Int) (l : List S40) (n : Int) (hs : l.length < 17592186044416) (h : chkv a l = 0) : Ev (fun k => net_For.f k a l n) (pl l n l.length, 0) := by
  have key : ∀ (d i : Nat), i + d = l.length → Ev (fun k => net_For.l0 k n (pl l n i) l l.length i) (pl l n l.length, 0) := by
    intro d
    induction d with
    | zero =>
      intro i hi
      refine Ev.step (f := fun _ => some (pl l n i, 0)) (fun k => ?_) ?_
      · simp only [net_For.l0]
        rw [if_neg (by omega)]
      · rw [show i = l.length by omega]
        exact Ev.now _
    | succ d ih =>
      intro i hi
      have hle := pl_le l n i
      refine Ev.step (fun k => ?_) (ih (i + 1) (by omega))
      simp only [net_For.l0]
      rw [if_pos (by omega), if_pos (by omega), if_pos (by omega), wrap_ok (by omega) (by omega), pl]
      split
      · rw [if_pos (by omega)]; rfl
      · rfl
  unfold net_For.f
  rw [pCheck, h]
  simp only [Option.bind_some, if_true]
  exact key l.length 0 (by omega)

theorem alive_ok : Ev undercroftlaw04_alive.f true := Ev.of (k := 3) (undercroftlaw04_alive.mono) (by kernel_rfl)

end Go.Proofs.Ytgglmibbbjallaa.Plain
namespace Go.Proofs.Ytgglmibbbjallaa.Pure
open Go.RowKit Go.Proofs.Ytgglmibbbjallaa.T Go.Proofs.Ytgglmibbbjallaa.Plain
/-- What reading bytes, a packet, packets, a state from memory tells. -/
def OkB (l : List Int) : Prop := (∀ b ∈ l, (Lit.int .u8 b).wf = true) ∧ l.length * 1 ≤ 140737488351232 ∧ l.length ≤ maxLen
def OkE (y : Int × List Int) : Prop := (Lit.int .i64 y.1).wf = true ∧ OkB y.2
def OkD (y : Int × Int × List Int) : Prop := (Lit.int .i64 y.1).wf = true ∧ OkE y.2
def OkQ (l : List S38) : Prop := (∀ p ∈ l, OkD (p.f0, p.f1, p.f2)) ∧ l.length * 40 ≤ 140737488351232 ∧ l.length ≤ maxLen
def OkS (x : Int × List S38) : Prop := (Lit.int .i64 x.1).wf = true ∧ OkQ x.2
theorem okL_of {x : Int × List S38} (h : OkS x) : okL x.2 := ⟨fun p hp => ⟨(h.2.1 p hp).1, (h.2.1 p hp).2.1, by have := (h.2.1 p hp).2.2.2.1; simp only at this; omega⟩, h.2.2.1⟩
end Go.Proofs.Ytgglmibbbjallaa.Pure
