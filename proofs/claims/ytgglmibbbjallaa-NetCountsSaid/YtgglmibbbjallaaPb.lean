/- Plain laws of the net layer, second text: what the page's calls and the program's calls tell, side by side. -/
import Derived.Test.YtgglmibbbjallaaPa
namespace Go.Proofs.Ytgglmibbbjallaa.Plain
open Go.RowKit Go.Proofs.YtgglmibbbjallaaW.PrintWords Go.Proofs.Ytgglmibbbjallaa.T
set_option linter.unusedVariables false
set_option linter.unusedSimpArgs false

theorem chk_len {a : Int} {l : List S38} (h : chkv a (l.map c) = 0) : 1 ≤ a ∧ a ≤ 4096 ∧ (l.length : Int) ≤ a ∧ ∀ x ∈ l, pbad (c x) = false := by
  unfold chkv at h
  split at h
  · cases h
  · rename_i hn
    rw [List.length_map] at hn
    refine ⟨by omega, by omega, by omega, fun x hx => ?_⟩
    rw [Bool.eq_false_iff]
    intro hb
    exact hn (.inr (.inr (.inr (List.any_eq_true.2 ⟨c x, List.mem_map_of_mem hx, hb⟩))))
theorem chkv_cases (a : Int) (l : List S40) : chkv a l = 0 ∨ chkv a l = 9 := by unfold chkv; split <;> simp

theorem clone_f {a : Int} {l : List S38} (h : chkv a (l.map c) = 0) : net_State_clone.f a (l.map c) = some (a, l.map c) := by
  have hl := chk_len h
  unfold net_State_clone.f
  rw [if_pos]
  refine ⟨by rw [List.length_map]; omega, ?_⟩
  unfold datOk
  rw [List.all_eq_true]
  intro x hx
  obtain ⟨y, hy, rfl⟩ := List.mem_map.1 hx
  have := (pbad_iff (c y)).1 (hl.2.2.2 y hy)
  exact decide_eq_true (by omega)

def sendS (a : Int) (l : List S38) (p0 p1 : Int) (pd : List Int) : Int × List S38 × Bool × Int :=
  if chkv a (l.map c) = 0 then
    (if pchk ⟨p0, p1, pd⟩ = 0 then (if (l.length : Int) ≥ a then (a, l, false, 0) else (a, l ++ [⟨p0, p1, pd⟩], true, 0)) else (0, [], false, pchk ⟨p0, p1, pd⟩))
  else (0, [], false, 9)
theorem send_ev (a : Int) (l : List S38) (p0 p1 : Int) (pd : List Int) : Ev (fun k => net_Send.f k a (l.map c) p0 p1 pd) ((sendS a l p0 p1 pd).1, (sendS a l p0 p1 pd).2.1.map c, (sendS a l p0 p1 pd).2.2.1, (sendS a l p0 p1 pd).2.2.2) := by
  unfold net_Send.f sendS
  rw [pCheck]
  simp only [Option.bind_some]
  rcases chkv_cases a (l.map c) with h | h
  · have hl := chk_len h
    simp only [h, if_true]
    have hp := Ev.of (g := fun k => net_Packet_check.f k p0 p1 pd) (k := 2) (fun k => net_Packet_check.mono _ _ _ k) (pchk_f ⟨p0, p1, pd⟩)
    refine Ev.bind hp ?_
    by_cases h1 : pchk ⟨p0, p1, pd⟩ = 0
    · simp only [h1, if_true]
      rw [clone_f h]
      simp only [Option.bind_some, List.length_map]
      by_cases h2 : (l.length : Int) = a
      · simp only [if_pos h2, if_pos (show (l.length : Int) ≥ a by omega)]
        exact Ev.now _
      · have hd : (pd.length : Int) ≤ 4096 := by
          unfold pchk at h1
          split at h1
          · cases h1
          · split at h1
            · cases h1
            · rename_i h3; simp only at h3; omega
        simp only [if_neg h2, if_neg (show ¬ (l.length : Int) ≥ a by omega), net_Packet_clone.f, bytes_Clone.f, if_pos (show pd.length < 140737488355328 by omega), Option.bind_some, if_pos (show l.length < 3518437208883 by omega), List.map_append]
        exact Ev.now _
    · simp only [if_neg h1]
      exact Ev.now _
  · simp only [h]
    exact Ev.now _

theorem copied_ok (x : S38) (h : x.f2.length ≤ 140737488351232) : undercroftref04_copied.f x.f0 x.f1 x.f2 = some (x.f0, x.f1, x.f2) := by
  unfold undercroftref04_copied.f undercroftref02_Copied.f
  rw [if_pos (by simp; omega)]
  rfl

/-- What is left but one, of the first i. -/
def butL (l : List S38) (n : Int) : Nat → List S38
  | 0 => []
  | i + 1 => if (i : Int) = n then butL l n i else butL l n i ++ [rd_T38 l i]
theorem butL_le (l : List S38) (n : Int) : ∀ i, (butL l n i).length ≤ i
  | 0 => Nat.le_refl _
  | i + 1 => by
    have := butL_le l n i
    unfold butL
    split
    · omega
    · rw [List.length_append]; simp; omega
theorem butL_neg (l : List S38) (n : Int) (hn : n < 0) : ∀ i, i ≤ l.length → butL l n i = l.take i
  | 0, _ => by simp [butL]
  | i + 1, h => by
    rw [butL, if_neg (by omega), butL_neg l n hn i (by omega), rd38 l i (by omega), List.take_succ_eq_append_getElem (by omega)]
theorem butL_lo (l : List S38) (n : Nat) : ∀ i, i ≤ l.length → i ≤ n → butL l n i = l.take i
  | 0, _, _ => by simp [butL]
  | i + 1, h, h2 => by
    rw [butL, if_neg (by omega), butL_lo l n i (by omega) (by omega), rd38 l i (by omega), List.take_succ_eq_append_getElem (by omega)]
theorem butL_hi (l : List S38) (n : Nat) : ∀ d, n + 1 + d ≤ l.length → butL l n (n + 1 + d) = l.take n ++ (l.drop (n + 1)).take d
  | 0, h => by
    rw [Nat.add_zero, butL, if_pos rfl, butL_lo l n n (by omega) (Nat.le_refl _)]
    simp
  | d + 1, h => by
    rw [show n + 1 + (d + 1) = (n + 1 + d) + 1 by omega, butL, if_neg (by omega), butL_hi l n d (by omega), rd38 l _ (by omega), List.append_assoc]
    congr 1
    rw [List.take_succ_eq_append_getElem (by simp; omega)]
    congr 1
    rw [List.getElem_drop]
theorem butL_erase (l : List S38) (n : Nat) (h : n < l.length) : butL l n l.length = l.eraseIdx n := by
  have := butL_hi l n (l.length - (n + 1)) (by omega)
  rw [show n + 1 + (l.length - (n + 1)) = l.length by omega] at this
  rw [this, List.eraseIdx_eq_take_drop_succ]
  congr 1
  exact List.take_of_length_le (by simp)

theorem but_ev (a : Int) (l : List S38) (h : okL l) (n : Int) : Ev (fun k => undercroftref04_but.f k a l n) (a, butL l n l.length) := by
  have h2 := h.2
  have key : ∀ (d i : Nat), i + d = l.length → Ev (fun k => undercroftref04_but.l0 k n i a l a (butL l n i)) (a, butL l n l.length) := by
    intro d
    induction d with
    | zero =>
      intro i hi
      refine Ev.step (f := fun _ => some (a, butL l n i)) (fun k => ?_) ?_
      · simp only [undercroftref04_but.l0]
        rw [if_neg (by omega)]
      · rw [show i = l.length by omega]
        exact Ev.now _
    | succ d ih =>
      intro i hi
      have hle := butL_le l n i
      refine Ev.step (fun k => ?_) (ih (i + 1) (by omega))
      simp only [undercroftref04_but.l0]
      rw [if_pos (by omega), wrap_ok (by omega) (by omega), butL]
      by_cases e : (i : Int) = n
      · rw [if_pos e, if_pos e]; rfl
      · rw [if_neg e, if_neg e, if_pos (by omega), rd38 l i (by omega), copied_ok _ (h.1 _ (List.getElem_mem _)).2.2]
        simp only [Option.bind_some]
        rw [if_pos (by omega)]
        rfl
  exact key l.length 0 (by omega)

theorem refSend_ev (a : Int) (l : List S38) (hl : okL l) (p0 p1 : Int) (pd : List Int) : Ev (fun k => undercroftref04_Send.f k a l p0 p1 pd) (sendS a l p0 p1 pd) := by
  unfold undercroftref04_Send.f sendS
  refine Ev.bind (refCheck_ev a l hl.2) ?_
  rcases chkv_cases a (l.map c) with h | h
  · have hlen := chk_len h
    simp only [h, if_true, node_eq, Option.bind_some]
    have hj : ∀ b : Bool, (b = true → pchk ⟨p0, p1, pd⟩ = 4) → (b = false → 0 ≤ p0 ∧ p0 < 9 ∧ 0 ≤ p1 ∧ p1 < 9) → Ev (fun k => undercroftref04_Send.j0 k b a l p0 p1 pd) (if pchk ⟨p0, p1, pd⟩ = 0 then (if (l.length : Int) ≥ a then (a, l, false, 0) else (a, l ++ [⟨p0, p1, pd⟩], true, 0)) else (0, [], false, pchk ⟨p0, p1, pd⟩)) := by
      intro b hb1 hb2
      cases b with
      | true =>
        rw [hb1 rfl, if_neg (by decide)]
        exact Ev.step (f := fun _ => some (0, [], false, 4)) (fun k => by simp only [undercroftref04_Send.j0]; rfl) (Ev.now _)
      | false =>
        have hr := hb2 rfl
        by_cases hd : (pd.length : Int) > 4096
        · have e : pchk ⟨p0, p1, pd⟩ = 5 := by unfold pchk; rw [if_neg (by simp only; omega), if_pos hd]
          rw [e, if_neg (by decide)]
          exact Ev.step (f := fun _ => some (0, [], false, 5)) (fun k => by simp only [undercroftref04_Send.j0]; rw [if_neg (by simp), if_pos hd]) (Ev.now _)
        · have e : pchk ⟨p0, p1, pd⟩ = 0 := by unfold pchk; rw [if_neg (by simp only; omega), if_neg hd]
          rw [e, if_pos rfl]
          refine Ev.step (f := fun k => (undercroftref04_but.f k a l (-1)).bind fun bt230 => (if (bt230.2.length : Int) ≥ bt230.1 then (some (bt230.1, bt230.2, false, 0)) else ((undercroftref04_copied.f p0 p1 pd).bind fun bt235 => (if bt230.2.length < 3518437208883 then (some (bt230.1, (bt230.2 ++ [(⟨bt235.1, bt235.2.1, bt235.2.2⟩ : S38)]), true, 0)) else (none))))) (fun k => by simp only [undercroftref04_Send.j0]; rw [if_neg (by simp), if_neg hd]) ?_
          refine Ev.bind (but_ev a l hl (-1)) ?_
          rw [butL_neg l (-1) (by omega) l.length (Nat.le_refl _), List.take_length]
          by_cases hf : (l.length : Int) ≥ a
          · simp only [if_pos hf]
            exact Ev.now _
          · simp only [if_neg hf, copied_ok ⟨p0, p1, pd⟩ (by simp only; omega), Option.bind_some, if_pos (show l.length < 3518437208883 by omega)]
            exact Ev.now _
    by_cases n0 : 0 ≤ p0 ∧ p0 < 9
    · rw [decide_eq_true n0]
      simp only [if_true]
      by_cases n1 : 0 ≤ p1 ∧ p1 < 9
      · rw [decide_eq_true n1]
        exact hj false (fun h => by cases h) (fun _ => ⟨n0.1, n0.2, n1.1, n1.2⟩)
      · rw [decide_eq_false n1]
        exact hj true (fun _ => by unfold pchk; rw [if_pos (by simp only; omega)]) (fun h => by cases h)
    · rw [decide_eq_false n0]
      exact hj true (fun _ => by unfold pchk; rw [if_pos (by simp only; omega)]) (fun h => by cases h)
  · simp only [h]
    exact Ev.now _

theorem erase_map (l : List S38) (n : Nat) : (l.map c).eraseIdx n = (l.eraseIdx n).map c := by
  rw [List.eraseIdx_eq_take_drop_succ, List.eraseIdx_eq_take_drop_succ, List.map_append, List.map_take, List.map_drop]
def askS (a : Int) (l : List S38) (n : Int) : Int := if chkv a (l.map c) = 0 then (if n < 0 then 71 else if n ≥ (l.length : Int) then 71 else 0) else 9
theorem ask_f (a : Int) (l : List S38) (n : Int) : net_asked.f a (l.map c) n = some (askS a l n) := by
  unfold net_asked.f askS
  rw [pCheck, List.length_map]
  simp only [Option.bind_some]
  rcases chkv_cases a (l.map c) with h | h
  · simp only [h, if_true]
    repeat' split
    all_goals rfl
  · simp only [h]
    rfl
theorem there_ev (a : Int) (l : List S38) (hl : okL l) (n : Int) : Ev (fun k => undercroftref04_there.f k a l n) (askS a l n) := by
  unfold undercroftref04_there.f askS
  refine Ev.bind (refCheck_ev a l hl.2) ?_
  rcases chkv_cases a (l.map c) with h | h
  · simp only [h, if_true]
    by_cases h1 : n < 0
    · simp only [if_pos h1]; exact Ev.now _
    · simp only [if_neg h1]
      by_cases h2 : n ≥ (l.length : Int)
      · simp only [if_pos h2]; exact Ev.now _
      · simp only [if_neg h2]; exact Ev.now _
  · simp only [h]
    exact Ev.now _
theorem ask_zero {a : Int} {l : List S38} {n : Int} (h : askS a l n = 0) : chkv a (l.map c) = 0 ∧ 0 ≤ n ∧ n < l.length := by
  unfold askS at h
  split at h
  · rename_i h0
    split at h
    · cases h
    · split at h
      · cases h
      · exact ⟨h0, by omega, by omega⟩
  · cases h

def takeS (a : Int) (l : List S38) (n : Int) : Int × List S38 × Int × Int × List Int × Int :=
  if askS a l n = 0 then (a, l.eraseIdx n.toNat, (rd_T38 l n).f0, (rd_T38 l n).f1, (rd_T38 l n).f2, 0) else (0, [], 0, 0, [], askS a l n)
theorem rd_c (l : List S38) (i : Int) (h0 : 0 ≤ i) (h1 : i < l.length) : rd_T40 (l.map c) i = c (rd_T38 l i) := by
  obtain ⟨m, rfl⟩ := Int.eq_ofNat_of_zero_le h0
  rw [rd40 _ m (by simp; omega), rd38 _ m (by omega), List.getElem_map]
theorem rd38_mem (l : List S38) (i : Int) (h0 : 0 ≤ i) (h1 : i < l.length) : rd_T38 l i ∈ l := by
  obtain ⟨m, rfl⟩ := Int.eq_ofNat_of_zero_le h0
  rw [rd38 _ m (by omega)]
  exact List.getElem_mem _
theorem take_f (a : Int) (l : List S38) (n : Int) : net_Take.f a (l.map c) n = some ((takeS a l n).1, (takeS a l n).2.1.map c, (takeS a l n).2.2.1, (takeS a l n).2.2.2.1, (takeS a l n).2.2.2.2.1, (takeS a l n).2.2.2.2.2) := by
  unfold net_Take.f takeS
  rw [ask_f]
  simp only [Option.bind_some]
  by_cases h : askS a l n = 0
  · obtain ⟨h0, h1, h2⟩ := ask_zero h
    rw [if_pos h, if_pos h, if_pos (by rw [List.length_map]; exact ⟨h1, h2⟩), clone_f h0, rd_c l n h1 h2]
    simp only [Option.bind_some, erase_map]
    rfl
  · rw [if_neg h, if_neg h]
    rfl
theorem refTake_ev (a : Int) (l : List S38) (hl : okL l) (n : Int) : Ev (fun k => undercroftref04_Take.f k a l n) (takeS a l n) := by
  unfold undercroftref04_Take.f takeS
  refine Ev.bind (there_ev a l hl n) ?_
  by_cases h : askS a l n = 0
  · obtain ⟨h0, h1, h2⟩ := ask_zero h
    simp only [if_pos h]
    refine Ev.bind (but_ev a l hl n) ?_
    simp only [if_pos h1, if_pos h2, copied_ok _ (hl.1 _ (rd38_mem l n h1 h2)).2.2, Option.bind_some]
    obtain ⟨m, rfl⟩ := Int.eq_ofNat_of_zero_le h1
    rw [butL_erase l m (by omega), Int.toNat_natCast]
    exact Ev.now _
  · simp only [if_neg h]
    exact Ev.now _
def dropS (a : Int) (l : List S38) (n : Int) : Int × List S38 × Int := ((takeS a l n).1, (takeS a l n).2.1, (takeS a l n).2.2.2.2.2)
theorem drop_f (a : Int) (l : List S38) (n : Int) : net_Drop.f a (l.map c) n = some ((dropS a l n).1, (dropS a l n).2.1.map c, (dropS a l n).2.2) := by
  unfold net_Drop.f dropS
  rw [take_f]
  rfl
theorem refDrop_ev (a : Int) (l : List S38) (hl : okL l) (n : Int) : Ev (fun k => undercroftref04_Drop.f k a l n) (dropS a l n) := by
  unfold undercroftref04_Drop.f dropS
  exact Ev.bind (refTake_ev a l hl n) (Ev.now _)
def dblS (a : Int) (l : List S38) (n : Int) : Int × List S38 × Bool × Int :=
  if askS a l n = 0 then sendS a l (rd_T38 l n).f0 (rd_T38 l n).f1 (rd_T38 l n).f2 else (0, [], false, askS a l n)
theorem dbl_ev (a : Int) (l : List S38) (n : Int) : Ev (fun k => net_Double.f k a (l.map c) n) ((dblS a l n).1, (dblS a l n).2.1.map c, (dblS a l n).2.2.1, (dblS a l n).2.2.2) := by
  unfold net_Double.f dblS
  rw [ask_f]
  simp only [Option.bind_some]
  by_cases h : askS a l n = 0
  · obtain ⟨h0, h1, h2⟩ := ask_zero h
    simp only [if_pos h, if_pos h1, List.length_map, if_pos h2, rd_c l n h1 h2]
    exact Ev.bind (send_ev a l _ _ _) (Ev.now _)
  · simp only [if_neg h]
    exact Ev.now _
theorem refDbl_ev (a : Int) (l : List S38) (hl : okL l) (n : Int) : Ev (fun k => undercroftref04_Double.f k a l n) (dblS a l n) := by
  unfold undercroftref04_Double.f dblS
  refine Ev.bind (there_ev a l hl n) ?_
  by_cases h : askS a l n = 0
  · obtain ⟨h0, h1, h2⟩ := ask_zero h
    simp only [if_pos h, if_pos h1, if_pos h2]
    exact Ev.bind (refSend_ev a l hl _ _ _) (Ev.now _)
  · simp only [if_neg h]
    exact Ev.now _

def forS (a : Int) (l : List S38) (n : Int) : List Int × Int := if chkv a (l.map c) = 0 then (pl (l.map c) n l.length, 0) else ([], 9)
theorem for_ev (a : Int) (l : List S38) (hl : okL l) (n : Int) : Ev (fun k => net_For.f k a (l.map c) n) (forS a l n) := by
  have h2 := hl.2
  unfold forS
  rcases chkv_cases a (l.map c) with h | h
  · rw [if_pos h]
    have := pFor_ev a (l.map c) n (by rw [List.length_map]; omega) h
    rw [List.length_map] at this
    exact this
  · unfold net_For.f
    rw [pCheck, h]
    simp only [Option.bind_some]
    exact Ev.now _
theorem refFor_ev (a : Int) (l : List S38) (hl : okL l) (n : Int) : Ev (fun k => undercroftref04_For.f k a l n) (forS a l n) := by
  have h2 := hl.2
  unfold undercroftref04_For.f forS
  refine Ev.bind (refCheck_ev a l hl.2) ?_
  rcases chkv_cases a (l.map c) with h | h
  · simp only [h, if_true]
    have key : ∀ (d i : Nat), i + d = l.length → Ev (fun k => undercroftref04_For.l0 k n (pl (l.map c) n i) i a l) (pl (l.map c) n l.length, 0) := by
      intro d
      induction d with
      | zero =>
        intro i hi
        refine Ev.step (f := fun _ => some (pl (l.map c) n i, 0)) (fun k => ?_) ?_
        · simp only [undercroftref04_For.l0]
          rw [if_neg (by omega)]
        · rw [show i = l.length by omega]
          exact Ev.now _
      | succ d ih =>
        intro i hi
        have hle := pl_le (l.map c) n i
        refine Ev.step (fun k => ?_) (ih (i + 1) (by omega))
        simp only [undercroftref04_For.l0]
        rw [if_pos (by omega), if_pos (by omega), wrap_ok (by omega) (by omega), pl, rd_c l i (by omega) (by omega)]
        show (if (rd_T38 l i).f1 = n then _ else _) = undercroftref04_For.l0 k n (if (rd_T38 l i).f1 = n then _ else _) _ a l
        split
        · rw [if_pos (by omega)]; rfl
        · rfl
    exact key l.length 0 (by omega)
  · simp only [h]
    exact Ev.now _

theorem sameBytes_ev (x : List Int) (h : x.length ≤ 140737488351232) : Ev (fun k => undercroftplain_SameBytes.f k x x) true := by
  have key : ∀ (d i : Nat), i + d = x.length → Ev (fun k => undercroftplain_SameBytes.l0 k x x i) true := by
    intro d
    induction d with
    | zero =>
      intro i hi
      refine Ev.step (f := fun _ => some true) (fun k => ?_) (Ev.now _)
      simp only [undercroftplain_SameBytes.l0]
      rw [if_neg (by omega)]
    | succ d ih =>
      intro i hi
      refine Ev.step (fun k => ?_) (ih (i + 1) (by omega))
      simp only [undercroftplain_SameBytes.l0]
      rw [if_pos (by omega), if_pos (by omega), if_pos (by omega), if_pos trivial, wrap_ok (by omega) (by omega)]
      rfl
  unfold undercroftplain_SameBytes.f
  simp only [if_true]
  exact key x.length 0 (by omega)
theorem sameInts_ev (x : List Int) (h : x.length ≤ 140737488351232) : Ev (fun k => undercroftplain_SameInts.f k x x) true := by
  have key : ∀ (d i : Nat), i + d = x.length → Ev (fun k => undercroftplain_SameInts.l0 k x x i) true := by
    intro d
    induction d with
    | zero =>
      intro i hi
      refine Ev.step (f := fun _ => some true) (fun k => ?_) (Ev.now _)
      simp only [undercroftplain_SameInts.l0]
      rw [if_neg (by omega)]
    | succ d ih =>
      intro i hi
      refine Ev.step (fun k => ?_) (ih (i + 1) (by omega))
      simp only [undercroftplain_SameInts.l0]
      rw [if_pos (by omega), if_pos (by omega), if_pos (by omega), if_pos trivial, wrap_ok (by omega) (by omega)]
      rfl
  unfold undercroftplain_SameInts.f
  simp only [if_true]
  exact key x.length 0 (by omega)
theorem samePacket_ev (p0 p1 : Int) (pd : List Int) (h : pd.length ≤ 140737488351232) : Ev (fun k => undercroftlaw04_samePacket.f k p0 p1 pd p0 p1 pd) true := by
  unfold undercroftlaw04_samePacket.f
  simp only [if_true]
  exact Ev.bind (sameBytes_ev pd h) (Ev.now _)
theorem same_ev (a : Int) (l : List S38) (h : ∀ x ∈ l, x.f2.length ≤ 140737488351232) (hl : l.length ≤ 140737488351232) : Ev (fun k => undercroftlaw04_same.f k a (l.map c) a l) true := by
  have key : ∀ (d i : Nat), i + d = l.length → Ev (fun k => undercroftlaw04_same.l0 k i a (l.map c) a l) true := by
    intro d
    induction d with
    | zero =>
      intro i hi
      refine Ev.step (f := fun _ => some true) (fun k => ?_) (Ev.now _)
      simp only [undercroftlaw04_same.l0]
      rw [if_neg (by simp; omega)]
    | succ d ih =>
      intro i hi
      refine Ev.step (f := fun k => (undercroftlaw04_samePacket.f k (l[i]).f0 (l[i]).f1 (l[i]).f2 (l[i]).f0 (l[i]).f1 (l[i]).f2).bind fun t => (if t = true then (undercroftlaw04_same.l0 k ((i + 1 : Nat) : Int) a (l.map c) a l) else (some false))) (fun k => ?_) ?_
      · simp only [undercroftlaw04_same.l0]
        rw [if_pos (by simp; omega), if_pos (by omega), if_pos (by omega), wrap_ok (by omega) (by omega), rd_c l i (by omega) (by omega), rd38 l i (by omega)]
        rfl
      · refine Ev.bind (samePacket_ev _ _ _ (h _ (List.getElem_mem _))) ?_
        simp only [if_true]
        exact ih (i + 1) (by omega)
  unfold undercroftlaw04_same.f
  simp only [if_true]
  refine Ev.step (f := fun k => undercroftlaw04_same.l0 k 0 a (l.map c) a l) (fun k => ?_) (key l.length 0 (by omega))
  simp only [undercroftlaw04_same.j0, List.length_map]
  rw [if_neg (by simp)]
end Go.Proofs.Ytgglmibbbjallaa.Plain
