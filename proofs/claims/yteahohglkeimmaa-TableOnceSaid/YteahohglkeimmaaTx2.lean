/- This text tells functions of the seat as plain functions, with their contracts, as the machine's calls meet them. -/
import Derived.Test.YteahohglkeimmaaTx0
namespace Go.Proofs.Yteahohglkeimmaa.T
open Go.RowKit Go.Proofs.YteahohglkeimmaaW.PrintWords Go.Proofs.YteahohglkeimmaaW.PrintLast Go.Proofs.YteahohglkeimmaaW.PrintMore
attribute [local go_sem] max2_int min2_int max_two min_two max_three min_three max_four min_four   -- for this text's walks alone
set_option linter.unusedVariables false
set_option linter.unusedSimpArgs false

/-! ### table_Slot_may: function 26 -/
def table_Slot_may.f (a0_0 : Int) (a0_1 : Int) : Option (Bool) := if a0_0 ≥ 0 then (if a0_0 ≤ 1099511627776 then (if a0_1 ≥ 0 then (if a0_1 ≤ 8 then (if a0_0 > 0 then (some true) else (some (a0_1 == 0))) else (some false)) else (some false)) else (some false)) else (some false)
set_option maxHeartbeats 8000000 in
set_option maxRecDepth 100000 in
theorem table_Slot_may.calls (a0_0 : Int) (a0_1 : Int) (r : Bool) (w : World) (h : table_Slot_may.f a0_0 a0_1 = some r) :
    Calls Try.prog 26 #[.agg #[.int .i64 a0_0, .int .i64 a0_1]] w fun e w' => e = .returned (.bool r) ∧ Below w.heap.size w w' := by
  have hu39 := Try.underlying39
  have HB := Aside0.mk (Below.refl w.heap.size w)
  have H : (if a0_0 ≥ 0 then (if a0_0 ≤ 1099511627776 then (if a0_1 ≥ 0 then (if a0_1 ≤ 8 then (if a0_0 > 0 then (some true) else (some (a0_1 == 0))) else (some false)) else (some false)) else (some false)) else (some false)) = some r := h
  clear h
  by_cases c2 : a0_0 ≥ 0
  · rw [if_pos c2] at H
    have c2b0 : decide (0 ≤ a0_0) = true := decide_eq_true c2
    clear c2
    by_cases c3 : a0_0 ≤ 1099511627776
    · rw [if_pos c3] at H
      have c3b0 : decide (a0_0 ≤ 1099511627776) = true := decide_eq_true c3
      clear c3
      by_cases c4 : a0_1 ≥ 0
      · rw [if_pos c4] at H
        have c4b0 : decide (0 ≤ a0_1) = true := decide_eq_true c4
        clear c4
        by_cases c5 : a0_1 ≤ 8
        · rw [if_pos c5] at H
          have c5b0 : decide (a0_1 ≤ 8) = true := decide_eq_true c5
          clear c5
          by_cases c6 : a0_0 > 0
          · rw [if_pos c6] at H
            have c6b0 : decide (0 < a0_0) = true := decide_eq_true c6
            clear c6
            obtain rfl := Option.some.inj H
            go_enter Try.func26, Try.ntmps26
            go_wp2_with (first | ((with_reducible refine gate_dst (N := 1) rfl ?_); refine box_event ?hg (N := 1) ?hd (cs := #[.int .i64 a0_0, .int .i64 a0_1]) (t := 39) ?hr ?_; (case hd => rfl); (case hg => rfl); (case hr => first | (go_simp; done) | (go_simp; rfl)); intro gb101 hg w7 hbox hb; have n0_ := Aside0.mk (below_step (by repeat (first | (with_reducible first | exact HB.out | apply below_alloc | apply pw_below_drewN | apply below_drew1) | exact HB.out)) hb); have n1_ := Aside0.mk (hbox); have n2_ := Aside0.mk ((by rw [hg]; exact (below_size (by repeat (first | (with_reducible first | exact HB.out | apply below_alloc | apply pw_below_drewN | apply below_drew1) | exact HB.out))) : w.heap.size ≤ gb101)); have n3_ := Aside0.mk ((by rw [hg]; exact (below_size (by repeat (first | (with_reducible first | exact HB.out | apply below_alloc | apply pw_below_drewN | apply below_drew1) | exact HB.out))) : w.heap.size ≤ gb101)); clear HB; have HB := n0_; have BK101 := n1_; have GW101 := n2_; have GE101 := n3_; clear n0_ n1_ n2_ n3_; clear hb hbox hg; have hcz8_0 : w7.cell? ⟨gb101, 0, none⟩ = some (.int .i64 a0_0) := (blk_cell BK101.out 0).trans rfl; have hcz8_1 : w7.cell? ⟨gb101, 1, none⟩ = some (.int .i64 a0_1) := (blk_cell BK101.out 1).trans rfl; have hfz8_0 := blk_frozen BK101.out 0; have hfz8_1 := blk_frozen BK101.out 1))
            go_ret
            exact ⟨by first | rfl | (simp [errW_none, errW_some] <;> rfl) | (simp [*, errW_none, errW_some] <;> rfl), by repeat (first | (with_reducible first | exact HB.out | apply below_alloc | apply pw_below_drewN | apply below_drew1 | refine below_set ?_ GE101.out) | exact HB.out)⟩
          · rw [if_neg c6] at H
            have c6b0 : decide (0 < a0_0) = false := decide_eq_false c6
            clear c6
            obtain rfl := Option.some.inj H
            go_enter Try.func26, Try.ntmps26
            go_wp2_with (first | ((with_reducible refine gate_dst (N := 1) rfl ?_); refine box_event ?hg (N := 1) ?hd (cs := #[.int .i64 a0_0, .int .i64 a0_1]) (t := 39) ?hr ?_; (case hd => rfl); (case hg => rfl); (case hr => first | (go_simp; done) | (go_simp; rfl)); intro gb101 hg w9 hbox hb; have n0_ := Aside0.mk (below_step (by repeat (first | (with_reducible first | exact HB.out | apply below_alloc | apply pw_below_drewN | apply below_drew1) | exact HB.out)) hb); have n1_ := Aside0.mk (hbox); have n2_ := Aside0.mk ((by rw [hg]; exact (below_size (by repeat (first | (with_reducible first | exact HB.out | apply below_alloc | apply pw_below_drewN | apply below_drew1) | exact HB.out))) : w.heap.size ≤ gb101)); have n3_ := Aside0.mk ((by rw [hg]; exact (below_size (by repeat (first | (with_reducible first | exact HB.out | apply below_alloc | apply pw_below_drewN | apply below_drew1) | exact HB.out))) : w.heap.size ≤ gb101)); clear HB; have HB := n0_; have BK101 := n1_; have GW101 := n2_; have GE101 := n3_; clear n0_ n1_ n2_ n3_; clear hb hbox hg; have hcz10_0 : w9.cell? ⟨gb101, 0, none⟩ = some (.int .i64 a0_0) := (blk_cell BK101.out 0).trans rfl; have hcz10_1 : w9.cell? ⟨gb101, 1, none⟩ = some (.int .i64 a0_1) := (blk_cell BK101.out 1).trans rfl; have hfz10_0 := blk_frozen BK101.out 0; have hfz10_1 := blk_frozen BK101.out 1))
            go_ret
            exact ⟨by first | rfl | (simp [errW_none, errW_some] <;> rfl) | (simp [*, errW_none, errW_some] <;> rfl), by repeat (first | (with_reducible first | exact HB.out | apply below_alloc | apply pw_below_drewN | apply below_drew1 | refine below_set ?_ GE101.out) | exact HB.out)⟩
        · rw [if_neg c5] at H
          have c5b0 : decide (a0_1 ≤ 8) = false := decide_eq_false c5
          clear c5
          obtain rfl := Option.some.inj H
          go_enter Try.func26, Try.ntmps26
          go_wp2_with (first | ((with_reducible refine gate_dst (N := 1) rfl ?_); refine box_event ?hg (N := 1) ?hd (cs := #[.int .i64 a0_0, .int .i64 a0_1]) (t := 39) ?hr ?_; (case hd => rfl); (case hg => rfl); (case hr => first | (go_simp; done) | (go_simp; rfl)); intro gb101 hg w11 hbox hb; have n0_ := Aside0.mk (below_step (by repeat (first | (with_reducible first | exact HB.out | apply below_alloc | apply pw_below_drewN | apply below_drew1) | exact HB.out)) hb); have n1_ := Aside0.mk (hbox); have n2_ := Aside0.mk ((by rw [hg]; exact (below_size (by repeat (first | (with_reducible first | exact HB.out | apply below_alloc | apply pw_below_drewN | apply below_drew1) | exact HB.out))) : w.heap.size ≤ gb101)); have n3_ := Aside0.mk ((by rw [hg]; exact (below_size (by repeat (first | (with_reducible first | exact HB.out | apply below_alloc | apply pw_below_drewN | apply below_drew1) | exact HB.out))) : w.heap.size ≤ gb101)); clear HB; have HB := n0_; have BK101 := n1_; have GW101 := n2_; have GE101 := n3_; clear n0_ n1_ n2_ n3_; clear hb hbox hg; have hcz12_0 : w11.cell? ⟨gb101, 0, none⟩ = some (.int .i64 a0_0) := (blk_cell BK101.out 0).trans rfl; have hcz12_1 : w11.cell? ⟨gb101, 1, none⟩ = some (.int .i64 a0_1) := (blk_cell BK101.out 1).trans rfl; have hfz12_0 := blk_frozen BK101.out 0; have hfz12_1 := blk_frozen BK101.out 1))
          go_ret
          exact ⟨by first | rfl | (simp [errW_none, errW_some] <;> rfl) | (simp [*, errW_none, errW_some] <;> rfl), by repeat (first | (with_reducible first | exact HB.out | apply below_alloc | apply pw_below_drewN | apply below_drew1 | refine below_set ?_ GE101.out) | exact HB.out)⟩
      · rw [if_neg c4] at H
        have c4b0 : decide (0 ≤ a0_1) = false := decide_eq_false c4
        clear c4
        obtain rfl := Option.some.inj H
        go_enter Try.func26, Try.ntmps26
        go_wp2_with (first | ((with_reducible refine gate_dst (N := 1) rfl ?_); refine box_event ?hg (N := 1) ?hd (cs := #[.int .i64 a0_0, .int .i64 a0_1]) (t := 39) ?hr ?_; (case hd => rfl); (case hg => rfl); (case hr => first | (go_simp; done) | (go_simp; rfl)); intro gb101 hg w13 hbox hb; have n0_ := Aside0.mk (below_step (by repeat (first | (with_reducible first | exact HB.out | apply below_alloc | apply pw_below_drewN | apply below_drew1) | exact HB.out)) hb); have n1_ := Aside0.mk (hbox); have n2_ := Aside0.mk ((by rw [hg]; exact (below_size (by repeat (first | (with_reducible first | exact HB.out | apply below_alloc | apply pw_below_drewN | apply below_drew1) | exact HB.out))) : w.heap.size ≤ gb101)); have n3_ := Aside0.mk ((by rw [hg]; exact (below_size (by repeat (first | (with_reducible first | exact HB.out | apply below_alloc | apply pw_below_drewN | apply below_drew1) | exact HB.out))) : w.heap.size ≤ gb101)); clear HB; have HB := n0_; have BK101 := n1_; have GW101 := n2_; have GE101 := n3_; clear n0_ n1_ n2_ n3_; clear hb hbox hg; have hcz14_0 : w13.cell? ⟨gb101, 0, none⟩ = some (.int .i64 a0_0) := (blk_cell BK101.out 0).trans rfl; have hcz14_1 : w13.cell? ⟨gb101, 1, none⟩ = some (.int .i64 a0_1) := (blk_cell BK101.out 1).trans rfl; have hfz14_0 := blk_frozen BK101.out 0; have hfz14_1 := blk_frozen BK101.out 1))
        go_ret
        exact ⟨by first | rfl | (simp [errW_none, errW_some] <;> rfl) | (simp [*, errW_none, errW_some] <;> rfl), by repeat (first | (with_reducible first | exact HB.out | apply below_alloc | apply pw_below_drewN | apply below_drew1 | refine below_set ?_ GE101.out) | exact HB.out)⟩
    · rw [if_neg c3] at H
      have c3b0 : decide (a0_0 ≤ 1099511627776) = false := decide_eq_false c3
      clear c3
      obtain rfl := Option.some.inj H
      go_enter Try.func26, Try.ntmps26
      go_wp2_with (first | ((with_reducible refine gate_dst (N := 1) rfl ?_); refine box_event ?hg (N := 1) ?hd (cs := #[.int .i64 a0_0, .int .i64 a0_1]) (t := 39) ?hr ?_; (case hd => rfl); (case hg => rfl); (case hr => first | (go_simp; done) | (go_simp; rfl)); intro gb101 hg w15 hbox hb; have n0_ := Aside0.mk (below_step (by repeat (first | (with_reducible first | exact HB.out | apply below_alloc | apply pw_below_drewN | apply below_drew1) | exact HB.out)) hb); have n1_ := Aside0.mk (hbox); have n2_ := Aside0.mk ((by rw [hg]; exact (below_size (by repeat (first | (with_reducible first | exact HB.out | apply below_alloc | apply pw_below_drewN | apply below_drew1) | exact HB.out))) : w.heap.size ≤ gb101)); have n3_ := Aside0.mk ((by rw [hg]; exact (below_size (by repeat (first | (with_reducible first | exact HB.out | apply below_alloc | apply pw_below_drewN | apply below_drew1) | exact HB.out))) : w.heap.size ≤ gb101)); clear HB; have HB := n0_; have BK101 := n1_; have GW101 := n2_; have GE101 := n3_; clear n0_ n1_ n2_ n3_; clear hb hbox hg; have hcz16_0 : w15.cell? ⟨gb101, 0, none⟩ = some (.int .i64 a0_0) := (blk_cell BK101.out 0).trans rfl; have hcz16_1 : w15.cell? ⟨gb101, 1, none⟩ = some (.int .i64 a0_1) := (blk_cell BK101.out 1).trans rfl; have hfz16_0 := blk_frozen BK101.out 0; have hfz16_1 := blk_frozen BK101.out 1))
      go_ret
      exact ⟨by first | rfl | (simp [errW_none, errW_some] <;> rfl) | (simp [*, errW_none, errW_some] <;> rfl), by repeat (first | (with_reducible first | exact HB.out | apply below_alloc | apply pw_below_drewN | apply below_drew1 | refine below_set ?_ GE101.out) | exact HB.out)⟩
  · rw [if_neg c2] at H
    have c2b0 : decide (0 ≤ a0_0) = false := decide_eq_false c2
    clear c2
    obtain rfl := Option.some.inj H
    go_enter Try.func26, Try.ntmps26
    go_wp2_with (first | ((with_reducible refine gate_dst (N := 1) rfl ?_); refine box_event ?hg (N := 1) ?hd (cs := #[.int .i64 a0_0, .int .i64 a0_1]) (t := 39) ?hr ?_; (case hd => rfl); (case hg => rfl); (case hr => first | (go_simp; done) | (go_simp; rfl)); intro gb101 hg w17 hbox hb; have n0_ := Aside0.mk (below_step (by repeat (first | (with_reducible first | exact HB.out | apply below_alloc | apply pw_below_drewN | apply below_drew1) | exact HB.out)) hb); have n1_ := Aside0.mk (hbox); have n2_ := Aside0.mk ((by rw [hg]; exact (below_size (by repeat (first | (with_reducible first | exact HB.out | apply below_alloc | apply pw_below_drewN | apply below_drew1) | exact HB.out))) : w.heap.size ≤ gb101)); have n3_ := Aside0.mk ((by rw [hg]; exact (below_size (by repeat (first | (with_reducible first | exact HB.out | apply below_alloc | apply pw_below_drewN | apply below_drew1) | exact HB.out))) : w.heap.size ≤ gb101)); clear HB; have HB := n0_; have BK101 := n1_; have GW101 := n2_; have GE101 := n3_; clear n0_ n1_ n2_ n3_; clear hb hbox hg; have hcz18_0 : w17.cell? ⟨gb101, 0, none⟩ = some (.int .i64 a0_0) := (blk_cell BK101.out 0).trans rfl; have hcz18_1 : w17.cell? ⟨gb101, 1, none⟩ = some (.int .i64 a0_1) := (blk_cell BK101.out 1).trans rfl; have hfz18_0 := blk_frozen BK101.out 0; have hfz18_1 := blk_frozen BK101.out 1))
    go_ret
    exact ⟨by first | rfl | (simp [errW_none, errW_some] <;> rfl) | (simp [*, errW_none, errW_some] <;> rfl), by repeat (first | (with_reducible first | exact HB.out | apply below_alloc | apply pw_below_drewN | apply below_drew1 | refine below_set ?_ GE101.out) | exact HB.out)⟩

/-! ### table_Check: function 21 -/
section
open Go.Maps
theorem plainElem_bool_inv {H : Type} {P : Program} {e : TypeId} (he : P.underlying e = some .bool) {v : Value} {z : DataW H × List MemPlace} (h : plainElem P e v = some z) : ∃ a, v = .bool a ∧ z = (.lit (.bool a), []) := by
  unfold plainElem at h
  rw [he] at h
  cases v <;> simp at h
  exact ⟨_, rfl, h.symm⟩

def wf64 (x : Int) : Bool := (Lit.int .i64 x).wf
def mayB (x : S39) : Bool := (table_Slot_may.f x.f0 x.f1).getD false
theorem may_some (x : S39) : table_Slot_may.f x.f0 x.f1 = some (mayB x) := by
  unfold mayB table_Slot_may.f
  repeat' split
  all_goals rfl

/-- 'seen' as a set of numbers. -/
def Seen (W : World) (b n : Nat) (s : List Int) : Prop :=
  ∃ D : DataW Unit, W.ownsMap Try.prog 3 (plainElem Try.prog 4) b n D ∧ ∀ q, wf64 q = true → D.atKey (.int .i64 q) (.lit (.bool false)) = .lit (.bool (s.contains q))

theorem seen_made (W : World) : Seen (W.alloc (.map #[] 0)) W.heap.size 0 [] :=
  ⟨.map [], World.ownsMap_made _ _ _ _, fun q _ => by simp [DataW.atKey]⟩

theorem Seen.kept {W W' : World} {b n : Nat} {s : List Int} (h : Seen W b n s) {row : Option Nat} (hg : W.grownBy W' row) (hne : some b ≠ row) : Seen W' b n s := by
  obtain ⟨D, h1, h2⟩ := h
  exact ⟨D, h1.kept hg hne, h2⟩

theorem Seen.below {W W' : World} {b n : Nat} {s : List Int} (h : Seen W b n s) (hb : Below W.heap.size W W') : Seen W' b n s :=
  h.kept (grown_of_below hb none) (by simp)

theorem Seen.look {W : World} {b n : Nat} {s : List Int} (h : Seen W b n s) (q : Int) (hq : wf64 q = true) : (Instr.lookup 67 (.map (some b)) (.int .i64 q) false).run Try.prog W = .ok (.bool (s.contains q)) W := by
  obtain ⟨D, h1, h2⟩ := h
  obtain ⟨v, ps, hrun, hv⟩ := h1.lookup (int_keyed Try.underlying3) Try.underlying67 (z := .bool false) (by kernel_rfl) (plainElem_bool Try.underlying4 false) (keyOf_int_mk Try.underlying3 hq)
  obtain ⟨a, rfl, hz⟩ := plainElem_bool_inv Try.underlying4 hv
  rw [h2 q hq] at hz
  simp only [Prod.mk.injEq, DataW.lit.injEq, Lit.bool.injEq] at hz
  rw [← hz.1] at hrun
  exact hrun

theorem Seen.put {W' : World} {b n : Nat} {s : List Int} (q : Int) (D : DataW Unit) (hI : IsMap D) (h2 : ∀ q, wf64 q = true → D.atKey (.int .i64 q) (.lit (.bool false)) = .lit (.bool (s.contains q)))
    (h : W'.ownsMap Try.prog 3 (plainElem Try.prog 4) b n (D.put (.int .i64 q) (.lit (.bool true)))) (hq : wf64 q = true) : Seen W' b n (q :: s) := by
  refine ⟨_, h, fun x hx => ?_⟩
  by_cases e : x = q
  · subst e
    rw [atKey_put_same hI (by simp [WideAt.IsKeyLit])]
    simp
  · rw [atKey_put_other (by intro e2; apply e; injection e2), h2 x hx]
    simp [e]

def chk : Bool → List Int → List S39 → Bool
  | ok, _, [] => ok
  | ok, s, x :: r => chk (ok && mayB x && (x.f0 == 0 || !s.contains x.f0)) (x.f0 :: s) r
theorem chk_step (ok : Bool) (s : List Int) (l : List S39) (i : Int) (h0 : 0 ≤ i) (h1 : i < l.length) : chk ok s (l.drop i.toNat) = chk (ok && mayB (rd_T39 l i) && ((rd_T39 l i).f0 == 0 || !s.contains (rd_T39 l i).f0)) ((rd_T39 l i).f0 :: s) (l.drop (i + 1).toNat) := by
  have hn : i.toNat < l.length := by omega
  rw [List.drop_eq_getElem_cons hn, show (i + 1).toNat = i.toNat + 1 by omega]
  have : rd_T39 l i = l[i.toNat] := by unfold rd_T39; rw [List.getD_eq_getElem?_getD, List.getElem?_eq_getElem hn]; rfl
  rw [this]
  rfl
theorem chk_end (ok : Bool) (s : List Int) (l : List S39) (i : Int) (h1 : ¬ i < l.length) : chk ok s (l.drop i.toNat) = ok := by
  rw [List.drop_eq_nil_of_le (by omega)]; rfl
def ok0 (l : List S39) : Bool := decide (1 ≤ l.length) && decide (l.length ≤ 64)

def table_Check.f (l : List S39) : Option Int := if l.all (fun x => wf64 x.f0) then some (if chk (ok0 l) [] l then 0 else 9) else none

set_option maxHeartbeats 2000000 in
set_option maxRecDepth 100000 in
theorem table_Check.calls (A0 : Option Addr) (c0 : Nat) (l0 : List S39) (r : Int) (w : World) (hr0 : Kd.C k39 w A0 l0.length l0) (hc0 : l0.length ≤ c0) (h : table_Check.f l0 = some r) :
    Calls Try.prog 21 #[.slice A0 l0.length c0] w fun e w' => e = .returned (.int .i64 r) ∧ Below w.heap.size w w' := by
  have hu39 := Try.underlying39
  have HR := Aside0.mk hr0
  have hbig : l0.length ≤ 9223372036854775807 := hr0.2.1
  unfold table_Check.f at h
  split at h
  case isFalse => cases h
  case isTrue hwf =>
  have hwf' : ∀ i : Int, 0 ≤ i → i < l0.length → wf64 (rd_T39 l0 i).f0 = true := by
    intro i h0 h1
    have hn : i.toNat < l0.length := by omega
    have : rd_T39 l0 i = l0[i.toNat] := by unfold rd_T39; rw [List.getD_eq_getElem?_getD, List.getElem?_eq_getElem hn]; rfl
    rw [this]
    exact List.all_eq_true.1 hwf _ (List.getElem_mem hn)
  have HW := Aside0.mk hwf'
  have H := Aside0.mk (Option.some.inj h)
  clear hr0 hwf hwf' h hc0
  have hmm := @run_makeMap Try.prog
  have hstart : ∃ b0 : Bool, ok0 l0 = b0 := ⟨_, rfl⟩
  rcases (by omega : (1 ≤ l0.length ∧ l0.length ≤ 64) ∨ (1 ≤ l0.length ∧ ¬ l0.length ≤ 64) ∨ ¬ 1 ≤ l0.length) with ⟨g1, g2⟩ | ⟨g1, g2⟩ | g1
  all_goals first
    | (have b1 : decide (1 ≤ (l0.length : Int)) = true := decide_eq_true (by omega)
       have b2 : decide (1 ≤ l0.length) = true := decide_eq_true (by omega))
    | (have b1 : decide (1 ≤ (l0.length : Int)) = false := decide_eq_false (by omega)
       have b2 : decide (1 ≤ l0.length) = false := decide_eq_false (by omega))
  all_goals first
    | (have b3 : decide ((l0.length : Int) ≤ 64) = true := decide_eq_true (by omega)
       have b4 : decide (l0.length ≤ 64) = true := decide_eq_true (by omega)
       have HS : Aside0 (ok0 l0 = true) := ⟨by simp [ok0]; omega⟩)
    | (have b3 : decide ((l0.length : Int) ≤ 64) = false := decide_eq_false (by omega)
       have b4 : decide (l0.length ≤ 64) = false := decide_eq_false (by omega)
       have HS : Aside0 (ok0 l0 = false) := ⟨by simp [ok0]; omega⟩)
    | (have HS : Aside0 (ok0 l0 = false) := ⟨by simp [ok0]; omega⟩)
  all_goals
    clear hstart g1
    try clear g2
    go_enter Try.func21, Try.ntmps21
    go_wp2
    go_loopg [3, 18] (l0.length + 1) (fun gg s3 s18 wr => ∃ (okk : Bool) (kk : Int) (s : List Int), s3 = .bool okk ∧ s18 = .int .i64 kk ∧ Aside0 (0 ≤ kk ∧ kk ≤ l0.length ∧ l0.length - kk < gg ∧ Below w.heap.size w wr ∧ Seen wr w.heap.size kk.toNat s ∧ chk okk s (l0.drop kk.toNat) = chk (ok0 l0) [] l0))
    case atStart => exact ⟨_, 0, [], rfl, rfl, ⟨by omega, by omega, by omega, (Below.refl _ w).alloc (Nat.le_refl _) _, seen_made w, by rw [HS.out]; rfl⟩⟩
    case round =>
      obtain ⟨okk, kk, s, rfl, rfl, A⟩ := hrel
      by_cases hlt : kk < l0.length
      · have c2b0 : decide (kk < (l0.length : Int)) = true := decide_eq_true hlt
        have hstep := Aside0.mk (chk_step okk s l0 kk A.out.1 hlt)
        have hwf := HW.out kk A.out.1 hlt
        obtain ⟨ad, e, hx0, hx1⟩ := at_T39 HR.out kk A.out.1 hlt
        cases e
        have BW := Aside0.mk A.out.2.2.2.1
        replace hx0 := (BW.out.cell (World.block_lt_of_cell? w _ hx0)).trans hx0
        replace hx1 := (BW.out.cell (World.block_lt_of_cell? w _ hx1)).trans hx1
        have p1 := eq_true A.out.1
        have p2 := eq_true hlt
        clear hlt
        have SE := Aside0.mk A.out.2.2.2.2.1
        have hmay := may_some (rd_T39 l0 kk)
        obtain ⟨x, hx⟩ : ∃ x, x = rd_T39 l0 kk := ⟨_, rfl⟩
        rw [← hx] at hx0 hx1 hwf hmay hstep
        have HX := Aside0.mk hx
        clear hx
        cases okk with
        | false =>
          go_wp2_with (first | (at_mapUpdate; obtain ⟨D, hown, hD⟩ := SE.out; have hI := hown.isMap; have hD' := Aside0.mk hD; clear hD; refine wpList_mapUpdate_own _ rfl _ _ _ 67 rfl 3 4 (int_keyed Try.underlying3) Try.underlying67 _ w.heap.size kk.toNat D rfl (hown.alloc _) (by have := of_eq_true p2; unfold maxLen; omega) _ _ _ rfl rfl (keyOf_int_mk Try.underlying3 hwf) (.lit (.bool true)) [] (plainElem_bool Try.underlying4 true) ?_; intro w1 hown1 hgrow1; have S1 := Aside0.mk (Seen.put x.f0 D hI hD'.out hown1 hwf); have G1 := Aside0.mk hgrow1; clear hown1 hgrow1))
          have h2 := of_eq_true p2
          have h1 := of_eq_true p1
          have hw : wrap64 (kk + 1) = kk + 1 := by unfold wrap64; omega
          obtain ⟨gg, rfl⟩ : ∃ m, gk = m + 1 := ⟨gk - 1, by have := A.out.2.2.1; omega⟩
          rw [hw]
          go_roundg gg
          case measure => have := A.out.2.2.1; omega
          case rel => exact ⟨_, kk + 1, _, rfl, rfl, ⟨by omega, by omega, by have := A.out.2.2.1; omega, (BW.out.alloc BW.out.size _).grown G1.out (by have := BW.out.size; simp; omega) (fun j hj => by cases hj; exact Nat.le_refl _), by rw [show (kk + 1).toNat = kk.toNat + 1 by omega]; exact S1.out, by rw [← A.out.2.2.2.2.2, hstep.out]; rfl⟩⟩
          
        | true =>
          cases hm : mayB x with
          | false =>
            have HM := Aside0.mk hm
            rw [hm] at hmay
            clear hm
            go_wp2_with (first | (go_at_call 26; refine (table_Slot_may.calls _ _ _ _ hmay).mono ?_; rintro e w' ⟨rfl, hb⟩; have hx0' := (hb.cell (p := ⟨wr.heap.size, 0, none⟩) (by simp)).trans (show (wr.alloc (.cells #[.int .i64 x.f0, .int .i64 x.f1] 39)).cell? ⟨wr.heap.size, 0, none⟩ = some (.int .i64 x.f0) from by simp); have hlk := Seen.look ((SE.out.below (below_alloc (Below.refl _ _) _)).below hb) x.f0 hwf; have hmu := Aside0.mk ((below_alloc (Below.refl wr.heap.size wr) _).trans (hb.mono (by simp))); clear hb) | (at_mapUpdate; obtain ⟨D, hown, hD⟩ := SE.out; have hI := hown.isMap; have hD' := Aside0.mk hD; clear hD; refine wpList_mapUpdate_own _ rfl _ _ _ 67 rfl 3 4 (int_keyed Try.underlying3) Try.underlying67 _ w.heap.size kk.toNat D rfl (hown.kept (grown_of_below hmu.out none) (by simp)) (by have := of_eq_true p2; unfold maxLen; omega) _ _ _ rfl rfl (keyOf_int_mk Try.underlying3 hwf) (.lit (.bool true)) [] (plainElem_bool Try.underlying4 true) ?_; intro w1 hown1 hgrow1; have S1 := Aside0.mk (Seen.put x.f0 D hI hD'.out hown1 hwf); have G1 := Aside0.mk hgrow1; clear hown1 hgrow1))
            have h2 := of_eq_true p2
            have h1 := of_eq_true p1
            have hw : wrap64 (kk + 1) = kk + 1 := by unfold wrap64; omega
            obtain ⟨gg, rfl⟩ : ∃ m, gk = m + 1 := ⟨gk - 1, by have := A.out.2.2.1; omega⟩
            rw [hw]
            go_roundg gg
            case measure => have := A.out.2.2.1; omega
            case rel => exact ⟨_, kk + 1, _, rfl, rfl, ⟨by omega, by omega, by have := A.out.2.2.1; omega, (BW.out.trans (hmu.out.mono BW.out.size)).grown G1.out (by have := BW.out.size; have := hmu.out.size; omega) (fun j hj => by cases hj; exact Nat.le_refl _), by rw [show (kk + 1).toNat = kk.toNat + 1 by omega]; exact S1.out, by rw [← A.out.2.2.2.2.2, hstep.out]; rw [HM.out]; rfl⟩⟩
            
          | true =>
            have HM := Aside0.mk hm
            rw [hm] at hmay
            clear hm
            by_cases hz : x.f0 = 0
            · have z1 : (x.f0 == 0) = true := beq_iff_eq.2 hz
              have HZ := Aside0.mk hz
              clear hz
              go_wp2_with (first | (go_at_call 26; refine (table_Slot_may.calls _ _ _ _ hmay).mono ?_; rintro e w' ⟨rfl, hb⟩; have hx0' := (hb.cell (p := ⟨wr.heap.size, 0, none⟩) (by simp)).trans (show (wr.alloc (.cells #[.int .i64 x.f0, .int .i64 x.f1] 39)).cell? ⟨wr.heap.size, 0, none⟩ = some (.int .i64 x.f0) from by simp); have hlk := Seen.look ((SE.out.below (below_alloc (Below.refl _ _) _)).below hb) x.f0 hwf; have hmu := Aside0.mk ((below_alloc (Below.refl wr.heap.size wr) _).trans (hb.mono (by simp))); clear hb) | (at_mapUpdate; obtain ⟨D, hown, hD⟩ := SE.out; have hI := hown.isMap; have hD' := Aside0.mk hD; clear hD; refine wpList_mapUpdate_own _ rfl _ _ _ 67 rfl 3 4 (int_keyed Try.underlying3) Try.underlying67 _ w.heap.size kk.toNat D rfl (hown.kept (grown_of_below hmu.out none) (by simp)) (by have := of_eq_true p2; unfold maxLen; omega) _ _ _ rfl rfl (keyOf_int_mk Try.underlying3 hwf) (.lit (.bool true)) [] (plainElem_bool Try.underlying4 true) ?_; intro w1 hown1 hgrow1; have S1 := Aside0.mk (Seen.put x.f0 D hI hD'.out hown1 hwf); have G1 := Aside0.mk hgrow1; clear hown1 hgrow1))
              have h2 := of_eq_true p2
              have h1 := of_eq_true p1
              have hw : wrap64 (kk + 1) = kk + 1 := by unfold wrap64; omega
              obtain ⟨gg, rfl⟩ : ∃ m, gk = m + 1 := ⟨gk - 1, by have := A.out.2.2.1; omega⟩
              rw [hw]
              go_roundg gg
              case measure => have := A.out.2.2.1; omega
              case rel => exact ⟨_, kk + 1, _, rfl, rfl, ⟨by omega, by omega, by have := A.out.2.2.1; omega, (BW.out.trans (hmu.out.mono BW.out.size)).grown G1.out (by have := BW.out.size; have := hmu.out.size; omega) (fun j hj => by cases hj; exact Nat.le_refl _), by rw [show (kk + 1).toNat = kk.toNat + 1 by omega]; exact S1.out, by rw [← A.out.2.2.2.2.2, hstep.out]; rw [HM.out, z1]; rfl⟩⟩
              
            · have z1 : (x.f0 == 0) = false := beq_eq_false_iff_ne.2 hz
              clear hz
              go_wp2_with (first | (go_at_call 26; refine (table_Slot_may.calls _ _ _ _ hmay).mono ?_; rintro e w' ⟨rfl, hb⟩; have hx0' := (hb.cell (p := ⟨wr.heap.size, 0, none⟩) (by simp)).trans (show (wr.alloc (.cells #[.int .i64 x.f0, .int .i64 x.f1] 39)).cell? ⟨wr.heap.size, 0, none⟩ = some (.int .i64 x.f0) from by simp); have hlk := Seen.look ((SE.out.below (below_alloc (Below.refl _ _) _)).below hb) x.f0 hwf; have hmu := Aside0.mk ((below_alloc (Below.refl wr.heap.size wr) _).trans (hb.mono (by simp))); clear hb) | (at_mapUpdate; obtain ⟨D, hown, hD⟩ := SE.out; have hI := hown.isMap; have hD' := Aside0.mk hD; clear hD; refine wpList_mapUpdate_own _ rfl _ _ _ 67 rfl 3 4 (int_keyed Try.underlying3) Try.underlying67 _ w.heap.size kk.toNat D rfl (hown.kept (grown_of_below hmu.out none) (by simp)) (by have := of_eq_true p2; unfold maxLen; omega) _ _ _ rfl rfl (keyOf_int_mk Try.underlying3 hwf) (.lit (.bool true)) [] (plainElem_bool Try.underlying4 true) ?_; intro w1 hown1 hgrow1; have S1 := Aside0.mk (Seen.put x.f0 D hI hD'.out hown1 hwf); have G1 := Aside0.mk hgrow1; clear hown1 hgrow1))
              have h2 := of_eq_true p2
              have h1 := of_eq_true p1
              have hw : wrap64 (kk + 1) = kk + 1 := by unfold wrap64; omega
              obtain ⟨gg, rfl⟩ : ∃ m, gk = m + 1 := ⟨gk - 1, by have := A.out.2.2.1; omega⟩
              rw [hw]
              go_roundg gg
              case measure => have := A.out.2.2.1; omega
              case rel => exact ⟨_, kk + 1, _, rfl, rfl, ⟨by omega, by omega, by have := A.out.2.2.1; omega, (BW.out.trans (hmu.out.mono BW.out.size)).grown G1.out (by have := BW.out.size; have := hmu.out.size; omega) (fun j hj => by cases hj; exact Nat.le_refl _), by rw [show (kk + 1).toNat = kk.toNat + 1 by omega]; exact S1.out, by rw [← A.out.2.2.2.2.2, hstep.out]; simp [HM.out, z1]⟩⟩
              
      · have c2b0 : decide (kk < (l0.length : Int)) = false := decide_eq_false hlt
        have hend := chk_end okk s l0 kk hlt
        rw [A.out.2.2.2.2.2] at hend
        have HE := Aside0.mk hend
        clear hend
        cases okk with
        | false =>
          go_wp2
          go_ret
          exact ⟨by rw [← H.out, HE.out]; rfl, A.out.2.2.2.1⟩
        | true =>
          go_wp2
          go_ret
          exact ⟨by rw [← H.out, HE.out]; rfl, A.out.2.2.2.1⟩
end

-- NOT PRINTED: function 27 (table_Slot)

/-! ### table_Alloc: function 8 -/
theorem Alloc11.calls (B : Nat) (s v : Int) (z : Int) (w : World) (hB : w.cell? ⟨B, 0, none⟩ = some (.int .i64 z)) :
    Calls Try.prog 25 #[.agg #[.int .i64 s, .int .i64 v], .pointer (some ⟨B, 0, none⟩)] w fun e w' => e = .returned (.bool (s == z)) ∧ Below w.heap.size w w' := by
  have hu39 := Try.underlying39
  have hb := World.block_lt_of_cell? w _ hB
  go_enter Try.func25, Try.ntmps25
  go_wp2
  go_ret
  exact ⟨rfl, (Below.refl _ _).alloc (Nat.le_refl _) _⟩

def idxP {α : Type} (p : α → Bool) (l : List α) : Int := if l.findIdx p < l.length then (l.findIdx p : Int) else -1

theorem idxP_hit {α : Type} (p : α → Bool) (l : List α) (d : α) (i : Int) (h0 : 0 ≤ i) (h1 : i < l.length) (h : p (l.getD i.toNat d) = true) (hf : ∀ j : Nat, j < i → p (l.getD j d) = false) : idxP p l = i := by
  have hn : i.toNat < l.length := by omega
  have : l.findIdx p = i.toNat := by
    rw [List.findIdx_eq hn]
    refine ⟨by rw [List.getD_eq_getElem?_getD, List.getElem?_eq_getElem hn] at h; exact h, fun j hj => ?_⟩
    have := hf j (by omega)
    rw [List.getD_eq_getElem?_getD, List.getElem?_eq_getElem (by omega)] at this
    simpa using this
  unfold idxP
  rw [this, if_pos hn]
  omega
theorem idxP_miss {α : Type} (p : α → Bool) (l : List α) (d : α) (hf : ∀ j : Nat, j < l.length → p (l.getD j d) = false) : idxP p l = -1 := by
  unfold idxP
  rw [if_neg]
  intro h
  have h1 := List.findIdx_getElem (p := p) (xs := l) (w := h)
  have := hf _ h
  rw [List.getD_eq_getElem?_getD, List.getElem?_eq_getElem h] at this
  simp at this
  rw [this] at h1
  exact absurd h1 (by simp)

set_option maxHeartbeats 1000000 in
theorem IdxF.calls (A0 : Option Addr) (c0 : Nat) (l0 : List S39) (p : S39 → Bool) (g : Nat) (lb : Array Value) (eg : ∀ args w, (callFunc g args).run Try.prog w = .ok (.enter g args) w) (w : World)
    (hr0 : Kd.C k39 w A0 l0.length l0)
    (hp : ∀ W (x : S39), Below w.heap.size w W → Calls Try.prog g (#[.agg #[.int .i64 x.f0, .int .i64 x.f1]] ++ lb) W fun e w' => e = .returned (.bool (p x)) ∧ Below w.heap.size w w') :
    Calls Try.prog 24 #[.slice A0 l0.length c0, .func (.func g) #[] lb] w fun e w' => e = .returned (.int .i64 (idxP p l0)) ∧ Below w.heap.size w w' := by
  have hu39 := Try.underlying39
  have HR := Aside0.mk hr0
  have hbig : l0.length ≤ 9223372036854775807 := hr0.2.1
  clear hr0
  go_enter Try.func24, Try.ntmps24
  go_wp2
  go_loopg [5, 8] (l0.length + 1) (fun gg _ s8 wr => ∃ kk : Int, s8 = .int .i64 kk ∧ Aside0 (0 ≤ kk ∧ kk ≤ l0.length ∧ l0.length - kk < gg ∧ Below w.heap.size w wr ∧ (∀ j : Nat, j < kk → p (rd_T39 l0 j) = false)))
  case atStart => exact ⟨0, rfl, ⟨by omega, by omega, by omega, Below.refl _ w, fun j hj => by omega⟩⟩
  case round =>
    obtain ⟨kk, rfl, A⟩ := hrel
    by_cases hlt : kk < l0.length
    · have c2b0 : decide (kk < (l0.length : Int)) = true := decide_eq_true hlt
      obtain ⟨ad, e, hx0, hx1⟩ := at_T39 HR.out kk A.out.1 hlt
      cases e
      have BW := Aside0.mk A.out.2.2.2.1
      replace hx0 := (BW.out.cell (World.block_lt_of_cell? w _ hx0)).trans hx0
      replace hx1 := (BW.out.cell (World.block_lt_of_cell? w _ hx1)).trans hx1
      have hcall := hp wr (rd_T39 l0 kk) BW.out
      have p1 := eq_true A.out.1
      have p2 := eq_true hlt
      clear hp hlt
      cases hq : p (rd_T39 l0 kk) with
      | true =>
        rw [hq] at hcall
        have HQ := Aside0.mk hq
        clear hq
        go_wp2_with (go_at_fn g; refine hcall.mono ?_; rintro e w' ⟨rfl, hb'⟩)
        go_ret
        refine ⟨?_, hb'⟩
        rw [idxP_hit p l0 z39 kk A.out.1 (of_eq_true p2) HQ.out A.out.2.2.2.2]
        rfl
      | false =>
        rw [hq] at hcall
        have HQ := Aside0.mk hq
        clear hq
        go_wp2_with (go_at_fn g; refine hcall.mono ?_; rintro e w' ⟨rfl, hb'⟩)
        have hw : wrap64 (kk + 1) = kk + 1 := by
          have h1 := A.out.1
          have h2 := of_eq_true p2
          unfold wrap64
          omega
        have h2 := of_eq_true p2
        have hA := A.out
        rw [hw]
        have hb2 := Aside0.mk hb'
        clear hb'
        obtain ⟨gg, rfl⟩ : ∃ m, gk = m + 1 := ⟨gk - 1, by omega⟩
        go_roundg gg
        case measure => omega
        case rel =>
          refine ⟨kk + 1, rfl, ⟨by omega, by omega, by omega, hb2.out, fun j hj => ?_⟩⟩
          by_cases e : (j : Int) = kk
          · rw [e]; exact HQ.out
          · exact hA.2.2.2.2 j (by omega)
    · have c2b0 : decide (kk < (l0.length : Int)) = false := decide_eq_false hlt
      go_wp2
      go_ret
      refine ⟨?_, A.out.2.2.2.1⟩
      rw [idxP_miss p l0 z39 (fun j hj => A.out.2.2.2.2 j (by have := A.out.2.1; omega))]
      rfl
theorem R_empty {α : Type} (d : Kd α) (e : Nat) (W : World) : d.R e (W.alloc (.cells #[] e)) W.heap.size (fun _ => True) (.slice (some ⟨W.heap.size, 0, none⟩) 0 0) [] :=
  ⟨fun _ _ => trivial, [], by simpa using World.ownsRow_lit (base := W.heap.size) (e := e) (size := d.sz) W #[] 0 (Nat.le_refl _) (by simp [maxLen]) (by simp), Reps.none _ _⟩

set_option maxHeartbeats 1000000 in
theorem Clone.calls (A0 : Option Addr) (c0 : Nat) (l0 : List S39) (w : World) (hr0 : Kd.C k39 w A0 l0.length l0) (hl : l0.length < 8796093022208) :
    Calls Try.prog 27 #[.slice A0 l0.length c0] w fun e w' => ∃ v : Value, e = .returned v ∧ Kd.R k39 39 w' w.heap.size (fun _ => True) v l0 ∧ Below w.heap.size w w' := by
  have hu24 := Try.underlying24
  have HR := Aside0.mk hr0
  have HL := Aside0.mk hl
  have hnn : ∀ (W : World) (a : Option Addr), (binOp .eql 24 (.slice a l0.length c0) (.slice none 0 0)).run Try.prog W = .ok (.bool a.isNone) W := fun W a => run_eql_slice_nil W 24 39 a l0.length c0 Try.underlying24
  clear hr0 hl
  rcases A0 with _ | ad
  · have h0 : l0 = [] := by
      rcases Nat.eq_zero_or_pos l0.length with h | h
      · exact List.eq_nil_of_length_eq_zero h
      · obtain ⟨ad, h, _⟩ := HR.out.2.2 h
        cases h
    have h0' := Aside0.mk h0
    clear h0
    go_enter Try.func27, Try.ntmps27
    go_wp2
    go_ret
    exact ⟨_, rfl, by rw [h0'.out]; exact Kd.R_nil _ _ _ _ _, Below.refl _ _⟩
  · go_enter Try.func27, Try.ntmps27
    go_wp2_with (first | ((with_reducible refine gate_builtin (b := .append) (xs := #[.tmp 5, .tmp 6]) rfl ?_); at_builtin; refine Kd.R_append_rows k39 (Rr := k39.K w) (w0 := w) w.heap.size rfl (.tmp 5) (.tmp 6) 24 39 (.agg #[(.int .i64 0), (.int .i64 0)]) 16 rfl Try.underlying24 info39 rfl (by decide) (by omega) (.slice (some ⟨w.heap.size, 0, none⟩) 0 0) [] l0 (some ad) l0.length c0 (fun _ => True) (fun _ => False) rfl rfl ?aO ?aR ?aK (fun _ hk => hk.elim) (fun _ _ => trivial) ?aB ?aS ?aL ?_; (case aO => exact R_empty k39 39 w); (case aR => exact Kd.C_alloc HR.out _); (case aK => intro x cs hx; have := k39_open hx; subst this; exact k39_mkM _ _ _ x); (case aB => exact (Below.refl _ _).alloc (Nat.le_refl _) _); (case aS => simp); (case aL => have := HL.out; simp; omega); intro v1 w1 ho hb hg hat; have HO := Aside0.mk ho; have HB := Aside0.mk hb; clear ho hb hg hat))
    go_ret
    exact ⟨_, rfl, HO.out, HB.out⟩
set_option maxHeartbeats 1000000 in
theorem Alloc1.calls (L : Nat) (A0 : Option Addr) (c0 : Nat) (l0 : List S39) (q : Int) (w : World) (hL : w.cell? ⟨L, 0, none⟩ = some (.slice A0 l0.length c0)) (hr0 : Kd.C k39 w A0 l0.length l0) :
    Calls Try.prog 23 #[.int .i64 q, .pointer (some ⟨L, 0, none⟩)] w fun e w' => e = .returned (.int .i64 (idxP (fun x => x.f0 == q) l0)) ∧ Below w.heap.size w w' := by
  have hb := World.block_lt_of_cell? w _ hL
  have HR := Aside0.mk hr0
  clear hr0
  go_enter Try.func23, Try.ntmps23
  go_wp2_with (first | (go_at_call 24; refine (IdxF.calls A0 c0 l0 (fun x => x.f0 == q) 25 #[.pointer (some ⟨w.heap.size, 0, none⟩)] (enters_of Try.func25 (by kernel_rfl) rfl) _ (Kd.C_alloc HR.out _) (fun W x hB => (Alloc11.calls w.heap.size x.f0 x.f1 q W ((hB.cell (p := ⟨w.heap.size, 0, none⟩) (by simp)).trans (by simp))).mono fun e w' he => ⟨he.1, hB.trans (he.2.mono hB.size)⟩)).mono ?_; rintro e w' ⟨rfl, hb'⟩))
  go_ret
  exact ⟨rfl, (below_alloc (Below.refl _ _) _).trans (hb'.mono (by simp))⟩
/-- A whole element (two numbers) is written. -/
theorem R_set39 {W : World} {base g n cap : Nat} {ok : Nat → Prop} {xs : List S39} (h : Kd.R k39 39 W base ok (.slice (some ⟨g, 0, none⟩) n cap) xs) (i : Int) (h0 : 0 ≤ i) (h1 : i < n) (a b : Int) :
    (W.frozen? ⟨g, i.toNat * 2, none⟩ = false ∧ W.frozen? ⟨g, i.toNat * 2 + 1, none⟩ = false ∧ W.cell? ⟨g, i.toNat * 2, none⟩ = some (.int .i64 (rd_T39 xs i).f0) ∧ W.cell? ⟨g, i.toNat * 2 + 1, none⟩ = some (.int .i64 (rd_T39 xs i).f1)) ∧
    (∀ a b : Int, Kd.R k39 39 ((W.setCell ⟨g, i.toNat * 2, none⟩ (.int .i64 a)).setCell ⟨g, i.toNat * 2 + 1, none⟩ (.int .i64 b)) base ok (.slice (some ⟨g, 0, none⟩) n cap) (xs.set i.toNat ⟨a, b⟩) ∧
      W.grownBy ((W.setCell ⟨g, i.toNat * 2, none⟩ (.int .i64 a)).setCell ⟨g, i.toNat * 2 + 1, none⟩ (.int .i64 b)) (some g)) := by
  obtain ⟨c, hcl, hM, hcc, hfr⟩ := Kd.R_elem h z39 i h0 h1
  obtain rfl := k39_openM hM
  refine ⟨⟨hfr 0, hfr 1, hcc 0 _ rfl, hcc 1 _ rfl⟩, fun a b => ?_⟩
  have := Kd.R_seg h i h0 h1 (seg := [.int .i64 a, .int .i64 b]) (j := 0) hcl hcc (show 2 ≤ 2 from by decide) (x' := (⟨a, b⟩ : S39)) (k39_mkM _ _ _ (⟨a, b⟩ : S39)) (fun _ hk => hk)
  exact this

def table_Alloc.f (l : List S39) (a1 a2 : Int) : Option (List S39 × Int × Int) :=
  (table_Check.f l).bind fun e =>
    if e = 0 then
      (if a1 < 1 then some ([], 0, 4) else if mayB ⟨a1, a2⟩ = false then some ([], 0, 4)
        else if 0 ≤ idxP (fun x => x.f0 == a1) l then some ([], 0, 6)
        else if idxP (fun x => x.f0 == 0) l < 0 then some ([], 0, 51)
        else if l.length < 8796093022208 then some (l.set (idxP (fun x => x.f0 == 0) l).toNat ⟨a1, a2⟩, idxP (fun x => x.f0 == 0) l, 0) else none)
    else some ([], 0, e)

theorem idxP_lt {α : Type} (p : α → Bool) (l : List α) : idxP p l < l.length := by unfold idxP; split <;> omega

theorem Alloc1.at_ (L : Nat) (A0 : Option Addr) (c0 : Nat) (l0 : List S39) (q i : Int) (hi : Aside0 (i = idxP (fun x => x.f0 == q) l0)) (w : World) (hL : w.cell? ⟨L, 0, none⟩ = some (.slice A0 l0.length c0)) (hr0 : Kd.C k39 w A0 l0.length l0) :
    Calls Try.prog 23 #[.int .i64 q, .pointer (some ⟨L, 0, none⟩)] w fun e w' => e = .returned (.int .i64 i) ∧ Below w.heap.size w w' := by
  rw [hi.out]
  exact Alloc1.calls L A0 c0 l0 q w hL hr0

set_option maxHeartbeats 4000000 in
set_option maxRecDepth 100000 in
theorem table_Alloc.calls (A0 : Option Addr) (c0 : Nat) (l0 : List S39) (a1 : Int) (a2 : Int) (r1 : List S39) (r2 : Int) (r3 : Int) (w : World) (hr0 : Kd.C k39 w A0 l0.length l0) (hc0 : l0.length ≤ c0) (h : table_Alloc.f l0 a1 a2 = some (r1, r2, r3)) :
    Calls Try.prog 8 #[.slice A0 l0.length c0, .int .i64 a1, .int .i64 a2] w fun e w' => ∃ v0_ : Value, e = .returned (.tuple #[v0_, .int .i64 r2, .int .i64 r3]) ∧ Kd.R k39 39 w' w.heap.size (fun _ => True) v0_ r1 ∧ Below w.heap.size w w' := by
  have hu39 := Try.underlying39
  unfold table_Alloc.f at h
  obtain ⟨e0, he0, h⟩ := Option.bind_eq_some_iff.1 h
  have HE := Aside0.mk he0
  have HR := Aside0.mk hr0
  have HC := Aside0.mk hc0
  clear he0 hr0 hc0
  -- the contract of Check, at the world where it stands
  by_cases h0 : e0 = 0
  · subst h0
    rw [if_pos rfl] at h
    by_cases h1 : a1 < 1
    · rw [if_pos h1] at h
      simp only [Option.some.injEq, Prod.mk.injEq] at h
      obtain ⟨rfl, rfl, rfl⟩ := h
      have n1 : decide (a1 < 1) = true := decide_eq_true h1
      clear h1
      go_enter Try.func8, Try.ntmps8
      go_wp2_with (first | (go_at_call 21; refine (table_Check.calls A0 c0 l0 0 _ (Kd.C_alloc HR.out _) HC.out HE.out).mono ?_; rintro e w1 ⟨rfl, hb⟩; have hL := (hb.cell (p := ⟨w.heap.size, 0, none⟩) (by simp)).trans (show (w.alloc (.cells #[.slice A0 l0.length c0] 24)).cell? ⟨w.heap.size, 0, none⟩ = some (.slice A0 l0.length c0) from by simp); have HB := Aside0.mk ((below_alloc (Below.refl w.heap.size w) _).trans (hb.mono (by simp))); clear hb))
      go_ret3
      exact ⟨_, rfl, Kd.R_nil _ _ _ _ _, below_alloc HB.out _⟩
    · rw [if_neg h1] at h
      have n1 : decide (a1 < 1) = false := decide_eq_false h1
      clear h1
      have hmay := Aside0.mk (may_some ⟨a1, a2⟩)
      cases hm : mayB ⟨a1, a2⟩ with
      | false =>
        rw [hm] at hmay h
        rw [if_pos rfl] at h
        simp only [Option.some.injEq, Prod.mk.injEq] at h
        obtain ⟨rfl, rfl, rfl⟩ := h
        clear hm
        go_enter Try.func8, Try.ntmps8
        go_wp2_with (first | (go_at_call 21; refine (table_Check.calls A0 c0 l0 0 _ (Kd.C_alloc HR.out _) HC.out HE.out).mono ?_; rintro e w1 ⟨rfl, hb⟩; have hL := (hb.cell (p := ⟨w.heap.size, 0, none⟩) (by simp)).trans (show (w.alloc (.cells #[.slice A0 l0.length c0] 24)).cell? ⟨w.heap.size, 0, none⟩ = some (.slice A0 l0.length c0) from by simp); have HB := Aside0.mk ((below_alloc (Below.refl w.heap.size w) _).trans (hb.mono (by simp))); clear hb) | (go_at_call 26; refine (table_Slot_may.calls a1 a2 _ _ hmay.out).mono ?_; rintro e w2 ⟨rfl, hb⟩; have hbw := (below_alloc (Below.refl w1.heap.size w1) (.cells #[.int .i64 a1, .int .i64 a2] 39)).trans (hb.mono (by simp)); have n1 := (hbw.cell (p := ⟨w.heap.size, 0, none⟩) (World.block_lt_of_cell? _ _ hL)).trans hL; have hx0 := (hb.cell (p := ⟨w1.heap.size, 0, none⟩) (by simp)).trans (show (w1.alloc (.cells #[.int .i64 a1, .int .i64 a2] 39)).cell? ⟨w1.heap.size, 0, none⟩ = some (.int .i64 a1) from by simp); have hx1 := (hb.cell (p := ⟨w1.heap.size, 1, none⟩) (by simp)).trans (show (w1.alloc (.cells #[.int .i64 a1, .int .i64 a2] 39)).cell? ⟨w1.heap.size, 1, none⟩ = some (.int .i64 a2) from by simp); have n4 := Aside0.mk (HB.out.trans (hbw.mono HB.out.size)); clear hbw; clear hL HB hb; have hL := n1; have HB := n4; clear n1 n4))
        go_ret3
        exact ⟨_, rfl, Kd.R_nil _ _ _ _ _, HB.out⟩
      | true =>
        rw [hm] at hmay h
        rw [if_neg (by simp)] at h
        clear hm
        obtain ⟨i1, hi1⟩ : ∃ i, i = idxP (fun x => x.f0 == a1) l0 := ⟨_, rfl⟩
        obtain ⟨i0, hi0⟩ : ∃ i, i = idxP (fun x => x.f0 == 0) l0 := ⟨_, rfl⟩
        rw [← hi1, ← hi0] at h
        have HI1 := Aside0.mk hi1
        have HI0 := Aside0.mk hi0
        clear hi1 hi0
        by_cases h2 : 0 ≤ i1
        · rw [if_pos h2] at h
          simp only [Option.some.injEq, Prod.mk.injEq] at h
          obtain ⟨rfl, rfl, rfl⟩ := h
          have n2 : decide (0 ≤ i1) = true := decide_eq_true h2
          clear h2
          go_enter Try.func8, Try.ntmps8
          go_wp2_with (first | (go_at_call 21; refine (table_Check.calls A0 c0 l0 0 _ (Kd.C_alloc HR.out _) HC.out HE.out).mono ?_; rintro e w1 ⟨rfl, hb⟩; have hL := (hb.cell (p := ⟨w.heap.size, 0, none⟩) (by simp)).trans (show (w.alloc (.cells #[.slice A0 l0.length c0] 24)).cell? ⟨w.heap.size, 0, none⟩ = some (.slice A0 l0.length c0) from by simp); have HB := Aside0.mk ((below_alloc (Below.refl w.heap.size w) _).trans (hb.mono (by simp))); clear hb) | (go_at_call 26; refine (table_Slot_may.calls a1 a2 _ _ hmay.out).mono ?_; rintro e w2 ⟨rfl, hb⟩; have hbw := (below_alloc (Below.refl w1.heap.size w1) (.cells #[.int .i64 a1, .int .i64 a2] 39)).trans (hb.mono (by simp)); have n1 := (hbw.cell (p := ⟨w.heap.size, 0, none⟩) (World.block_lt_of_cell? _ _ hL)).trans hL; have hx0 := (hb.cell (p := ⟨w1.heap.size, 0, none⟩) (by simp)).trans (show (w1.alloc (.cells #[.int .i64 a1, .int .i64 a2] 39)).cell? ⟨w1.heap.size, 0, none⟩ = some (.int .i64 a1) from by simp); have hx1 := (hb.cell (p := ⟨w1.heap.size, 1, none⟩) (by simp)).trans (show (w1.alloc (.cells #[.int .i64 a1, .int .i64 a2] 39)).cell? ⟨w1.heap.size, 1, none⟩ = some (.int .i64 a2) from by simp); have n4 := Aside0.mk (HB.out.trans (hbw.mono HB.out.size)); clear hbw; clear hL HB hb; have hL := n1; have HB := n4; clear n1 n4) | (go_at_call 23; (with_reducible refine (Alloc1.at_ w.heap.size A0 c0 l0 a1 i1 HI1 _ hL (Kd.C_below HR.out HB.out)).mono ?_); rintro e w3 ⟨rfl, hb⟩; have n1 := (hb.cell (p := ⟨w.heap.size, 0, none⟩) (World.block_lt_of_cell? _ _ hL)).trans hL; have n2 := (hb.cell (p := ⟨w1.heap.size, 0, none⟩) (World.block_lt_of_cell? _ _ hx0)).trans hx0; have n3 := (hb.cell (p := ⟨w1.heap.size, 1, none⟩) (World.block_lt_of_cell? _ _ hx1)).trans hx1; have n4 := Aside0.mk (HB.out.trans (hb.mono HB.out.size)); clear hL hx0 hx1 HB hb; have hL := n1; have hx0 := n2; have hx1 := n3; have HB := n4; clear n1 n2 n3 n4))
          go_ret3
          exact ⟨_, rfl, Kd.R_nil _ _ _ _ _, HB.out⟩
        · rw [if_neg h2] at h
          have n2 : decide (0 ≤ i1) = false := decide_eq_false h2
          clear h2
          by_cases h3 : i0 < 0
          · rw [if_pos h3] at h
            simp only [Option.some.injEq, Prod.mk.injEq] at h
            obtain ⟨rfl, rfl, rfl⟩ := h
            have n3 : decide (i0 < 0) = true := decide_eq_true h3
            clear h3
            go_enter Try.func8, Try.ntmps8
            go_wp2_with (first | (go_at_call 21; refine (table_Check.calls A0 c0 l0 0 _ (Kd.C_alloc HR.out _) HC.out HE.out).mono ?_; rintro e w1 ⟨rfl, hb⟩; have hL := (hb.cell (p := ⟨w.heap.size, 0, none⟩) (by simp)).trans (show (w.alloc (.cells #[.slice A0 l0.length c0] 24)).cell? ⟨w.heap.size, 0, none⟩ = some (.slice A0 l0.length c0) from by simp); have HB := Aside0.mk ((below_alloc (Below.refl w.heap.size w) _).trans (hb.mono (by simp))); clear hb) | (go_at_call 26; refine (table_Slot_may.calls a1 a2 _ _ hmay.out).mono ?_; rintro e w2 ⟨rfl, hb⟩; have hbw := (below_alloc (Below.refl w1.heap.size w1) (.cells #[.int .i64 a1, .int .i64 a2] 39)).trans (hb.mono (by simp)); have n1 := (hbw.cell (p := ⟨w.heap.size, 0, none⟩) (World.block_lt_of_cell? _ _ hL)).trans hL; have hx0 := (hb.cell (p := ⟨w1.heap.size, 0, none⟩) (by simp)).trans (show (w1.alloc (.cells #[.int .i64 a1, .int .i64 a2] 39)).cell? ⟨w1.heap.size, 0, none⟩ = some (.int .i64 a1) from by simp); have hx1 := (hb.cell (p := ⟨w1.heap.size, 1, none⟩) (by simp)).trans (show (w1.alloc (.cells #[.int .i64 a1, .int .i64 a2] 39)).cell? ⟨w1.heap.size, 1, none⟩ = some (.int .i64 a2) from by simp); have n4 := Aside0.mk (HB.out.trans (hbw.mono HB.out.size)); clear hbw; clear hL HB hb; have hL := n1; have HB := n4; clear n1 n4) | (go_at_call 23; (with_reducible refine (Alloc1.at_ w.heap.size A0 c0 l0 a1 i1 HI1 _ hL (Kd.C_below HR.out HB.out)).mono ?_); rintro e w3 ⟨rfl, hb⟩; have n1 := (hb.cell (p := ⟨w.heap.size, 0, none⟩) (World.block_lt_of_cell? _ _ hL)).trans hL; have n2 := (hb.cell (p := ⟨w1.heap.size, 0, none⟩) (World.block_lt_of_cell? _ _ hx0)).trans hx0; have n3 := (hb.cell (p := ⟨w1.heap.size, 1, none⟩) (World.block_lt_of_cell? _ _ hx1)).trans hx1; have n4 := Aside0.mk (HB.out.trans (hb.mono HB.out.size)); clear hL hx0 hx1 HB hb; have hL := n1; have hx0 := n2; have hx1 := n3; have HB := n4; clear n1 n2 n3 n4) | (go_at_call 23; (with_reducible refine (Alloc1.at_ w.heap.size A0 c0 l0 0 i0 HI0 _ hL (Kd.C_below HR.out HB.out)).mono ?_); rintro e w3 ⟨rfl, hb⟩; have n1 := (hb.cell (p := ⟨w.heap.size, 0, none⟩) (World.block_lt_of_cell? _ _ hL)).trans hL; have n2 := (hb.cell (p := ⟨w1.heap.size, 0, none⟩) (World.block_lt_of_cell? _ _ hx0)).trans hx0; have n3 := (hb.cell (p := ⟨w1.heap.size, 1, none⟩) (World.block_lt_of_cell? _ _ hx1)).trans hx1; have n4 := Aside0.mk (HB.out.trans (hb.mono HB.out.size)); clear hL hx0 hx1 HB hb; have hL := n1; have hx0 := n2; have hx1 := n3; have HB := n4; clear n1 n2 n3 n4))
            go_ret3
            exact ⟨_, rfl, Kd.R_nil _ _ _ _ _, HB.out⟩
          · rw [if_neg h3] at h
            have n3 : decide (i0 < 0) = false := decide_eq_false h3
            split at h
            case isFalse => cases h
            case isTrue hln =>
            have HLN := Aside0.mk hln
            simp only [Option.some.injEq, Prod.mk.injEq] at h
            obtain ⟨rfl, rfl, rfl⟩ := h
            have hlt := idxP_lt (fun x : S39 => x.f0 == 0) l0
            rw [← HI0.out] at hlt
            have HI := Aside0.mk (And.intro (show 0 ≤ i0 by omega) hlt)
            have p1 := eq_true HI.out.1
            have p2 := eq_true HI.out.2
            clear h3 hln hlt
            go_enter Try.func8, Try.ntmps8
            go_wp2_with (first | (go_at_call 21; refine (table_Check.calls A0 c0 l0 0 _ (Kd.C_alloc HR.out _) HC.out HE.out).mono ?_; rintro e w1 ⟨rfl, hb⟩; have hL := (hb.cell (p := ⟨w.heap.size, 0, none⟩) (by simp)).trans (show (w.alloc (.cells #[.slice A0 l0.length c0] 24)).cell? ⟨w.heap.size, 0, none⟩ = some (.slice A0 l0.length c0) from by simp); have HB := Aside0.mk ((below_alloc (Below.refl w.heap.size w) _).trans (hb.mono (by simp))); clear hb) | (go_at_call 26; refine (table_Slot_may.calls a1 a2 _ _ hmay.out).mono ?_; rintro e w2 ⟨rfl, hb⟩; have hbw := (below_alloc (Below.refl w1.heap.size w1) (.cells #[.int .i64 a1, .int .i64 a2] 39)).trans (hb.mono (by simp)); have n1 := (hbw.cell (p := ⟨w.heap.size, 0, none⟩) (World.block_lt_of_cell? _ _ hL)).trans hL; have hx0 := (hb.cell (p := ⟨w1.heap.size, 0, none⟩) (by simp)).trans (show (w1.alloc (.cells #[.int .i64 a1, .int .i64 a2] 39)).cell? ⟨w1.heap.size, 0, none⟩ = some (.int .i64 a1) from by simp); have hx1 := (hb.cell (p := ⟨w1.heap.size, 1, none⟩) (by simp)).trans (show (w1.alloc (.cells #[.int .i64 a1, .int .i64 a2] 39)).cell? ⟨w1.heap.size, 1, none⟩ = some (.int .i64 a2) from by simp); have n4 := Aside0.mk (HB.out.trans (hbw.mono HB.out.size)); clear hbw; clear hL HB hb; have hL := n1; have HB := n4; clear n1 n4) | (go_at_call 23; (with_reducible refine (Alloc1.at_ w.heap.size A0 c0 l0 0 i0 HI0 _ hL (Kd.C_below HR.out HB.out)).mono ?_); rintro e w3 ⟨rfl, hb⟩; have n1 := (hb.cell (p := ⟨w.heap.size, 0, none⟩) (World.block_lt_of_cell? _ _ hL)).trans hL; have n2 := (hb.cell (p := ⟨w1.heap.size, 0, none⟩) (World.block_lt_of_cell? _ _ hx0)).trans hx0; have n3 := (hb.cell (p := ⟨w1.heap.size, 1, none⟩) (World.block_lt_of_cell? _ _ hx1)).trans hx1; have n5 := Aside0.mk (Kd.R_below HO.out hb); have n4 := Aside0.mk (HB.out.trans (hb.mono HB.out.size)); clear hL hx0 hx1 HB HO hb; have hL := n1; have hx0 := n2; have hx1 := n3; have HB := n4; have HO := n5; clear n1 n2 n3 n4 n5; obtain ⟨⟨f0, f1, d0, d1⟩, hset⟩ := R_set39 HO.out i0 HI.out.1 HI.out.2 a1 a2; have HS := Aside0.mk hset; clear hset) | (go_at_call 23; (with_reducible refine (Alloc1.at_ w.heap.size A0 c0 l0 a1 i1 HI1 _ hL (Kd.C_below HR.out HB.out)).mono ?_); rintro e w3 ⟨rfl, hb⟩; have n1 := (hb.cell (p := ⟨w.heap.size, 0, none⟩) (World.block_lt_of_cell? _ _ hL)).trans hL; have n2 := (hb.cell (p := ⟨w1.heap.size, 0, none⟩) (World.block_lt_of_cell? _ _ hx0)).trans hx0; have n3 := (hb.cell (p := ⟨w1.heap.size, 1, none⟩) (World.block_lt_of_cell? _ _ hx1)).trans hx1; have n4 := Aside0.mk (HB.out.trans (hb.mono HB.out.size)); clear hL hx0 hx1 HB hb; have hL := n1; have hx0 := n2; have hx1 := n3; have HB := n4; clear n1 n2 n3 n4) | (go_at_call 23; (with_reducible refine (Alloc1.at_ w.heap.size A0 c0 l0 0 i0 HI0 _ hL (Kd.C_below HR.out HB.out)).mono ?_); rintro e w3 ⟨rfl, hb⟩; have n1 := (hb.cell (p := ⟨w.heap.size, 0, none⟩) (World.block_lt_of_cell? _ _ hL)).trans hL; have n2 := (hb.cell (p := ⟨w1.heap.size, 0, none⟩) (World.block_lt_of_cell? _ _ hx0)).trans hx0; have n3 := (hb.cell (p := ⟨w1.heap.size, 1, none⟩) (World.block_lt_of_cell? _ _ hx1)).trans hx1; have n4 := Aside0.mk (HB.out.trans (hb.mono HB.out.size)); clear hL hx0 hx1 HB hb; have hL := n1; have hx0 := n2; have hx1 := n3; have HB := n4; clear n1 n2 n3 n4) | (go_at_call 27; refine (Clone.calls A0 c0 l0 _ (Kd.C_below HR.out HB.out) HLN.out).mono ?_; rintro e w4 ⟨v, rfl, hR, hb⟩; have n1 := (hb.cell (p := ⟨w.heap.size, 0, none⟩) (World.block_lt_of_cell? _ _ hL)).trans hL; have n2 := (hb.cell (p := ⟨w1.heap.size, 0, none⟩) (World.block_lt_of_cell? _ _ hx0)).trans hx0; have n3 := (hb.cell (p := ⟨w1.heap.size, 1, none⟩) (World.block_lt_of_cell? _ _ hx1)).trans hx1; have n4 := Aside0.mk (HB.out.trans (hb.mono HB.out.size)); have n5 := Kd.R_lower hR HB.out.size; obtain ⟨g, cap, rfl, hg1, hg2, hg3⟩ := Kd.R_form n5 (by have := HI.out; omega); have HO := Aside0.mk n5; have HG := Aside0.mk (And.intro hg1 hg2); clear hL hx0 hx1 HB hb hR n5 hg1 hg2 hg3; have hL := n1; have hx0 := n2; have hx1 := n3; have HB := n4; clear n1 n2 n3 n4))
            go_ret3
            exact ⟨_, rfl, (HS.out a1 a2).1, HB.out.grown (HS.out a1 a2).2 (by exact HB.out.size) (fun j hj => by cases hj; exact HG.out.1)⟩
  · rw [if_neg h0] at h
    simp only [Option.some.injEq, Prod.mk.injEq] at h
    obtain ⟨rfl, rfl, rfl⟩ := h
    have n1 : (e0 == 0) = false := beq_eq_false_iff_ne.mpr h0
    have n2 : (e0 != 0) = true := bne_iff_ne.mpr h0
    clear h0
    go_enter Try.func8, Try.ntmps8
    go_wp2_with (first | (go_at_call 21; refine (table_Check.calls A0 c0 l0 e0 _ (Kd.C_alloc HR.out _) HC.out HE.out).mono ?_; rintro e w' ⟨rfl, hb⟩))
    go_ret3
    exact ⟨_, rfl, Kd.R_nil _ _ _ _ _, (below_alloc (Below.refl _ _) _).trans (hb.mono (by simp))⟩

/-! ### undercroftlaw14_num: function 10 -/
def undercroftlaw14_num.f (a0 : Int) : Option (Int) := some a0
set_option maxHeartbeats 8000000 in
set_option maxRecDepth 100000 in
theorem undercroftlaw14_num.calls (a0 : Int) (r : Int) (w : World) (h : undercroftlaw14_num.f a0 = some r) :
    Calls Try.prog 10 #[.int .i64 a0] w fun e w' => e = .returned (.int .i64 r) ∧ Drawn0 w w' := by
  have H : (some a0) = some r := h
  clear h
  obtain rfl := Option.some.inj H
  go_enter Try.func10, Try.ntmps10
  go_wp2
  go_ret
  exact ⟨by first | rfl | (simp; done) | (simp [*]; done), by repeat (first | exact Drawn0.refl _ | apply Drawn0.step)⟩

-- NOT PRINTED: function 29 (table_with)

/-! ### table_Kill: function 12 -/
set_option maxHeartbeats 1000000 in
theorem Kill1_neg (N G off : Nat) (n a b : Int) (w : World) (hn : w.cell? ⟨N, 0, none⟩ = some (.int .i64 n)) (h0 : w.cell? ⟨G, off, none⟩ = some (.int .i64 a)) (h1 : w.cell? ⟨G, off + 1, none⟩ = some (.int .i64 b)) (hneg : n < 0) :
    Calls Try.prog 30 #[.pointer (some ⟨G, off, none⟩), .pointer (some ⟨N, 0, none⟩)] w fun e w' => e = .returned (.int .i64 4) ∧ ∃ q, w' = w.drewN q := by
  have c1 : decide (n < 0) = true := decide_eq_true hneg
  clear hneg
  go_enter Try.func30, Try.ntmps30
  go_wp2
  go_quiet (fail)
  go_wp2
  go_ret
  exact ⟨rfl, _, rfl⟩
set_option maxHeartbeats 1000000 in
theorem Kill1_much (N G off : Nat) (n a b : Int) (w : World) (hn : w.cell? ⟨N, 0, none⟩ = some (.int .i64 n)) (h0 : w.cell? ⟨G, off, none⟩ = some (.int .i64 a)) (h1 : w.cell? ⟨G, off + 1, none⟩ = some (.int .i64 b)) (hneg : ¬ n < 0) (hb : n > b) :
    Calls Try.prog 30 #[.pointer (some ⟨G, off, none⟩), .pointer (some ⟨N, 0, none⟩)] w fun e w' => e = .returned (.int .i64 4) ∧ ∃ q, w' = w.drewN q := by
  have c1 : decide (n < 0) = false := decide_eq_false hneg
  have c2 : decide (b < n) = true := decide_eq_true hb
  clear hneg hb
  go_enter Try.func30, Try.ntmps30
  go_wp2
  go_quiet (fail)
  go_wp2
  go_ret
  exact ⟨rfl, _, rfl⟩
set_option maxHeartbeats 1000000 in
theorem Kill1_ok (N G off : Nat) (n a b : Int) (w : World) (hn : w.cell? ⟨N, 0, none⟩ = some (.int .i64 n)) (h0 : w.cell? ⟨G, off, none⟩ = some (.int .i64 a)) (h1 : w.cell? ⟨G, off + 1, none⟩ = some (.int .i64 b)) (hf : w.frozen? ⟨G, off + 1, none⟩ = false) (hneg : ¬ n < 0) (hb : ¬ n > b) :
    Calls Try.prog 30 #[.pointer (some ⟨G, off, none⟩), .pointer (some ⟨N, 0, none⟩)] w fun e w' => e = .returned (.int .i64 0) ∧ ∃ q, w' = (w.drewN q).setCell ⟨G, off + 1, none⟩ (.int .i64 (wrap64 (b - n))) := by
  have c1 : decide (n < 0) = false := decide_eq_false hneg
  have c2 : decide (b < n) = false := decide_eq_false hb
  clear hneg hb
  go_enter Try.func30, Try.ntmps30
  go_wp2
  go_quiet (fail)
  go_wp2
  go_region
  all_goals (go_wp2; go_ret; exact ⟨rfl, _, rfl⟩)

def table_Kill.f (l : List S39) (a1 a2 : Int) : Option (List S39 × Int) :=
  (table_Check.f l).bind fun e =>
    if e = 0 then
      (if a1 < 0 then some ([], 71) else if ¬ a1 < l.length then some ([], 71) else if (rd_T39 l a1).f0 = 0 then some ([], 71)
        else if ¬ l.length < 8796093022208 then none
        else if a2 < 0 then some ([], 4) else if a2 > (rd_T39 l a1).f1 then some ([], 4)
        else some (l.set a1.toNat ⟨(rd_T39 l a1).f0, wrap64 ((rd_T39 l a1).f1 - a2)⟩, 0))
    else some ([], e)

/-- An element's second number is written, draws ahead. -/
theorem R_set39b {W : World} {base g n cap : Nat} {ok : Nat → Prop} {xs : List S39} (h : Kd.R k39 39 W base ok (.slice (some ⟨g, 0, none⟩) n cap) xs) (i : Int) (h0 : 0 ≤ i) (h1 : i < n) :
    (W.frozen? ⟨g, i.toNat * 2, none⟩ = false ∧ W.frozen? ⟨g, i.toNat * 2 + 1, none⟩ = false ∧ W.cell? ⟨g, i.toNat * 2, none⟩ = some (.int .i64 (rd_T39 xs i).f0) ∧ W.cell? ⟨g, i.toNat * 2 + 1, none⟩ = some (.int .i64 (rd_T39 xs i).f1)) ∧
    (∀ (q : Nat) (b : Int), Kd.R k39 39 ((W.drewN q).setCell ⟨g, i.toNat * 2 + 1, none⟩ (.int .i64 b)) base ok (.slice (some ⟨g, 0, none⟩) n cap) (xs.set i.toNat ⟨(rd_T39 xs i).f0, b⟩) ∧
      W.grownBy ((W.drewN q).setCell ⟨g, i.toNat * 2 + 1, none⟩ (.int .i64 b)) (some g)) := by
  obtain ⟨c, hcl, hM, hcc, hfr⟩ := Kd.R_elem h z39 i h0 h1
  obtain rfl := k39_openM hM
  refine ⟨⟨hfr 0, hfr 1, hcc 0 _ rfl, hcc 1 _ rfl⟩, fun q b => ?_⟩
  have := Kd.R_seg (Kd.R_drewN h q) i h0 h1 (seg := [.int .i64 b]) (j := 1) hcl (by intro j u hj; rw [World.cell?_drewN]; exact hcc j u hj) (show 1 + 1 ≤ 2 from by decide) (x' := (⟨(rd_T39 xs i).f0, b⟩ : S39)) (k39_mkM _ _ _ (⟨(rd_T39 xs i).f0, b⟩ : S39)) (fun _ hk => hk)
  have g0 : W.grownBy (W.drewN q) (some g) := ⟨rfl, rfl, rfl, Nat.le_refl _, fun _ _ _ => rfl⟩
  exact ⟨this.1, g0.trans this.2⟩


set_option maxHeartbeats 4000000 in
set_option maxRecDepth 100000 in
theorem table_Kill.calls (A0 : Option Addr) (c0 : Nat) (l0 : List S39) (a1 : Int) (a2 : Int) (r1 : List S39) (r2 : Int) (w : World) (hr0 : Kd.C k39 w A0 l0.length l0) (hc0 : l0.length ≤ c0) (h : table_Kill.f l0 a1 a2 = some (r1, r2)) :
    Calls Try.prog 12 #[.slice A0 l0.length c0, .int .i64 a1, .int .i64 a2] w fun e w' => ∃ v0_ : Value, e = .returned (.tuple #[v0_, .int .i64 r2]) ∧ Kd.R k39 39 w' w.heap.size (fun _ => True) v0_ r1 ∧ Below w.heap.size w w' := by
  have hu39 := Try.underlying39
  unfold table_Kill.f at h
  obtain ⟨e0, he0, h⟩ := Option.bind_eq_some_iff.1 h
  have HE := Aside0.mk he0
  have HR := Aside0.mk hr0
  have HC := Aside0.mk hc0
  clear he0 hr0 hc0
  by_cases h0 : e0 = 0
  · subst h0
    rw [if_pos rfl] at h
    by_cases h1 : a1 < 0
    · rw [if_pos h1] at h
      simp only [Option.some.injEq, Prod.mk.injEq] at h
      obtain ⟨rfl, rfl⟩ := h
      have m1 : decide (a1 < 0) = true := decide_eq_true h1
      clear h1
      go_enter Try.func12, Try.ntmps12
      go_wp2_with (first | (go_at_call 21; refine (table_Check.calls _ c0 l0 0 _ (Kd.C_alloc HR.out _) HC.out HE.out).mono ?_; rintro e w1 ⟨rfl, hb⟩; have hN := (hb.cell (p := ⟨w.heap.size, 0, none⟩) (by simp)).trans (show (w.alloc (.cells #[.int .i64 a2] 3)).cell? ⟨w.heap.size, 0, none⟩ = some (.int .i64 a2) from by simp); have HB := Aside0.mk ((below_alloc (Below.refl w.heap.size w) _).trans (hb.mono (by simp))); clear hb) | go_in)
      go_ret2
      exact ⟨_, rfl, Kd.R_nil _ _ _ _ _, HB.out⟩
    · rw [if_neg h1] at h
      have m1 : decide (a1 < 0) = false := decide_eq_false h1
      by_cases h2 : a1 < l0.length
      · rw [if_neg (by simpa using h2)] at h
        have m2 : decide ((l0.length : Int) ≤ a1) = false := decide_eq_false (by omega)
        have p1 := eq_true (show 0 ≤ a1 by omega)
        have p2 := eq_true h2
        obtain ⟨ad, e, hx0, hx1⟩ := at_T39 HR.out a1 (by omega) h2
        cases e
        clear h1 h2
        by_cases h3 : (rd_T39 l0 a1).f0 = 0
        · rw [if_pos h3] at h
          simp only [Option.some.injEq, Prod.mk.injEq] at h
          obtain ⟨rfl, rfl⟩ := h
          have m3 : ((rd_T39 l0 a1).f0 == 0) = true := beq_iff_eq.mpr h3
          clear h3
          go_enter Try.func12, Try.ntmps12
          go_wp2_with (first | (go_at_call 21; refine (table_Check.calls _ c0 l0 0 _ (Kd.C_alloc HR.out _) HC.out HE.out).mono ?_; rintro e w1 ⟨rfl, hb⟩; have hN := (hb.cell (p := ⟨w.heap.size, 0, none⟩) (by simp)).trans (show (w.alloc (.cells #[.int .i64 a2] 3)).cell? ⟨w.heap.size, 0, none⟩ = some (.int .i64 a2) from by simp); have HB := Aside0.mk ((below_alloc (Below.refl w.heap.size w) _).trans (hb.mono (by simp))); clear hb; have y0 := (HB.out.cell (World.block_lt_of_cell? w _ hx0)).trans hx0; have y1 := (HB.out.cell (World.block_lt_of_cell? w _ hx1)).trans hx1; clear hx0 hx1) | go_in)
          go_ret2
          exact ⟨_, rfl, Kd.R_nil _ _ _ _ _, HB.out⟩
        · rw [if_neg h3] at h
          have m3 : ((rd_T39 l0 a1).f0 == 0) = false := beq_eq_false_iff_ne.mpr h3
          clear h3
          split at h
          case isTrue => cases h
          case isFalse hln =>
          have HLN := Aside0.mk (Classical.not_not.1 hln)
          clear hln
          by_cases h4 : a2 < 0
          · rw [if_pos h4] at h
            simp only [Option.some.injEq, Prod.mk.injEq] at h
            obtain ⟨rfl, rfl⟩ := h
            go_enter Try.func12, Try.ntmps12
            go_wp2_with (first | (go_at_call 21; refine (table_Check.calls _ c0 l0 0 _ (Kd.C_alloc HR.out _) HC.out HE.out).mono ?_; rintro e w1 ⟨rfl, hb⟩; have hN := (hb.cell (p := ⟨w.heap.size, 0, none⟩) (by simp)).trans (show (w.alloc (.cells #[.int .i64 a2] 3)).cell? ⟨w.heap.size, 0, none⟩ = some (.int .i64 a2) from by simp); have HB := Aside0.mk ((below_alloc (Below.refl w.heap.size w) _).trans (hb.mono (by simp))); clear hb; have y0 := (HB.out.cell (World.block_lt_of_cell? w _ hx0)).trans hx0; have y1 := (HB.out.cell (World.block_lt_of_cell? w _ hx1)).trans hx1; clear hx0 hx1) | (go_at_call 27; refine (Clone.calls _ c0 l0 _ (Kd.C_below HR.out HB.out) HLN.out).mono ?_; rintro e w4 ⟨v, rfl, hR, hb⟩; have n1 := (hb.cell (p := ⟨w.heap.size, 0, none⟩) (World.block_lt_of_cell? _ _ hN)).trans hN; have n4 := Aside0.mk (HB.out.trans (hb.mono HB.out.size)); have n5 := Kd.R_lower hR HB.out.size; obtain ⟨g, cap, rfl, hg1, hg2, hg3⟩ := Kd.R_form n5 (by have := of_eq_true p2; have := of_eq_true p1; omega); have HO := Aside0.mk n5; have HG := Aside0.mk (And.intro hg1 hg2); clear hN HB hb hR n5 hg1 hg2 hg3; have hN := n1; have HB := n4; clear n1 n4; obtain ⟨⟨f0, f1, d0, d1⟩, hset⟩ := R_set39b HO.out a1 (of_eq_true p1) (of_eq_true p2); have HS := Aside0.mk hset; clear hset) | (go_at_call 30; refine (Kill1_neg w.heap.size g (a1.toNat * 2) a2 _ _ _ hN d0 d1 h4).mono ?_; rintro e w5 ⟨rfl, q, rfl⟩) | go_in)
            go_ret2
            exact ⟨_, rfl, Kd.R_nil _ _ _ _ _, pw_below_drewN HB.out _⟩
          · rw [if_neg h4] at h
            by_cases h5 : a2 > (rd_T39 l0 a1).f1
            · rw [if_pos h5] at h
              simp only [Option.some.injEq, Prod.mk.injEq] at h
              obtain ⟨rfl, rfl⟩ := h
              have H4 := Aside0.mk h4
              have H5 := Aside0.mk h5
              clear h4 h5
              go_enter Try.func12, Try.ntmps12
              go_wp2_with (first | (go_at_call 21; refine (table_Check.calls _ c0 l0 0 _ (Kd.C_alloc HR.out _) HC.out HE.out).mono ?_; rintro e w1 ⟨rfl, hb⟩; have hN := (hb.cell (p := ⟨w.heap.size, 0, none⟩) (by simp)).trans (show (w.alloc (.cells #[.int .i64 a2] 3)).cell? ⟨w.heap.size, 0, none⟩ = some (.int .i64 a2) from by simp); have HB := Aside0.mk ((below_alloc (Below.refl w.heap.size w) _).trans (hb.mono (by simp))); clear hb; have y0 := (HB.out.cell (World.block_lt_of_cell? w _ hx0)).trans hx0; have y1 := (HB.out.cell (World.block_lt_of_cell? w _ hx1)).trans hx1; clear hx0 hx1) | (go_at_call 27; refine (Clone.calls _ c0 l0 _ (Kd.C_below HR.out HB.out) HLN.out).mono ?_; rintro e w4 ⟨v, rfl, hR, hb⟩; have n1 := (hb.cell (p := ⟨w.heap.size, 0, none⟩) (World.block_lt_of_cell? _ _ hN)).trans hN; have n4 := Aside0.mk (HB.out.trans (hb.mono HB.out.size)); have n5 := Kd.R_lower hR HB.out.size; obtain ⟨g, cap, rfl, hg1, hg2, hg3⟩ := Kd.R_form n5 (by have := of_eq_true p2; have := of_eq_true p1; omega); have HO := Aside0.mk n5; have HG := Aside0.mk (And.intro hg1 hg2); clear hN HB hb hR n5 hg1 hg2 hg3; have hN := n1; have HB := n4; clear n1 n4; obtain ⟨⟨f0, f1, d0, d1⟩, hset⟩ := R_set39b HO.out a1 (of_eq_true p1) (of_eq_true p2); have HS := Aside0.mk hset; clear hset) | (go_at_call 30; refine (Kill1_much w.heap.size g (a1.toNat * 2) a2 _ _ _ hN d0 d1 (by have := H4.out; omega) (by have := H5.out; omega)).mono ?_; rintro e w5 ⟨rfl, q, rfl⟩) | go_in)
              go_ret2
              exact ⟨_, rfl, Kd.R_nil _ _ _ _ _, pw_below_drewN HB.out _⟩
            · rw [if_neg h5] at h
              simp only [Option.some.injEq, Prod.mk.injEq] at h
              obtain ⟨rfl, rfl⟩ := h
              have H4 := Aside0.mk h4
              have H5 := Aside0.mk h5
              clear h4 h5
              go_enter Try.func12, Try.ntmps12
              go_wp2_with (first | (go_at_call 21; refine (table_Check.calls _ c0 l0 0 _ (Kd.C_alloc HR.out _) HC.out HE.out).mono ?_; rintro e w1 ⟨rfl, hb⟩; have hN := (hb.cell (p := ⟨w.heap.size, 0, none⟩) (by simp)).trans (show (w.alloc (.cells #[.int .i64 a2] 3)).cell? ⟨w.heap.size, 0, none⟩ = some (.int .i64 a2) from by simp); have HB := Aside0.mk ((below_alloc (Below.refl w.heap.size w) _).trans (hb.mono (by simp))); clear hb; have y0 := (HB.out.cell (World.block_lt_of_cell? w _ hx0)).trans hx0; have y1 := (HB.out.cell (World.block_lt_of_cell? w _ hx1)).trans hx1; clear hx0 hx1) | (go_at_call 27; refine (Clone.calls _ c0 l0 _ (Kd.C_below HR.out HB.out) HLN.out).mono ?_; rintro e w4 ⟨v, rfl, hR, hb⟩; have n1 := (hb.cell (p := ⟨w.heap.size, 0, none⟩) (World.block_lt_of_cell? _ _ hN)).trans hN; have n4 := Aside0.mk (HB.out.trans (hb.mono HB.out.size)); have n5 := Kd.R_lower hR HB.out.size; obtain ⟨g, cap, rfl, hg1, hg2, hg3⟩ := Kd.R_form n5 (by have := of_eq_true p2; have := of_eq_true p1; omega); have HO := Aside0.mk n5; have HG := Aside0.mk (And.intro hg1 hg2); clear hN HB hb hR n5 hg1 hg2 hg3; have hN := n1; have HB := n4; clear n1 n4; obtain ⟨⟨f0, f1, d0, d1⟩, hset⟩ := R_set39b HO.out a1 (of_eq_true p1) (of_eq_true p2); have HS := Aside0.mk hset; clear hset) | (go_at_call 30; refine (Kill1_ok w.heap.size g (a1.toNat * 2) a2 _ _ _ hN d0 d1 f1 (by have := H4.out; omega) (by have := H5.out; omega)).mono ?_; rintro e w5 ⟨rfl, q, rfl⟩) | go_in)
              go_ret2
              exact ⟨_, rfl, (HS.out q _).1, HB.out.grown (HS.out q _).2 (by exact HB.out.size) (fun j hj => by cases hj; exact HG.out.1)⟩
      · rw [if_pos (by simpa using h2)] at h
        simp only [Option.some.injEq, Prod.mk.injEq] at h
        obtain ⟨rfl, rfl⟩ := h
        have m2 : decide ((l0.length : Int) ≤ a1) = true := decide_eq_true (by omega)
        clear h1 h2
        go_enter Try.func12, Try.ntmps12
        go_wp2_with (first | (go_at_call 21; refine (table_Check.calls _ c0 l0 0 _ (Kd.C_alloc HR.out _) HC.out HE.out).mono ?_; rintro e w1 ⟨rfl, hb⟩; have hN := (hb.cell (p := ⟨w.heap.size, 0, none⟩) (by simp)).trans (show (w.alloc (.cells #[.int .i64 a2] 3)).cell? ⟨w.heap.size, 0, none⟩ = some (.int .i64 a2) from by simp); have HB := Aside0.mk ((below_alloc (Below.refl w.heap.size w) _).trans (hb.mono (by simp))); clear hb) | go_in)
        go_ret2
        exact ⟨_, rfl, Kd.R_nil _ _ _ _ _, HB.out⟩
  · rw [if_neg h0] at h
    simp only [Option.some.injEq, Prod.mk.injEq] at h
    obtain ⟨rfl, rfl⟩ := h
    have n1 : (e0 == 0) = false := beq_eq_false_iff_ne.mpr h0
    have n2 : (e0 != 0) = true := bne_iff_ne.mpr h0
    clear h0
    go_enter Try.func12, Try.ntmps12
    go_wp2_with (first | (go_at_call 21; refine (table_Check.calls A0 c0 l0 e0 _ (Kd.C_alloc HR.out _) HC.out HE.out).mono ?_; rintro e w' ⟨rfl, hb⟩) | go_in)
    go_ret2
    exact ⟨_, rfl, Kd.R_nil _ _ _ _ _, (below_alloc (Below.refl _ _) _).trans (hb.mono (by simp))⟩

/-! ### table_Free: function 15 -/

set_option maxHeartbeats 1000000 in
theorem Free1_live (G off : Nat) (a b : Int) (w : World) (h0 : w.cell? ⟨G, off, none⟩ = some (.int .i64 a)) (h1 : w.cell? ⟨G, off + 1, none⟩ = some (.int .i64 b)) (hb : b > 0) :
    Calls Try.prog 32 #[.pointer (some ⟨G, off, none⟩)] w fun e w' => e = .returned (.int .i64 91) ∧ w' = w := by
  have c2 : decide (0 < b) = true := decide_eq_true hb
  clear hb
  go_enter Try.func32, Try.ntmps32
  go_wp2
  go_ret
  exact ⟨rfl, rfl⟩
set_option maxHeartbeats 1000000 in
theorem Free1_ok (G off : Nat) (a b : Int) (w : World) (h0 : w.cell? ⟨G, off, none⟩ = some (.int .i64 a)) (h1 : w.cell? ⟨G, off + 1, none⟩ = some (.int .i64 b)) (f0 : w.frozen? ⟨G, off, none⟩ = false) (f1 : w.frozen? ⟨G, off + 1, none⟩ = false) (hb : ¬ b > 0) :
    Calls Try.prog 32 #[.pointer (some ⟨G, off, none⟩)] w fun e w' => e = .returned (.int .i64 0) ∧ w' = (w.setCell ⟨G, off, none⟩ (.int .i64 0)).setCell ⟨G, off + 1, none⟩ (.int .i64 0) := by
  have hu39 := Try.underlying39
  have c2 : decide (0 < b) = false := decide_eq_false hb
  clear hb
  go_enter Try.func32, Try.ntmps32
  go_wp2
  go_ret
  exact ⟨rfl, rfl⟩

def table_Free.f (l : List S39) (a1 : Int) : Option (List S39 × Int) :=
  (table_Check.f l).bind fun e =>
    if e = 0 then
      (if a1 < 0 then some ([], 71) else if ¬ a1 < l.length then some ([], 71) else if (rd_T39 l a1).f0 = 0 then some ([], 71)
        else if ¬ l.length < 8796093022208 then none
        else if (rd_T39 l a1).f1 > 0 then some ([], 91)
        else some (l.set a1.toNat ⟨0, 0⟩, 0))
    else some ([], e)

set_option maxHeartbeats 4000000 in
set_option maxRecDepth 100000 in
theorem table_Free.calls (A0 : Option Addr) (c0 : Nat) (l0 : List S39) (a1 : Int) (r1 : List S39) (r2 : Int) (w : World) (hr0 : Kd.C k39 w A0 l0.length l0) (hc0 : l0.length ≤ c0) (h : table_Free.f l0 a1 = some (r1, r2)) :
    Calls Try.prog 15 #[.slice A0 l0.length c0, .int .i64 a1] w fun e w' => ∃ v0_ : Value, e = .returned (.tuple #[v0_, .int .i64 r2]) ∧ Kd.R k39 39 w' w.heap.size (fun _ => True) v0_ r1 ∧ Below w.heap.size w w' := by
  have hu39 := Try.underlying39
  unfold table_Free.f at h
  obtain ⟨e0, he0, h⟩ := Option.bind_eq_some_iff.1 h
  have HE := Aside0.mk he0
  have HR := Aside0.mk hr0
  have HC := Aside0.mk hc0
  clear he0 hr0 hc0
  by_cases h0 : e0 = 0
  · subst h0
    rw [if_pos rfl] at h
    by_cases h1 : a1 < 0
    · rw [if_pos h1] at h
      simp only [Option.some.injEq, Prod.mk.injEq] at h
      obtain ⟨rfl, rfl⟩ := h
      have m1 : decide (a1 < 0) = true := decide_eq_true h1
      clear h1
      go_enter Try.func15, Try.ntmps15
      go_wp2_with (first | (go_at_call 21; refine (table_Check.calls _ c0 l0 0 _ HR.out HC.out HE.out).mono ?_; rintro e w1 ⟨rfl, hb⟩; have HB := Aside0.mk hb; clear hb) | go_in)
      go_ret2
      exact ⟨_, rfl, Kd.R_nil _ _ _ _ _, HB.out⟩
    · rw [if_neg h1] at h
      have m1 : decide (a1 < 0) = false := decide_eq_false h1
      by_cases h2 : a1 < l0.length
      · rw [if_neg (by simpa using h2)] at h
        have m2 : decide ((l0.length : Int) ≤ a1) = false := decide_eq_false (by omega)
        have p1 := eq_true (show 0 ≤ a1 by omega)
        have p2 := eq_true h2
        obtain ⟨ad, e, hx0, hx1⟩ := at_T39 HR.out a1 (by omega) h2
        cases e
        clear h1 h2
        by_cases h3 : (rd_T39 l0 a1).f0 = 0
        · rw [if_pos h3] at h
          simp only [Option.some.injEq, Prod.mk.injEq] at h
          obtain ⟨rfl, rfl⟩ := h
          have m3 : ((rd_T39 l0 a1).f0 == 0) = true := beq_iff_eq.mpr h3
          clear h3
          go_enter Try.func15, Try.ntmps15
          go_wp2_with (first | (go_at_call 21; refine (table_Check.calls _ c0 l0 0 _ HR.out HC.out HE.out).mono ?_; rintro e w1 ⟨rfl, hb⟩; have HB := Aside0.mk hb; clear hb; have y0 := (HB.out.cell (World.block_lt_of_cell? w _ hx0)).trans hx0; have y1 := (HB.out.cell (World.block_lt_of_cell? w _ hx1)).trans hx1; clear hx0 hx1) | go_in)
          go_ret2
          exact ⟨_, rfl, Kd.R_nil _ _ _ _ _, HB.out⟩
        · rw [if_neg h3] at h
          have m3 : ((rd_T39 l0 a1).f0 == 0) = false := beq_eq_false_iff_ne.mpr h3
          clear h3
          split at h
          case isTrue => cases h
          case isFalse hln =>
          have HLN := Aside0.mk (Classical.not_not.1 hln)
          clear hln
          by_cases h4 : (rd_T39 l0 a1).f1 > 0
          · rw [if_pos h4] at h
            simp only [Option.some.injEq, Prod.mk.injEq] at h
            obtain ⟨rfl, rfl⟩ := h
            have H4 := Aside0.mk h4
            clear h4
            go_enter Try.func15, Try.ntmps15
            go_wp2_with (first | (go_at_call 21; refine (table_Check.calls _ c0 l0 0 _ HR.out HC.out HE.out).mono ?_; rintro e w1 ⟨rfl, hb⟩; have HB := Aside0.mk hb; clear hb; have y0 := (HB.out.cell (World.block_lt_of_cell? w _ hx0)).trans hx0; have y1 := (HB.out.cell (World.block_lt_of_cell? w _ hx1)).trans hx1; clear hx0 hx1) | (go_at_call 27; refine (Clone.calls _ c0 l0 _ (Kd.C_below HR.out HB.out) HLN.out).mono ?_; rintro e w4 ⟨v, rfl, hR, hb⟩; have n4 := Aside0.mk (HB.out.trans (hb.mono HB.out.size)); have n5 := Kd.R_lower hR HB.out.size; obtain ⟨g, cap, rfl, hg1, hg2, hg3⟩ := Kd.R_form n5 (by have := of_eq_true p2; have := of_eq_true p1; omega); have HO := Aside0.mk n5; have HG := Aside0.mk (And.intro hg1 hg2); clear HB hb hR n5 hg1 hg2 hg3; have HB := n4; clear n4; obtain ⟨⟨f0, f1, d0, d1⟩, hset⟩ := R_set39 HO.out a1 (of_eq_true p1) (of_eq_true p2) 0 0; have HS := Aside0.mk hset; clear hset) | (go_at_call 32; refine (Free1_live g (a1.toNat * 2) _ _ _ d0 d1 (by have := H4.out; omega)).mono ?_; rintro e w5 ⟨rfl, rfl⟩) | go_in)
            go_ret2
            exact ⟨_, rfl, Kd.R_nil _ _ _ _ _, HB.out⟩
          · rw [if_neg h4] at h
            simp only [Option.some.injEq, Prod.mk.injEq] at h
            obtain ⟨rfl, rfl⟩ := h
            have H4 := Aside0.mk h4
            clear h4
            go_enter Try.func15, Try.ntmps15
            go_wp2_with (first | (go_at_call 21; refine (table_Check.calls _ c0 l0 0 _ HR.out HC.out HE.out).mono ?_; rintro e w1 ⟨rfl, hb⟩; have HB := Aside0.mk hb; clear hb; have y0 := (HB.out.cell (World.block_lt_of_cell? w _ hx0)).trans hx0; have y1 := (HB.out.cell (World.block_lt_of_cell? w _ hx1)).trans hx1; clear hx0 hx1) | (go_at_call 27; refine (Clone.calls _ c0 l0 _ (Kd.C_below HR.out HB.out) HLN.out).mono ?_; rintro e w4 ⟨v, rfl, hR, hb⟩; have n4 := Aside0.mk (HB.out.trans (hb.mono HB.out.size)); have n5 := Kd.R_lower hR HB.out.size; obtain ⟨g, cap, rfl, hg1, hg2, hg3⟩ := Kd.R_form n5 (by have := of_eq_true p2; have := of_eq_true p1; omega); have HO := Aside0.mk n5; have HG := Aside0.mk (And.intro hg1 hg2); clear HB hb hR n5 hg1 hg2 hg3; have HB := n4; clear n4; obtain ⟨⟨f0, f1, d0, d1⟩, hset⟩ := R_set39 HO.out a1 (of_eq_true p1) (of_eq_true p2) 0 0; have HS := Aside0.mk hset; clear hset) | (go_at_call 32; refine (Free1_ok g (a1.toNat * 2) _ _ _ d0 d1 f0 f1 (by have := H4.out; omega)).mono ?_; rintro e w5 ⟨rfl, rfl⟩) | go_in)
            go_ret2
            exact ⟨_, rfl, (HS.out 0 0).1, HB.out.grown (HS.out 0 0).2 (by exact HB.out.size) (fun j hj => by cases hj; exact HG.out.1)⟩
      · rw [if_pos (by simpa using h2)] at h
        simp only [Option.some.injEq, Prod.mk.injEq] at h
        obtain ⟨rfl, rfl⟩ := h
        have m2 : decide ((l0.length : Int) ≤ a1) = true := decide_eq_true (by omega)
        clear h1 h2
        go_enter Try.func15, Try.ntmps15
        go_wp2_with (first | (go_at_call 21; refine (table_Check.calls _ c0 l0 0 _ HR.out HC.out HE.out).mono ?_; rintro e w1 ⟨rfl, hb⟩; have HB := Aside0.mk hb; clear hb) | go_in)
        go_ret2
        exact ⟨_, rfl, Kd.R_nil _ _ _ _ _, HB.out⟩
  · rw [if_neg h0] at h
    simp only [Option.some.injEq, Prod.mk.injEq] at h
    obtain ⟨rfl, rfl⟩ := h
    have n1 : (e0 == 0) = false := beq_eq_false_iff_ne.mpr h0
    have n2 : (e0 != 0) = true := bne_iff_ne.mpr h0
    clear h0
    go_enter Try.func15, Try.ntmps15
    go_wp2_with (first | (go_at_call 21; refine (table_Check.calls A0 c0 l0 e0 _ HR.out HC.out HE.out).mono ?_; rintro e w' ⟨rfl, hb⟩) | go_in)
    go_ret2
    exact ⟨_, rfl, Kd.R_nil _ _ _ _ _, hb⟩

/-! ### table_New: function 19 -/
def table_New.f (a0 : Int) : Option ((List (S39)) × Int) := if a0 < 1 then (some (([] : List (S39)), 4)) else (if a0 > 64 then (some (([] : List (S39)), 4)) else (if 0 ≤ a0 then (if (a0 : Int).toNat ≤ 17592186044416 then (some ((List.replicate (a0 : Int).toNat z39), 0)) else (none)) else (none)))
set_option maxHeartbeats 8000000 in
set_option maxRecDepth 100000 in
theorem table_New.calls (a0 : Int) (r1 : List (S39)) (r2 : Int) (w : World) (h : table_New.f a0 = some (r1, r2)) :
    Calls Try.prog 19 #[.int .i64 a0] w fun e w' => ∃ v0_ : Value, e = .returned (.tuple #[v0_, .int .i64 r2]) ∧ Kd.R k39 39 w' w.heap.size (fun _ => True) v0_ r1 ∧ Below w.heap.size w w' := by
  have HB := Aside0.mk (Below.refl w.heap.size w)
  have H : (if a0 < 1 then (some (([] : List (S39)), 4)) else (if a0 > 64 then (some (([] : List (S39)), 4)) else (if 0 ≤ a0 then (if (a0 : Int).toNat ≤ 17592186044416 then (some ((List.replicate (a0 : Int).toNat z39), 0)) else (none)) else (none)))) = some (r1, r2) := h
  clear h
  by_cases c2 : a0 < 1
  · rw [if_pos c2] at H
    have c2b0 : decide (a0 < 1) = true := decide_eq_true c2
    clear c2
    simp only [Option.some.injEq, Prod.mk.injEq] at H
    obtain ⟨rfl, rfl⟩ := H
    go_enter Try.func19, Try.ntmps19
    go_wp2
    go_ret2
    exact ⟨_, by first | rfl | (simp [errW_none, errW_some] <;> rfl) | (simp [*, errW_none, errW_some] <;> rfl), by first | exact Kd.R_nil _ _ _ _ _ | exact Kd.N_nil _ _ _ _ _ | exact Kd.V_nil _ _ _ _ _ | exact Kd.Q_nil _ _ _ _ _ | exact Kd.S_nil _ _ _ _ _, by repeat (first | (with_reducible first | exact HB.out | apply below_alloc | apply pw_below_drewN | apply below_drew1) | exact HB.out)⟩
  · rw [if_neg c2] at H
    have c2b0 : decide (a0 < 1) = false := decide_eq_false c2
    clear c2
    by_cases c3 : a0 > 64
    · rw [if_pos c3] at H
      have c3b0 : decide (64 < a0) = true := decide_eq_true c3
      clear c3
      simp only [Option.some.injEq, Prod.mk.injEq] at H
      obtain ⟨rfl, rfl⟩ := H
      go_enter Try.func19, Try.ntmps19
      go_wp2
      go_ret2
      exact ⟨_, by first | rfl | (simp [errW_none, errW_some] <;> rfl) | (simp [*, errW_none, errW_some] <;> rfl), by first | exact Kd.R_nil _ _ _ _ _ | exact Kd.N_nil _ _ _ _ _ | exact Kd.V_nil _ _ _ _ _ | exact Kd.Q_nil _ _ _ _ _ | exact Kd.S_nil _ _ _ _ _, by repeat (first | (with_reducible first | exact HB.out | apply below_alloc | apply pw_below_drewN | apply below_drew1) | exact HB.out)⟩
    · rw [if_neg c3] at H
      have c3b0 : decide (64 < a0) = false := decide_eq_false c3
      clear c3
      by_cases c4 : 0 ≤ a0
      · rw [if_pos c4] at H
        have c4b0 := eq_true c4
        have c4b1 : decide (0 ≤ a0) = true := decide_eq_true c4
        clear c4
        by_cases c5 : (a0 : Int).toNat ≤ 17592186044416
        · rw [if_pos c5] at H
          have c5b0 := eq_true c5
          have c5b1 : decide ((a0 : Int).toNat ≤ 17592186044416) = true := decide_eq_true c5
          clear c5
          obtain ⟨y102, hy102⟩ : ∃ y_ : List (S39), y_ = (List.replicate (a0 : Int).toNat z39) := ⟨_, rfl⟩
          replace H : (some (y102, 0)) = some (r1, r2) := by first | (rw [hy102]; with_reducible exact H) | (have H2_ := (Option.bind_some _ _).symm.trans H; rw [hy102]; with_reducible exact H2_) | (have H2_ := (Option.bind_some _ _).symm.trans H; with_reducible exact H2_) | with_reducible exact H | (rw [hy102]; exact H) | exact H
          have Ny102 := Aside0.mk hy102
          clear hy102
          simp only [Option.some.injEq, Prod.mk.injEq] at H
          obtain ⟨rfl, rfl⟩ := H
          go_enter Try.func19, Try.ntmps19
          go_wp2_with (first | ((with_reducible refine gate_dst (N := 11) rfl ?_); refine Kd.R_make k39 _ 39 rfl (N := 11) rfl 24 _ _ rfl a0 rfl rfl Try.underlying24 (.agg #[(.int .i64 0), (.int .i64 0)]) 16 info39 rfl (by decide) (by omega) z39 (ok := fun _ => True) (okp := fun _ => True) (k39_mkM _ _ _ z39 ) (fun _ hk => hk) trivial (of_decide_eq_true (by first | (with_reducible assumption) | assumption)) (Nat.le_trans (Nat.mul_le_mul_right _ (of_decide_eq_true (by first | (with_reducible assumption) | assumption) : a0.toNat ≤ 17592186044416)) (by omega)) (Below.refl _ _) (Nat.le_refl _) ?_; intro v103 w6 ho7 hb hg_ hnew_; clear hg_ hnew_; (first | rw [← Ny102.out] at ho7 | (simp only [Int.reduceToNat] at ho7; rw [← Ny102.out] at ho7)); have n0_ := Aside0.mk (Kd.R_lower ho7 (below_size (by repeat (first | (with_reducible first | exact HB.out | apply below_alloc | apply pw_below_drewN | apply below_drew1) | exact HB.out)))); have n1_ := Aside0.mk (below_step (by repeat (first | (with_reducible first | exact HB.out | apply below_alloc | apply pw_below_drewN | apply below_drew1) | exact HB.out)) hb); clear HB; have HO104 := n0_; have HB := n1_; clear n0_ n1_; clear hb ho7))
          go_ret2
          exact ⟨_, by first | rfl | (simp [errW_none, errW_some] <;> rfl) | (simp [*, errW_none, errW_some] <;> rfl), by (with_reducible repeat (first | apply Kd.R_alloc | apply Kd.R_drewN | apply Kd.R_drew)); exact HO104.out, by repeat (first | (with_reducible first | exact HB.out | apply below_alloc | apply pw_below_drewN | apply below_drew1) | exact HB.out)⟩
        · rw [if_neg c5] at H
          exact absurd H (by simp)
      · rw [if_neg c4] at H
        exact absurd H (by simp)

end Go.Proofs.Yteahohglkeimmaa.T
