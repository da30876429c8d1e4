/- This text tells functions of the seat as plain functions, with their contracts, as the machine's calls meet them. -/
import Derived.Test.YtbohhjhehjkliaaTx0
import Derived.Test.YtbohhjhehjkliaaTx1
import Derived.Test.YtbohhjhehjkliaaTx2
namespace Go.Proofs.Ytbohhjhehjkliaa.T
open Go.RowKit Go.Proofs.YtbohhjhehjkliaaW.PrintWords Go.Proofs.YtbohhjhehjkliaaW.PrintLast Go.Proofs.YtbohhjhehjkliaaW.PrintMore
attribute [local go_sem] max2_int min2_int max_two min_two max_three min_three max_four min_four   -- for this text's walks alone
set_option linter.unusedVariables false
set_option linter.unusedSimpArgs false

/-! ### disk_State_room: function 32 -/
def disk_State_room.f (l0_0 : List (List Int)) (l0_1 : List (S62)) (a1 : Int) (a2 : Int) : Option (Bool) := if a1 ≥ 0 then (if a2 ≥ 0 then (if a1 ≤ (l0_0.length : Int) then (some (decide (a2 ≤ (wrap64 ((l0_0.length : Int) - a1))))) else (some false)) else (some false)) else (some false)
set_option maxHeartbeats 8000000 in
set_option maxRecDepth 100000 in
theorem disk_State_room.calls (A0_0 : Option Addr) (c0_0 : Nat) (l0_0 : List (List Int)) (A0_1 : Option Addr) (c0_1 : Nat) (l0_1 : List (S62)) (a1 : Int) (a2 : Int) (r : Bool) (w : World) (hr0_0 : Kd.C (Kd.slice 5 (Kd.int .u8)) w A0_0 l0_0.length l0_0) (hc0_0 : l0_0.length ≤ c0_0) (hr0_1 : Kd.C k62 w A0_1 l0_1.length l0_1) (hc0_1 : l0_1.length ≤ c0_1) (h : disk_State_room.f l0_0 l0_1 a1 a2 = some r) :
    Calls Try.prog 32 #[.agg #[.slice A0_0 l0_0.length c0_0, .slice A0_1 l0_1.length c0_1], .int .i64 a1, .int .i64 a2] w fun e w' => e = .returned (.bool r) ∧ Below w.heap.size w w' := by
  have hu30 := Try.underlying30
  have HR0_0 := Aside0.mk hr0_0
  have HC0_0 := Aside0.mk hc0_0
  clear hr0_0 hc0_0
  have HR0_1 := Aside0.mk hr0_1
  have HC0_1 := Aside0.mk hc0_1
  clear hr0_1 hc0_1
  have HB := Aside0.mk (Below.refl w.heap.size w)
  have H : (if a1 ≥ 0 then (if a2 ≥ 0 then (if a1 ≤ (l0_0.length : Int) then (some (decide (a2 ≤ (wrap64 ((l0_0.length : Int) - a1))))) else (some false)) else (some false)) else (some false)) = some r := h
  clear h
  by_cases c4 : a1 ≥ 0
  · rw [if_pos c4] at H
    have c4b0 : decide (0 ≤ a1) = true := decide_eq_true c4
    clear c4
    by_cases c5 : a2 ≥ 0
    · rw [if_pos c5] at H
      have c5b0 : decide (0 ≤ a2) = true := decide_eq_true c5
      clear c5
      by_cases c6 : a1 ≤ (l0_0.length : Int)
      · rw [if_pos c6] at H
        have c6b0 : decide (a1 ≤ (l0_0.length : Int)) = true := decide_eq_true c6
        clear c6
        obtain rfl := Option.some.inj H
        go_enter Try.func32, Try.ntmps32
        go_wp2_with (first | ((with_reducible refine gate_dst (N := 3) rfl ?_); (try (refine gate_guard (by rfl) ?_; dsimp only)); refine box_event ?hg (N := 3) ?hd (cs := #[.slice A0_0 l0_0.length c0_0, .slice A0_1 l0_1.length c0_1]) (t := 30) ?hr ?_; (case hd => rfl); (case hg => rfl); (case hr => first | (go_simp; done) | (go_simp; rfl)); intro gb101 hg w7 hbox hb; have n0_ := Aside0.mk (below_step (by repeat (first | (with_reducible first | exact HB.out | apply below_alloc | apply pw_below_drewN | apply below_drew1) | exact HB.out)) hb); have n1_ := Aside0.mk (hbox); have n2_ := Aside0.mk ((by rw [hg]; exact (below_size (by repeat (first | (with_reducible first | exact HB.out | apply below_alloc | apply pw_below_drewN | apply below_drew1) | exact HB.out))) : w.heap.size ≤ gb101)); have n3_ := Aside0.mk ((by rw [hg]; exact (below_size (by repeat (first | (with_reducible first | exact HB.out | apply below_alloc | apply pw_below_drewN | apply below_drew1) | exact HB.out))) : w.heap.size ≤ gb101)); clear HB; have HB := n0_; have BK101 := n1_; have GW101 := n2_; have GE101 := n3_; clear n0_ n1_ n2_ n3_; clear hb hbox hg; have hcz8_0 : w7.cell? ⟨gb101, 0, none⟩ = some (.slice A0_0 l0_0.length c0_0) := (blk_cell BK101.out 0).trans rfl; have hcz8_1 : w7.cell? ⟨gb101, 1, none⟩ = some (.slice A0_1 l0_1.length c0_1) := (blk_cell BK101.out 1).trans rfl; have hfz8_0 := blk_frozen BK101.out 0; have hfz8_1 := blk_frozen BK101.out 1))
        go_ret
        exact ⟨by first | rfl | (simp [errW_none, errW_some] <;> rfl) | (simp [*, errW_none, errW_some] <;> rfl), by repeat (first | (with_reducible first | exact HB.out | apply below_alloc | apply pw_below_drewN | apply below_drew1 | refine below_set ?_ GE101.out) | exact HB.out)⟩
      · rw [if_neg c6] at H
        have c6b0 : decide (a1 ≤ (l0_0.length : Int)) = false := decide_eq_false c6
        clear c6
        obtain rfl := Option.some.inj H
        go_enter Try.func32, Try.ntmps32
        go_wp2_with (first | ((with_reducible refine gate_dst (N := 3) rfl ?_); (try (refine gate_guard (by rfl) ?_; dsimp only)); refine box_event ?hg (N := 3) ?hd (cs := #[.slice A0_0 l0_0.length c0_0, .slice A0_1 l0_1.length c0_1]) (t := 30) ?hr ?_; (case hd => rfl); (case hg => rfl); (case hr => first | (go_simp; done) | (go_simp; rfl)); intro gb101 hg w9 hbox hb; have n0_ := Aside0.mk (below_step (by repeat (first | (with_reducible first | exact HB.out | apply below_alloc | apply pw_below_drewN | apply below_drew1) | exact HB.out)) hb); have n1_ := Aside0.mk (hbox); have n2_ := Aside0.mk ((by rw [hg]; exact (below_size (by repeat (first | (with_reducible first | exact HB.out | apply below_alloc | apply pw_below_drewN | apply below_drew1) | exact HB.out))) : w.heap.size ≤ gb101)); have n3_ := Aside0.mk ((by rw [hg]; exact (below_size (by repeat (first | (with_reducible first | exact HB.out | apply below_alloc | apply pw_below_drewN | apply below_drew1) | exact HB.out))) : w.heap.size ≤ gb101)); clear HB; have HB := n0_; have BK101 := n1_; have GW101 := n2_; have GE101 := n3_; clear n0_ n1_ n2_ n3_; clear hb hbox hg; have hcz10_0 : w9.cell? ⟨gb101, 0, none⟩ = some (.slice A0_0 l0_0.length c0_0) := (blk_cell BK101.out 0).trans rfl; have hcz10_1 : w9.cell? ⟨gb101, 1, none⟩ = some (.slice A0_1 l0_1.length c0_1) := (blk_cell BK101.out 1).trans rfl; have hfz10_0 := blk_frozen BK101.out 0; have hfz10_1 := blk_frozen BK101.out 1))
        go_ret
        exact ⟨by first | rfl | (simp [errW_none, errW_some] <;> rfl) | (simp [*, errW_none, errW_some] <;> rfl), by repeat (first | (with_reducible first | exact HB.out | apply below_alloc | apply pw_below_drewN | apply below_drew1 | refine below_set ?_ GE101.out) | exact HB.out)⟩
    · rw [if_neg c5] at H
      have c5b0 : decide (0 ≤ a2) = false := decide_eq_false c5
      clear c5
      obtain rfl := Option.some.inj H
      go_enter Try.func32, Try.ntmps32
      go_wp2_with (first | ((with_reducible refine gate_dst (N := 3) rfl ?_); (try (refine gate_guard (by rfl) ?_; dsimp only)); refine box_event ?hg (N := 3) ?hd (cs := #[.slice A0_0 l0_0.length c0_0, .slice A0_1 l0_1.length c0_1]) (t := 30) ?hr ?_; (case hd => rfl); (case hg => rfl); (case hr => first | (go_simp; done) | (go_simp; rfl)); intro gb101 hg w11 hbox hb; have n0_ := Aside0.mk (below_step (by repeat (first | (with_reducible first | exact HB.out | apply below_alloc | apply pw_below_drewN | apply below_drew1) | exact HB.out)) hb); have n1_ := Aside0.mk (hbox); have n2_ := Aside0.mk ((by rw [hg]; exact (below_size (by repeat (first | (with_reducible first | exact HB.out | apply below_alloc | apply pw_below_drewN | apply below_drew1) | exact HB.out))) : w.heap.size ≤ gb101)); have n3_ := Aside0.mk ((by rw [hg]; exact (below_size (by repeat (first | (with_reducible first | exact HB.out | apply below_alloc | apply pw_below_drewN | apply below_drew1) | exact HB.out))) : w.heap.size ≤ gb101)); clear HB; have HB := n0_; have BK101 := n1_; have GW101 := n2_; have GE101 := n3_; clear n0_ n1_ n2_ n3_; clear hb hbox hg))
      go_ret
      exact ⟨by first | rfl | (simp [errW_none, errW_some] <;> rfl) | (simp [*, errW_none, errW_some] <;> rfl), by repeat (first | (with_reducible first | exact HB.out | apply below_alloc | apply pw_below_drewN | apply below_drew1 | refine below_set ?_ GE101.out) | exact HB.out)⟩
  · rw [if_neg c4] at H
    have c4b0 : decide (0 ≤ a1) = false := decide_eq_false c4
    clear c4
    obtain rfl := Option.some.inj H
    go_enter Try.func32, Try.ntmps32
    go_wp2_with (first | ((with_reducible refine gate_dst (N := 3) rfl ?_); (try (refine gate_guard (by rfl) ?_; dsimp only)); refine box_event ?hg (N := 3) ?hd (cs := #[.slice A0_0 l0_0.length c0_0, .slice A0_1 l0_1.length c0_1]) (t := 30) ?hr ?_; (case hd => rfl); (case hg => rfl); (case hr => first | (go_simp; done) | (go_simp; rfl)); intro gb101 hg w12 hbox hb; have n0_ := Aside0.mk (below_step (by repeat (first | (with_reducible first | exact HB.out | apply below_alloc | apply pw_below_drewN | apply below_drew1) | exact HB.out)) hb); have n1_ := Aside0.mk (hbox); have n2_ := Aside0.mk ((by rw [hg]; exact (below_size (by repeat (first | (with_reducible first | exact HB.out | apply below_alloc | apply pw_below_drewN | apply below_drew1) | exact HB.out))) : w.heap.size ≤ gb101)); have n3_ := Aside0.mk ((by rw [hg]; exact (below_size (by repeat (first | (with_reducible first | exact HB.out | apply below_alloc | apply pw_below_drewN | apply below_drew1) | exact HB.out))) : w.heap.size ≤ gb101)); clear HB; have HB := n0_; have BK101 := n1_; have GW101 := n2_; have GE101 := n3_; clear n0_ n1_ n2_ n3_; clear hb hbox hg))
    go_ret
    exact ⟨by first | rfl | (simp [errW_none, errW_some] <;> rfl) | (simp [*, errW_none, errW_some] <;> rfl), by repeat (first | (with_reducible first | exact HB.out | apply below_alloc | apply pw_below_drewN | apply below_drew1 | refine below_set ?_ GE101.out) | exact HB.out)⟩

-- NOT PRINTED: function 49 (disk_Write_49)

/-! ### disk_State_last: function 44 -/
section
attribute [local go_sem] Oper.semAt_some
/-- What has come when k rounds backward are over. -/
def downto (n k : Nat) : List Nat := (List.range k).map fun j => n - 1 - j
theorem downto_succ (n k : Nat) : downto n (k + 1) = downto n k ++ [n - 1 - k] := by simp [downto, List.range_succ]
theorem downto_length (n k : Nat) : (downto n k).length = k := by simp [downto]
abbrev encW (l1 : List S62) (sA : Nat → Option Addr) (sC : Nat → Nat) (k : Nat) : Array Value := #[.int .i64 k, .agg #[.int .i64 (rd_T62 l1 (k : Int)).f0, .slice (sA k) (rd_T62 l1 (k : Int)).f1.length (sC k)]]
def CellsW (W : World) (A1 : Option Addr) (l1 : List S62) (sA : Nat → Option Addr) (sC : Nat → Nat) : Prop := ∀ k, k < l1.length → ∃ ad, A1 = some ad ∧ W.cell? (ad.add (k * 2)) = some (.int .i64 (rd_T62 l1 (k : Int)).f0) ∧ W.cell? ⟨(ad.add (k * 2)).block, (ad.add (k * 2)).off + 1, none⟩ = some (.slice (sA k) (rd_T62 l1 (k : Int)).f1.length (sC k))
set_option maxRecDepth 100000 in
set_option maxHeartbeats 2000000 in
/-- slices.Backward's closure. -/
theorem BackK.in (F : Fence) (n : Nat) (h54 : F.fn 54) (hro : F.round = none) (hn : 1 ≤ n) (l Bs n₀ : Nat) (A1 : Option Addr) (c1 : Nat) (l1 : List S62) (sA : Nat → Option Addr) (sC : Nat → Nat) (hlen : l1.length ≤ 4096) (J Jx : List Nat → World → Prop)
    (hY : ∀ pre x W, J pre W → pre.length < l1.length → YieldAt F (n - 1) Try.prog l (encW l1 sA sC x) W fun e W' =>
      (e = .returned (.bool true) ∧ J (pre ++ [x]) W' ∧ Below n₀ W W') ∨ (e = .returned (.bool false) ∧ Jx (pre ++ [x]) W'))
    (W : World) (hBs : W.cell? ⟨Bs, 0, none⟩ = some (.slice A1 l1.length c1)) (hBn : Bs < n₀) (hc : ∀ W', Below n₀ W W' → CellsW W' A1 l1 sA sC) (h0 : J [] W) :
    CallsIn F n Try.prog 54 #[.func (.yield l) #[] #[], .pointer (some ⟨Bs, 0, none⟩)] W fun e W' => (∃ v, e = .returned v) ∧
      ((∃ ys, ys = downto l1.length l1.length ∧ J ys W') ∨ (∃ pre, (∃ k, k ≤ l1.length ∧ pre = downto l1.length k) ∧ Jx pre W')) := by
  have hu62 := Try.underlying62
  have hu28 := Try.underlying28
  refine callsIn_of_wp Try.func54 rfl h54 ?_ hro
  simp only [Try.ntmps54, List.size_toArray, List.length_cons, List.length_nil, Nat.reduceAdd, Nat.reduceSub, Array.replicate_succ, Array.replicate_zero, List.push_toArray, List.append_toArray, List.nil_append, List.cons_append]
  have hw0 : wrap64 ((l1.length : Int) - 1) = (l1.length : Int) - 1 := by unfold wrap64; omega
  gi_wp2
  gi_loopw [3] (fun i wr => ∃ r : Nat, r ≤ l1.length ∧ i = .int .i64 ((r : Int) - 1) ∧ J (downto l1.length (l1.length - r)) wr ∧ Below n₀ W wr)
    (fun i _ => (intOf i + 1).toNat)
  case atStart => exact ⟨l1.length, Nat.le_refl _, by simp [hw0], by rw [Nat.sub_self]; exact h0, Below.refl _ _⟩
  case round =>
    obtain ⟨r, hr, rfl, hJs, hnx⟩ := hrel
    cases r with
    | zero =>
      gi_wp2
      go_end0
      exact ⟨⟨_, rfl⟩, .inl ⟨_, rfl, hJs⟩⟩
    | succ m =>
      rw [show ((m + 1 : Nat) : Int) - 1 = (m : Int) by omega]
      obtain ⟨ad, rfl, x0, x1⟩ := hc wr hnx m (by omega)
      have hBs' := (hnx.cell (p := ⟨Bs, 0, none⟩) hBn).trans hBs
      obtain ⟨fn, tmps, assign, body, hy, hR⟩ := hY _ m wr hJs (by rw [downto_length]; omega)
      have p1 : (0 : Int) ≤ (m : Int) := by omega
      have p2 : (m : Int) < (l1.length : Int) := by omega
      gi_wp2
      refine hR.mono ?_
      rintro e W3 (⟨rfl, hJ3, hk3⟩ | ⟨rfl, hJx3⟩)
      · gi_wp2
        go_roundw
        case rel => exact ⟨m, by omega, by simp, by rw [show l1.length - m = l1.length - (m + 1) + 1 by omega, downto_succ, show l1.length - 1 - (l1.length - (m + 1)) = m by omega]; exact hJ3, hnx.trans hk3⟩
        case measure => simp [intOf]
      · gi_wp2
        refine bodyPost_ret (results_none rfl _ _ _) rfl ?_
        exact ⟨⟨_, rfl⟩, .inr ⟨_, ⟨l1.length - (m + 1) + 1, by omega, by rw [downto_succ, show l1.length - 1 - (l1.length - (m + 1)) = m by omega]⟩, hJx3⟩⟩
theorem BackW.in (F : Fence) (n : Nat) (h49 : F.fn 49) (hro : F.round = none) (a : Option Addr) (len cap : Nat) (w : World) :
    CallsIn F n Try.prog 49 #[.slice a len cap] w fun e w' => e = .returned (.func (.func 54) #[] #[.pointer (some ⟨w.heap.size, 0, none⟩)]) ∧ w' = w.alloc (.cells #[.slice a len cap] 28) := by
  refine callsIn_of_wp Try.func49 rfl h49 ?_ hro
  simp only [Try.ntmps49, List.size_toArray, List.length_cons, List.length_nil, Nat.reduceAdd, Nat.reduceSub, Array.replicate_succ, Array.replicate_zero, List.push_toArray, List.append_toArray, List.nil_append, List.cons_append]
  gi_wp2
  go_ret
  exact ⟨rfl, rfl⟩
theorem BackK.stops (F : Fence) (n : Nat) (h54 : F.fn 54) (hro : F.round = none) (hn : 1 ≤ n) (Bs n₀ : Nat) (A1 : Option Addr) (c1 : Nat) (l1 : List S62) (sA : Nat → Option Addr) (sC : Nat → Nat) (hlen : l1.length ≤ 4096) (w : World) (hBs : Bs < n₀) (hn₀ : n₀ ≤ w.heap.size)
    (hcell : w.cell? ⟨Bs, 0, none⟩ = some (.slice A1 l1.length c1)) (hc : ∀ W', Below n₀ w W' → CellsW W' A1 l1 sA sC) :
    SeqStopsK F n Try.prog 54 #[.pointer (some ⟨Bs, 0, none⟩)] (encW l1 sA sC) (Below n₀) (fun ys => ys = downto l1.length l1.length) (fun pre => ∃ k, k ≤ l1.length ∧ pre = downto l1.length k) l1.length w := fun l J Jx W hW _ _ hY h0 => by
  exact BackK.in F n h54 hro hn l Bs n₀ A1 c1 l1 sA sC hlen J Jx hY W ((hW.cell (p := ⟨Bs, 0, none⟩) (Nat.lt_of_lt_of_le hBs hn₀)).trans hcell) hBs (fun W' h => hc W' ((hW.mono hn₀).trans h)) h0
theorem blkc_own {β : Type} (B : Nat) (cs : Array Value) (t : TypeId) : Own (fun (_ : β) W => W.heap[B]? = some (.cells cs t (0, 0))) := fun s X Y row hs hg hrow =>
  blk_grown hs hg (fun e' => by obtain ⟨o, ho, hc⟩ := hrow B e'.symm; rw [show X.heap[B]? = _ from hs] at ho; cases ho; cases hc)
/-- The cells, by choice. -/
theorem cellsW_of {w : World} {A1 : Option Addr} {l1 : List S62} (h : Kd.C k62 w A1 l1.length l1) : ∃ (sA : Nat → Option Addr) (sC : Nat → Nat), CellsW w A1 l1 sA sC ∧ ∀ k, k < l1.length → (rd_T62 l1 (k : Int)).f1.length ≤ sC k ∧ (Kd.int .u8).C w (sA k) (rd_T62 l1 (k : Int)).f1.length (rd_T62 l1 (k : Int)).f1 := by
  have h1 : ∀ k : Nat, ∃ (a : Option Addr) (c : Nat), k < l1.length → ∃ ad, A1 = some ad ∧ w.cell? (ad.add (k * 2)) = some (.int .i64 (rd_T62 l1 (k : Int)).f0) ∧ w.cell? ⟨(ad.add (k * 2)).block, (ad.add (k * 2)).off + 1, none⟩ = some (.slice a (rd_T62 l1 (k : Int)).f1.length c) ∧ (rd_T62 l1 (k : Int)).f1.length ≤ c ∧ (Kd.int .u8).C w a (rd_T62 l1 (k : Int)).f1.length (rd_T62 l1 (k : Int)).f1 := fun k => by
    by_cases hk : k < l1.length
    · obtain ⟨ad, a, c, e, x0, x1, hl, hC⟩ := at_T62 h (k : Int) (by omega) (by omega)
      exact ⟨a, c, fun _ => ⟨ad, e, x0, x1, hl, hC⟩⟩
    · exact ⟨none, 0, fun h => absurd h hk⟩
  refine ⟨fun k => (h1 k).choose, fun k => (h1 k).choose_spec.choose, fun k hk => ?_, fun k hk => ?_⟩
  · obtain ⟨ad, e, x0, x1, _, _⟩ := (h1 k).choose_spec.choose_spec hk
    exact ⟨ad, e, x0, x1⟩
  · obtain ⟨ad, e, x0, x1, hl, hC⟩ := (h1 k).choose_spec.choose_spec hk
    exact ⟨hl, hC⟩
theorem cellsW_below {n : Nat} {w w' : World} {A1 : Option Addr} {l1 : List S62} {sA : Nat → Option Addr} {sC : Nat → Nat} (h : CellsW w A1 l1 sA sC) (hC : Kd.C k62 w A1 l1.length l1) (hn : w.heap.size ≤ n) (hb : Below n w w') : CellsW w' A1 l1 sA sC := fun k hk => by
  obtain ⟨ad, e, x0, x1⟩ := h k hk
  have y0 := World.block_lt_of_cell? w _ x0
  have y1 := World.block_lt_of_cell? w _ x1
  exact ⟨ad, e, (hb.cell (Nat.lt_of_lt_of_le y0 hn)).trans x0, (hb.cell (p := ⟨(ad.add (k * 2)).block, (ad.add (k * 2)).off + 1, none⟩) (Nat.lt_of_lt_of_le y1 hn)).trans x1⟩
/-- What was put last into a sector, of the first n writes; or what it holds. -/
def lastN (l0 : List (List Int)) (l1 : List S62) (i : Int) : Nat → List Int
  | 0 => rd_L1 l0 i
  | n + 1 => if (rd_T62 l1 (n : Int)).f0 = i then (rd_T62 l1 (n : Int)).f1 else lastN l0 l1 i n
theorem lastN_skip {l0 : List (List Int)} {l1 : List S62} {i : Int} {m : Nat} : ∀ n, m ≤ n → (∀ j, m ≤ j → j < n → (rd_T62 l1 (j : Int)).f0 ≠ i) → lastN l0 l1 i n = lastN l0 l1 i m
  | 0, h, _ => by rw [Nat.le_zero.1 h]
  | n + 1, h, hn => by
    by_cases e : m = n + 1
    · rw [e]
    · rw [lastN, if_neg (hn n (by omega) (by omega))]
      exact lastN_skip n (by omega) (fun j h1 h2 => hn j h1 (by omega))
theorem mem_downto {n k j : Nat} (h1 : j < n) (h2 : n - k ≤ j) : j ∈ downto n k := by
  unfold downto
  rw [List.mem_map]
  exact ⟨n - 1 - j, by rw [List.mem_range]; omega, by omega⟩
set_option maxRecDepth 100000 in
set_option maxHeartbeats 4000000 in
theorem LastF.in (F : Fence) (n : Nat) (h44 : F.fn 44) (h49 : F.fn 49) (h54 : F.fn 54) (hro : F.round = none) (hn : 4 ≤ n) (A0 : Option Addr) (c0 : Nat) (l0 : List (List Int)) (A1 : Option Addr) (c1 : Nat) (l1 : List S62) (i : Int) (w : World)
    (hr0 : Kd.C (Kd.slice 5 (Kd.int .u8)) w A0 l0.length l0) (hr1 : Kd.C k62 w A1 l1.length l1) (hlen : l1.length ≤ 4096) (hi0 : 0 ≤ i) (hi1 : i < l0.length) :
    CallsIn F n Try.prog 44 #[.agg #[.slice A0 l0.length c0, .slice A1 l1.length c1], .int .i64 i] w fun e w' => ∃ A c, e = .returned (.slice A (lastN l0 l1 i l1.length).length c) ∧ (lastN l0 l1 i l1.length).length ≤ c ∧ Kd.C (Kd.int .u8) w A (lastN l0 l1 i l1.length).length (lastN l0 l1 i l1.length) ∧ Below w.heap.size w w' := by
  obtain ⟨res, hres0⟩ : ∃ r, r = lastN l0 l1 i l1.length := ⟨_, rfl⟩
  rw [← hres0]
  have hu62 := Try.underlying62
  have hu28 := Try.underlying28
  have hu30 := Try.underlying30
  have h1 : 1 ≤ n := by omega
  obtain ⟨sA, sC, hcw, hrow⟩ := cellsW_of hr1
  have HE := Aside0.mk (at_L1 hr0 i hi0 hi1)
  refine callsIn_of_wp_marks Try.func44 rfl h44 ?_ hro
  simp only [Try.ntmps44, List.size_toArray, List.length_cons, List.length_nil, Nat.reduceAdd, Nat.reduceSub, Array.replicate_succ, Array.replicate_zero, List.push_toArray, List.append_toArray, List.nil_append, List.cons_append]
  gi_wp2_with (gi_at_call 49; refine (BackW.in F (n - 1) h49 hro _ _ _ _).mono ?_; rintro e w' ⟨rfl, rfl⟩)
  have k0 := blk_alloc (blk_alloc (blk_alloc (heap_alloc_new w (.cells #[.slice A0 l0.length c0, .slice A1 l1.length c1] 30)) (.cells #[.int .i64 i] 3)) (.cells #[.slice none 0 0] 36)) (.cells #[.slice A1 l1.length c1] 28)
  have k1 := blk_alloc (blk_alloc (heap_alloc_new (w.alloc (.cells #[.slice A0 l0.length c0, .slice A1 l1.length c1] 30)) (.cells #[.int .i64 i] 3)) (.cells #[.slice none 0 0] 36)) (.cells #[.slice A1 l1.length c1] 28)
  have k2 := blk_alloc (heap_alloc_new ((w.alloc (.cells #[.slice A0 l0.length c0, .slice A1 l1.length c1] 30)).alloc (.cells #[.int .i64 i] 3)) (.cells #[.slice none 0 0] 36)) (.cells #[.slice A1 l1.length c1] 28)
  have k3 := heap_alloc_new (((w.alloc (.cells #[.slice A0 l0.length c0, .slice A1 l1.length c1] 30)).alloc (.cells #[.int .i64 i] 3)).alloc (.cells #[.slice none 0 0] 36)) (.cells #[.slice A1 l1.length c1] 28)
  simp only [World.size_alloc] at k1 k2 k3
  have hB0 : Below w.heap.size w ((((w.alloc (.cells #[.slice A0 l0.length c0, .slice A1 l1.length c1] 30)).alloc (.cells #[.int .i64 i] 3)).alloc (.cells #[.slice none 0 0] 36)).alloc (.cells #[.slice A1 l1.length c1] 28)) := below_alloc (below_alloc (below_alloc (below_alloc (Below.refl w.heap.size w) _) _) _) _
  have hsz : ((((w.alloc (.cells #[.slice A0 l0.length c0, .slice A1 l1.length c1] 30)).alloc (.cells #[.int .i64 i] 3)).alloc (.cells #[.slice none 0 0] 36)).alloc (.cells #[.slice A1 l1.length c1] 28)).heap.size = w.heap.size + 4 := by simp
  generalize (((w.alloc (.cells #[.slice A0 l0.length c0, .slice A1 l1.length c1] 30)).alloc (.cells #[.int .i64 i] 3)).alloc (.cells #[.slice none 0 0] 36)).alloc (.cells #[.slice A1 l1.length c1] 28) = W0 at *
  refine wpIn_rangeFunc_ownH hro h1 (gf := 54) (lb := #[.pointer (some ⟨w.heap.size + 1 + 1 + 1, 0, none⟩)]) rfl h54 (enters_of Try.func54 (by kernel_rfl) rfl)
    (BackK.stops F (n - 1) h54 hro (by omega) (w.heap.size + 1 + 1 + 1) (w.heap.size + 4) A1 c1 l1 sA sC hlen W0 (by omega) (by omega) (blk_cell k3 0) (fun W' hb => cellsW_below (cellsW_below hcw hr1 (Nat.le_refl _) hB0) (Kd.C_below hr1 hB0) (by omega) hb)) belowK_t (belowK_b (by omega)) (Below.refl _ _) (fun _ => rfl)
    (fun pre W => (W.heap[w.heap.size]? = some (.cells #[.slice A0 l0.length c0, .slice A1 l1.length c1] 30 (0, 0)) ∧ W.heap[w.heap.size + 1]? = some (.cells #[.int .i64 i] 3 (0, 0)) ∧ W.heap[w.heap.size + 1 + 1]? = some (.cells #[.slice none 0 0] 36 (0, 0)) ∧ W.heap[w.heap.size + 1 + 1 + 1]? = some (.cells #[.slice A1 l1.length c1] 28 (0, 0)) ∧ ∀ k ∈ pre, (rd_T62 l1 ((k : Nat) : Int)).f0 ≠ i) ∧ Below w.heap.size w W)
    (fun c pre W => (c = .ret ∧ ∃ ini last, pre = ini ++ [last] ∧ (∀ k ∈ ini, (rd_T62 l1 ((k : Nat) : Int)).f0 ≠ i) ∧ (rd_T62 l1 ((last : Nat) : Int)).f0 = i ∧ W.heap[w.heap.size + 1 + 1]? = some (.cells #[.slice (sA last) (rd_T62 l1 ((last : Nat) : Int)).f1.length (sC last)] 36 (0, 0))) ∧ Below w.heap.size w W)
    (OwnFrom.and (Own.from (fun s A B row hs hg hr => ⟨blkc_own _ _ _ () A B row hs.1 hg hr, blkc_own _ _ _ () A B row hs.2.1 hg hr, blkc_own _ _ _ () A B row hs.2.2.1 hg hr, blkc_own _ _ _ () A B row hs.2.2.2.1 hg hr, hs.2.2.2.2⟩) _) (ownFrom_below (Nat.le_refl _) (by omega)))
    (fun c => OwnFrom.and (Own.from (fun s A B row hs hg hr => by obtain ⟨hc, ini, last, e1, e2, e3, e4⟩ := hs; exact ⟨hc, ini, last, e1, e2, e3, blkc_own _ _ _ () A B row e4 hg hr⟩) _) (ownFrom_below (Nat.le_refl _) (by omega)))
    ⟨⟨k0, k1, k2, k3, by simp⟩, hB0⟩
    (fun x a' W => ∃ Bx, w.heap.size + 3 < Bx ∧ W.heap[Bx]? = some (.cells #[.int .i64 (rd_T62 l1 (x : Int)).f0, .slice (sA x) (rd_T62 l1 (x : Int)).f1.length (sC x)] 62 (0, 0)) ∧ a' = { tmps := #[.agg #[.slice A0 l0.length c0, .slice A1 l1.length c1], .int .i64 i, .pointer (some ⟨w.heap.size, 0, none⟩), .pointer (some ⟨w.heap.size + 1, 0, none⟩), .pointer (some ⟨w.heap.size + 1 + 1, 0, none⟩), undef, .pointer (some ⟨Bx, 0, none⟩), .pointer (some ⟨w.heap.size, 1, none⟩), .slice A1 l1.length c1, .func (.func 54) #[] #[.pointer (some ⟨w.heap.size + 1 + 1 + 1, 0, none⟩)], .int .i64 x, .agg #[.int .i64 (rd_T62 l1 (x : Int)).f0, .slice (sA x) (rd_T62 l1 (x : Int)).f1.length (sC x)], undef, undef, undef, undef, undef, undef, undef, undef, undef, undef, undef], defers := [] })
    (fun x a' _ X Y row hs hg hr => by obtain ⟨Bx, h1, h2, h3⟩ := hs; exact ⟨Bx, h1, blkc_own _ _ _ () X Y row h2 hg (fun r e => (hr r e).2), h3⟩)
    ?assign ?body ?done ?stop
  case assign =>
    rintro l pre x W K ⟨⟨b0, b1, b2, b3, hp⟩, hB⟩ hK
    have hsW : w.heap.size + 4 ≤ W.heap.size := Nat.succ_le_of_lt (blk_lt b3)
    gi_wp2
    exact hK _ _ ((KeepsOthers.alloc _ _).from _) ((Below.refl _ W).alloc hsW _) ⟨⟨blk_alloc b0 _, blk_alloc b1 _, blk_alloc b2 _, blk_alloc b3 _, hp⟩, below_alloc hB _⟩ ⟨W.heap.size, by omega, heap_alloc_new W _, rfl⟩
  case body =>
    rintro l pre x a' W hl ⟨r, hr⟩ ⟨⟨b0, b1, b2, b3, hp⟩, hB⟩ ⟨Bx, hBx, bX, rfl⟩ hlt
    have y1 := (blk_cell b1 0).trans rfl
    have y2 := (blk_cell b2 0).trans rfl
    have f2 := blk_frozen b2 0
    have x0 := (blk_cell bX 0).trans rfl
    have x1 := (blk_cell bX 1).trans rfl
    gi_wp2
    · have hx : (rd_T62 l1 (x : Int)).f0 = i := by
        have : ((rd_T62 l1 (x : Int)).f0 == i) = true := by assumption
        exact eq_of_beq this
      exact ⟨(KeepsOthers.setCell _ _ _).from _, ⟨rfl, pre, x, rfl, hp, hx, blk_put b2 0 _ rfl⟩, below_set hB (by show w.heap.size ≤ w.heap.size + 1 + 1; omega)⟩
    · have hx : ¬ (rd_T62 l1 (x : Int)).f0 = i := by
        have : ((rd_T62 l1 (x : Int)).f0 == i) = false := by assumption
        exact fun e => by rw [e, beq_self_eq_true] at this; cases this
      exact ⟨KeepsFrom.refl _ _, Below.refl _ _, ⟨b0, b1, b2, b3, fun k hk => (List.mem_append.1 hk).elim (hp k) (fun e => by simp at e; subst e; exact hx)⟩, hB⟩
  case done =>
    rintro D ys W hD rfl ⟨⟨b0, b1, b2, b3, hp⟩, hB⟩ hK
    have hres : lastN l0 l1 i l1.length = rd_L1 l0 i := (lastN_skip (m := 0) l1.length (Nat.zero_le _) (fun j _ hj => hp j (mem_downto hj (by omega))))
    obtain rfl := hres0.trans hres
    obtain ⟨ad0, A2, c2, rfl, hx0, hl0, hC0⟩ := HE.out
    have y0 := (blk_cell b0 0).trans rfl
    have y1 := (blk_cell b1 0).trans rfl
    have y2 := (blk_cell b2 0).trans rfl
    have f2 := blk_frozen b2 0
    have hx := (hB.cell (World.block_lt_of_cell? w _ hx0)).trans hx0
    have p1 := eq_true hi0
    have p2 := eq_true hi1
    have hKA := Aside0.mk hK
    have HL := Aside0.mk (And.intro hl0 hC0)
    clear hK hcw hrow hr0 hr1 HE k0 k1 k2 k3 hx0 hl0 hC0 hp
    gi_wp2
    simp [go_sem, hro, hx]
    gi_wp2
    simp [go_sem, hro, y2, f2]
    gi_wp2
    have hK' := (KeepsOthers.setCell W ⟨w.heap.size + 1 + 1, 0, none⟩ (.slice A2 (rd_L1 l0 i).length c2)).same D _ hKA.out rfl
    refine ⟨by simp, .inl ⟨_, _, rfl, run_takeDeferred hK', ?_⟩⟩
    have hc5 := cell_kept (World.cell?_setCell_same' W ⟨w.heap.size + 1 + 1, 0, none⟩ (.slice A2 (rd_L1 l0 i).length c2) (by rw [y2]; rfl)) (grownBy_putObj' _ D (.deferred none)) (fun r e => by cases e; exact ⟨_, hK', rfl⟩)
    refine ⟨.slice A2 (rd_L1 l0 i).length c2, ?_, A2, c2, rfl, HL.out.1, HL.out.2, (below_set hB (by show w.heap.size ≤ w.heap.size + 1 + 1; omega)).trans (belowK_b (w := w) (Nat.le_refl _) _ D _ _ (by omega) hK' rfl rfl)⟩
    simp [results, Try.f44, go_sem, hc5]
  case stop =>
    rintro D c pre W hD ⟨k, hk, rfl⟩ ⟨⟨rfl, ini, last, e1, e2, e3, b2⟩, hB⟩ hK
    obtain ⟨k', rfl⟩ : ∃ k', k = k' + 1 := by
      cases k with
      | zero => simp [downto] at e1
      | succ k' => exact ⟨k', rfl⟩
    rw [downto_succ] at e1
    obtain ⟨rfl, e5⟩ := List.append_inj' e1 rfl
    obtain rfl : l1.length - 1 - k' = last := by simpa using e5
    have hres : lastN l0 l1 i l1.length = (rd_T62 l1 ((l1.length - 1 - k' : Nat) : Int)).f1 := by
      rw [lastN_skip (m := l1.length - 1 - k' + 1) l1.length (by omega) (fun j h1 h2 => e2 j (mem_downto h2 (by omega))), lastN, if_pos e3]
    obtain rfl := hres0.trans hres
    have HR := Aside0.mk (hrow (l1.length - 1 - k') (by omega))
    have hKA := Aside0.mk hK
    clear hK hcw hrow hr0 hr1 HE k0 k1 k2 k3
    gi_wp2
    refine ⟨by simp, .inl ⟨_, _, rfl, run_takeDeferred hKA.out, ?_⟩⟩
    have hc5 := cell_kept ((blk_cell b2 0).trans rfl) (grownBy_putObj' _ D (.deferred none)) (fun r e => by cases e; exact ⟨_, hKA.out, rfl⟩)
    refine ⟨.slice (sA (l1.length - 1 - k')) (rd_T62 l1 ((l1.length - 1 - k' : Nat) : Int)).f1.length (sC (l1.length - 1 - k')), ?_, _, _, rfl, HR.out.1, HR.out.2, hB.trans (belowK_b (w := w) (Nat.le_refl _) W D _ _ (by omega) hKA.out rfl rfl)⟩
    simp [results, Try.f44, go_sem, hc5]
def disk_State_last.f (l0 : List (List Int)) (l1 : List S62) (i : Int) : List Int := lastN l0 l1 i l1.length
theorem disk_State_last.calls (A0 : Option Addr) (c0 : Nat) (l0 : List (List Int)) (A1 : Option Addr) (c1 : Nat) (l1 : List S62) (i : Int) (w : World)
    (hr0 : Kd.C (Kd.slice 5 (Kd.int .u8)) w A0 l0.length l0) (hr1 : Kd.C k62 w A1 l1.length l1) (hlen : l1.length ≤ 4096) (hi0 : 0 ≤ i) (hi1 : i < l0.length) :
    Calls Try.prog 44 #[.agg #[.slice A0 l0.length c0, .slice A1 l1.length c1], .int .i64 i] w fun e w' => ∃ A c, e = .returned (.slice A (disk_State_last.f l0 l1 i).length c) ∧ (disk_State_last.f l0 l1 i).length ≤ c ∧ Kd.C (Kd.int .u8) w A (disk_State_last.f l0 l1 i).length (disk_State_last.f l0 l1 i) ∧ Below w.heap.size w w' :=
  (callsIn_wide (n := 6)).1 (LastF.in Fence.wide 6 trivial trivial trivial rfl (by omega) A0 c0 l0 A1 c1 l1 i w hr0 hr1 hlen hi0 hi1)
end

/-! ### disk_GetAll: function 26 -/
def getN (l0 : List (List Int)) (l1 : List S62) (i : Int) : Nat → List Int
  | 0 => []
  | k + 1 => getN l0 l1 i k ++ lastN l0 l1 (i + (k : Int)) l1.length
def roomB (n : Nat) (a1 a2 : Int) : Bool := decide (0 ≤ a1 ∧ 0 ≤ a2 ∧ a1 ≤ n ∧ a2 ≤ n - a1)
theorem room_f {l0 : List (List Int)} {l1 : List S62} (hn : l0.length ≤ 2048) (a1 a2 : Int) : disk_State_room.f l0 l1 a1 a2 = some (roomB l0.length a1 a2) := by
  unfold disk_State_room.f roomB
  by_cases h1 : a1 ≥ 0
  · rw [if_pos h1]
    by_cases h2 : a2 ≥ 0
    · rw [if_pos h2]
      by_cases h3 : a1 ≤ (l0.length : Int)
      · rw [if_pos h3]
        have hw : wrap64 ((l0.length : Int) - a1) = (l0.length : Int) - a1 := by unfold wrap64; omega
        rw [hw]
        congr 1
        rw [decide_eq_decide]
        constructor
        · intro h; exact ⟨h1, h2, h3, h⟩
        · intro h; exact h.2.2.2
      · rw [if_neg h3, decide_eq_false (fun h => h3 h.2.2.1)]
    · rw [if_neg h2, decide_eq_false (fun h => h2 h.2.1)]
  · rw [if_neg h1, decide_eq_false (fun h => h1 h.1)]
theorem lastN_64 {l0 : List (List Int)} {l1 : List S62} {i : Int} (h0 : ∀ x ∈ l0, x.length = 64) (h1 : ∀ x ∈ l1, x.f1.length = 64) (hi0 : 0 ≤ i) (hi1 : i < l0.length) : ∀ n, n ≤ l1.length → (lastN l0 l1 i n).length = 64
  | 0, _ => by
    unfold lastN rd_L1
    have hn : i.toNat < l0.length := by omega
    rw [List.getD_eq_getElem?_getD, List.getElem?_eq_getElem hn]
    exact h0 _ (List.getElem_mem hn)
  | n + 1, h => by
    unfold lastN
    split
    · exact h1 _ (rd62_mem (by omega))
    · exact lastN_64 h0 h1 hi0 hi1 n (by omega)
theorem getN_length {l0 : List (List Int)} {l1 : List S62} {i : Int} (h0 : ∀ x ∈ l0, x.length = 64) (h1 : ∀ x ∈ l1, x.f1.length = 64) (hi0 : 0 ≤ i) : ∀ k : Nat, i + k ≤ l0.length → (getN l0 l1 i k).length = 64 * k
  | 0, _ => rfl
  | k + 1, h => by
    rw [getN, List.length_append, getN_length h0 h1 hi0 k (by omega), lastN_64 h0 h1 (by omega) (by omega) l1.length (Nat.le_refl _)]
    omega
def disk_GetAll.f (l0 : List (List Int)) (l1 : List S62) (a1 a2 : Int) : Option (List Int × Int) :=
  if disk_Check.v l0 l1 = 0 then (if roomB l0.length a1 a2 = true then some (getN l0 l1 a1 a2.toNat, 0) else some ([], 41)) else some ([], 9)
set_option maxHeartbeats 8000000 in
set_option maxRecDepth 100000 in
theorem disk_GetAll.calls (A0_0 : Option Addr) (c0_0 : Nat) (l0_0 : List (List Int)) (A0_1 : Option Addr) (c0_1 : Nat) (l0_1 : List S62) (a1 : Int) (a2 : Int) (r1 : List Int) (r2 : Int) (w : World) (hr0_0 : Kd.C (Kd.slice 5 (Kd.int .u8)) w A0_0 l0_0.length l0_0) (hc0_0 : l0_0.length ≤ c0_0) (hr0_1 : Kd.C k62 w A0_1 l0_1.length l0_1) (hc0_1 : l0_1.length ≤ c0_1) (h : disk_GetAll.f l0_0 l0_1 a1 a2 = some (r1, r2)) :
    Calls Try.prog 26 #[.agg #[.slice A0_0 l0_0.length c0_0, .slice A0_1 l0_1.length c0_1], .int .i64 a1, .int .i64 a2] w fun e w' => ∃ v0_ : Value, e = .returned (.tuple #[v0_, .int .i64 r2]) ∧ Kd.R (Kd.int .u8) 5 w' w.heap.size (fun _ => True) v0_ r1 ∧ Below w.heap.size w w' := by
  have hu30 := Try.underlying30
  have HR0 := Aside0.mk hr0_0
  have HR1 := Aside0.mk hr0_1
  have HC := Aside0.mk (And.intro hc0_0 hc0_1)
  have hk1 := heap_alloc_new w (.cells #[.slice A0_0 l0_0.length c0_0, .slice A0_1 l0_1.length c0_1] 30)
  have HB := Aside0.mk (below_alloc (Below.refl w.heap.size w) (.cells #[.slice A0_0 l0_0.length c0_0, .slice A0_1 l0_1.length c0_1] 30))
  have K1 := Aside0.mk hk1
  clear hr0_0 hr0_1 hc0_0 hc0_1 hk1
  unfold disk_GetAll.f at h
  rcases checkv_cases l0_0 l0_1 with hv | hv
  · rw [if_pos hv] at h
    obtain ⟨q1, q2, q3, q4, q5⟩ := check0 hv
    have HQ := Aside0.mk (And.intro q1 (And.intro q2 (And.intro q3 (And.intro q4 q5))))
    have HV := Aside0.mk (show disk_Check.f l0_0 l0_1 = some 0 by unfold disk_Check.f; rw [hv])
    have HM := Aside0.mk (room_f (l1 := l0_1) q2 a1 a2)
    clear hv q1 q2 q3 q4 q5
    cases hq : roomB l0_0.length a1 a2 with
    | false =>
      rw [hq, if_neg (by decide)] at h
      injection h with h
      injection h with h1 h2
      subst h1 h2
      have HM2 := Aside0.mk (HM.out.trans (by rw [hq]))
      clear hq HM
      go_enter Try.func26, Try.ntmps26
      go_wp2_with (first | (go_at_call 22; refine (disk_Check.calls A0_0 c0_0 l0_0 A0_1 c0_1 l0_1 0 _ (Kd.C_below HR0.out HB.out) HC.out.1 (Kd.C_below HR1.out HB.out) HC.out.2 HV.out).mono ?_; rintro e w1 ⟨rfl, hb⟩; replace K1 := Aside0.mk (blk_below K1.out hb); replace HB := Aside0.mk (HB.out.trans (hb.mono HB.out.size)); clear hb; have x0 := (blk_cell K1.out 0).trans rfl; have x1 := (blk_cell K1.out 1).trans rfl) | (go_at_call 32; refine (disk_State_room.calls A0_0 c0_0 l0_0 A0_1 c0_1 l0_1 a1 a2 false _ (Kd.C_below HR0.out HB.out) HC.out.1 (Kd.C_below HR1.out HB.out) HC.out.2 HM2.out).mono ?_; rintro e w2 ⟨rfl, hb⟩; replace HB := Aside0.mk (HB.out.trans (hb.mono HB.out.size)); clear hb))
      refine bodyPost_ret (results_list (rs := [.tmp 6, .tmp 7]) rfl (by simp) (.tmp (.tmp .nil))) rfl ?_
      exact ⟨_, rfl, Kd.R_nil _ _ _ _ _, HB.out⟩
    | true =>
      rw [hq, if_pos rfl] at h
      injection h with h
      injection h with h1 h2
      subst h1 h2
      have HM2 := Aside0.mk (HM.out.trans (by rw [hq]))
      have HN := Aside0.mk (of_decide_eq_true hq)
      clear hq HM
      go_enter Try.func26, Try.ntmps26
      go_wp2_with (first | (go_at_call 22; refine (disk_Check.calls A0_0 c0_0 l0_0 A0_1 c0_1 l0_1 0 _ (Kd.C_below HR0.out HB.out) HC.out.1 (Kd.C_below HR1.out HB.out) HC.out.2 HV.out).mono ?_; rintro e w1 ⟨rfl, hb⟩; replace K1 := Aside0.mk (blk_below K1.out hb); replace HB := Aside0.mk (HB.out.trans (hb.mono HB.out.size)); clear hb; have x0 := (blk_cell K1.out 0).trans rfl; have x1 := (blk_cell K1.out 1).trans rfl) | (go_at_call 32; refine (disk_State_room.calls A0_0 c0_0 l0_0 A0_1 c0_1 l0_1 a1 a2 true _ (Kd.C_below HR0.out HB.out) HC.out.1 (Kd.C_below HR1.out HB.out) HC.out.2 HM2.out).mono ?_; rintro e w2 ⟨rfl, hb⟩; replace K1 := Aside0.mk (blk_below K1.out hb); replace HB := Aside0.mk (HB.out.trans (hb.mono HB.out.size)); clear hb))
      go_loopg [9, 22] (a2.toNat + 1) (fun gg s9 s22 wr => ∃ k : Int, s22 = .int .i64 k ∧ Aside0 (0 ≤ k ∧ k ≤ a2 ∧ a2 - k < gg ∧ Below w.heap.size w wr ∧ wr.heap[w.heap.size]? = some (.cells #[.slice A0_0 l0_0.length c0_0, .slice A0_1 l0_1.length c0_1] 30 (0, 0)) ∧ (Kd.int .u8).R 5 wr w.heap.size (fun _ => True) s9 (getN l0_0 l0_1 a1 k.toNat)))
      case atStart => exact ⟨0, rfl, ⟨by omega, HN.out.2.1, by have := HN.out.2.1; omega, HB.out, K1.out, Kd.R_nil _ _ _ _ _⟩⟩
      case round =>
        obtain ⟨k, rfl, Z⟩ := hrel
        clear HB K1
        by_cases hlt : k < a2
        · obtain ⟨h0, hle, hgk, hBW, k1, ho⟩ := Z.out
          obtain ⟨A9, c9, rfl⟩ := Kd.R_slice ho
          have x0 := (blk_cell k1 0).trans rfl
          have x1 := (blk_cell k1 1).trans rfl
          have hw : wrap64 (a1 + k) = a1 + k := by have := HN.out; have := HQ.out.2.1; unfold wrap64; omega
          have K1 := Aside0.mk k1
          have HB := Aside0.mk hBW
          have HO := Aside0.mk ho
          have HK := Aside0.mk (And.intro h0 (And.intro hlt hgk))
          have p1 := eq_true hlt
          clear k1 hBW ho h0 hle hgk Z hlt
          go_wp2_with (first | (go_at_call 44; (try rw [hw]); refine (disk_State_last.calls A0_0 c0_0 l0_0 A0_1 c0_1 l0_1 (a1 + k) _ (Kd.C_below HR0.out HB.out) (Kd.C_below HR1.out HB.out) HQ.out.2.2.1 (by have := HN.out; have := HK.out; omega) (by have := HN.out; have := HK.out; omega)).mono ?_; rintro e w3 ⟨A8, c8, rfl, hl8, hC8, hb⟩; replace K1 := Aside0.mk (blk_below K1.out hb); replace HO := Aside0.mk (Kd.R_below HO.out hb); have HC8 := Aside0.mk (Kd.C_below hC8 hb); replace HB := Aside0.mk (HB.out.trans (hb.mono HB.out.size)); clear hb hC8 hl8 x0 x1) | ((with_reducible refine gate_builtin (b := .append) (xs := #[.tmp 25, .tmp 30]) rfl ?_); refine Aside0.out ?_))
          refine Aside0.mk ?_
          refine Kd.R_append_row (Value.int .u8) (0 : Int) (h1 := fun _ => rfl) (w0 := w) w.heap.size rfl (.tmp 25) (.tmp 30) 36 5 (.int .u8 0) 1 rfl Try.underlying36 info5 rfl (by decide) (.slice A9 (getN l0_0 l0_1 a1 k.toNat).length c9) (getN l0_0 l0_1 a1 k.toNat) (disk_State_last.f l0_0 l0_1 (a1 + k)) A8 (disk_State_last.f l0_0 l0_1 (a1 + k)).length c8 (fun _ => True) rfl rfl (fun _ _ => trivial) HO.out HC8.out HB.out HB.out.size ?len ?_
          case len =>
            have h64 : ∀ x ∈ l0_1, x.f1.length = 64 := fun x hx => (HQ.out.2.2.2.2 x hx).2.2
            have := HN.out
            have := HK.out
            have e1 := getN_length HQ.out.2.2.2.1 h64 HN.out.1 k.toNat (by omega)
            have e2 := lastN_64 HQ.out.2.2.2.1 h64 (i := a1 + k) (by omega) (by omega) l0_1.length (Nat.le_refl _)
            rw [show (disk_State_last.f l0_0 l0_1 (a1 + k)).length = 64 from e2, e1]
            have := HQ.out.2.1
            omega
          intro v9 w4 ho4 hb4 hg4 _
          obtain ⟨A7, c7, rfl⟩ := Kd.R_slice ho4
          have K4 := Aside0.mk (blk_grown K1.out hg4 (by
            obtain hty := Kd.R_typed HO.out
            intro e
            obtain ⟨cells, hc⟩ := hty _ e.symm
            rw [K1.out] at hc
            cases hc))
          have HO4 := Aside0.mk ho4
          have HB4 := Aside0.mk hb4
          clear ho4 hb4 hg4
          have hw2 : wrap64 (k + 1) = k + 1 := by have := HN.out; have := HK.out; have := HQ.out.2.1; unfold wrap64; omega
          go_wp2
          obtain ⟨gg0, rfl⟩ : ∃ m, gk = m + 1 := ⟨gk - 1, by have := HK.out; omega⟩
          have e1 : getN l0_0 l0_1 a1 (k + 1).toNat = getN l0_0 l0_1 a1 k.toNat ++ disk_State_last.f l0_0 l0_1 (a1 + k) := by
            obtain ⟨m, rfl⟩ := Int.eq_ofNat_of_zero_le HK.out.1
            rw [show ((m : Int) + 1).toNat = m + 1 by omega, getN]
            rfl
          go_roundg gg0
          case measure => omega
          case rel => exact ⟨k + 1, by rw [hw2], ⟨by have := HK.out; omega, by have := HK.out; omega, by have := HK.out; omega, HB4.out, K4.out, by rw [e1]; have h9 := HO4.out; rw [List.length_append] at h9; exact h9⟩⟩
        · obtain ⟨h0, hle, hgk, hBW, k1, ho⟩ := Z.out
          obtain rfl : k = a2 := by omega
          obtain ⟨A9, c9, rfl⟩ := Kd.R_slice ho
          have HO := Aside0.mk (And.intro ho hBW)
          clear ho hBW k1 Z hgk hle h0
          go_wp2
          refine bodyPost_ret (results_list (rs := [.tmp 6, .tmp 7]) rfl (by simp) (.tmp (.tmp .nil))) rfl ?_
          exact ⟨_, rfl, HO.out.1, HO.out.2⟩
  · rw [if_neg (by rw [hv]; decide)] at h
    injection h with h
    injection h with h1 h2
    subst h1 h2
    have HV := Aside0.mk (show disk_Check.f l0_0 l0_1 = some 9 by unfold disk_Check.f; rw [hv])
    clear hv
    go_enter Try.func26, Try.ntmps26
    go_wp2_with (first | (go_at_call 22; refine (disk_Check.calls A0_0 c0_0 l0_0 A0_1 c0_1 l0_1 9 _ (Kd.C_below HR0.out HB.out) HC.out.1 (Kd.C_below HR1.out HB.out) HC.out.2 HV.out).mono ?_; rintro e w1 ⟨rfl, hb⟩; replace HB := Aside0.mk (HB.out.trans (hb.mono HB.out.size)); clear hb))
    refine bodyPost_ret (results_list (rs := [.tmp 6, .tmp 7]) rfl (by simp) (.tmp (.tmp .nil))) rfl ?_
    exact ⟨_, rfl, Kd.R_nil _ _ _ _ _, HB.out⟩

/-! ### disk_Get: function 12 -/
def disk_Get.f (l0_0 : List (List Int)) (l0_1 : List (S62)) (a1 : Int) : Option (List Int × Int) := (disk_GetAll.f l0_0 l0_1 a1 1).bind fun bt103 => (some (bt103.1, bt103.2))
set_option maxHeartbeats 8000000 in
set_option maxRecDepth 100000 in
theorem disk_Get.calls (A0_0 : Option Addr) (c0_0 : Nat) (l0_0 : List (List Int)) (A0_1 : Option Addr) (c0_1 : Nat) (l0_1 : List (S62)) (a1 : Int) (r1 : List Int) (r2 : Int) (w : World) (hr0_0 : Kd.C (Kd.slice 5 (Kd.int .u8)) w A0_0 l0_0.length l0_0) (hc0_0 : l0_0.length ≤ c0_0) (hr0_1 : Kd.C k62 w A0_1 l0_1.length l0_1) (hc0_1 : l0_1.length ≤ c0_1) (h : disk_Get.f l0_0 l0_1 a1 = some (r1, r2)) :
    Calls Try.prog 12 #[.agg #[.slice A0_0 l0_0.length c0_0, .slice A0_1 l0_1.length c0_1], .int .i64 a1] w fun e w' => ∃ v0_ : Value, e = .returned (.tuple #[v0_, .int .i64 r2]) ∧ Kd.R (Kd.int .u8) 5 w' w.heap.size (fun _ => True) v0_ r1 ∧ Below w.heap.size w w' := by
  have hu30 := Try.underlying30
  have HR0_0 := Aside0.mk hr0_0
  have HC0_0 := Aside0.mk hc0_0
  clear hr0_0 hc0_0
  have HR0_1 := Aside0.mk hr0_1
  have HC0_1 := Aside0.mk hc0_1
  clear hr0_1 hc0_1
  have HB := Aside0.mk (Below.refl w.heap.size w)
  have H : ((disk_GetAll.f l0_0 l0_1 a1 1).bind fun bt103 => (some (bt103.1, bt103.2))) = some (r1, r2) := h
  clear h
  replace H := Option.bind_eq_some_iff.mp H
  obtain ⟨⟨t103, t106⟩, A30, H⟩ := H
  replace H : (some (t103, t106)) = some (r1, r2) := H
  have A3 := Aside0.mk A30
  clear A30
  simp only [Option.some.injEq, Prod.mk.injEq] at H
  obtain ⟨rfl, rfl⟩ := H
  go_enter Try.func12, Try.ntmps12
  go_wp2_with (first | ((with_reducible refine gate_dst (N := 2) rfl ?_); refine box_event ?hg (N := 2) ?hd (cs := #[.slice A0_0 l0_0.length c0_0, .slice A0_1 l0_1.length c0_1]) (t := 30) ?hr ?_; (case hd => rfl); (case hg => rfl); (case hr => first | (go_simp; done) | (go_simp; rfl)); intro gb102 hg w4 hbox hb; have n0_ := Aside0.mk (below_step (by repeat (first | (with_reducible first | exact HB.out | apply below_alloc | apply pw_below_drewN | apply below_drew1) | exact HB.out)) hb); have n1_ := Aside0.mk (hbox); have n2_ := Aside0.mk ((by rw [hg]; exact (below_size (by repeat (first | (with_reducible first | exact HB.out | apply below_alloc | apply pw_below_drewN | apply below_drew1) | exact HB.out))) : w.heap.size ≤ gb102)); have n3_ := Aside0.mk ((by rw [hg]; exact (below_size (by repeat (first | (with_reducible first | exact HB.out | apply below_alloc | apply pw_below_drewN | apply below_drew1) | exact HB.out))) : w.heap.size ≤ gb102)); clear HB; have HB := n0_; have BK102 := n1_; have GW102 := n2_; have GE102 := n3_; clear n0_ n1_ n2_ n3_; clear hb hbox hg; have hcz5_0 : w4.cell? ⟨gb102, 0, none⟩ = some (.slice A0_0 l0_0.length c0_0) := (blk_cell BK102.out 0).trans rfl; have hcz5_1 : w4.cell? ⟨gb102, 1, none⟩ = some (.slice A0_1 l0_1.length c0_1) := (blk_cell BK102.out 1).trans rfl; have hfz5_0 := blk_frozen BK102.out 0; have hfz5_1 := blk_frozen BK102.out 1) | ((with_reducible refine gate_callee (f := 26) rfl ?_); refine goesL_ (some 8) rfl rfl Try.func26 (by kernel_rfl) rfl #[.agg #[.slice A0_0 l0_0.length c0_0, .slice A0_1 l0_1.length c0_1], .int .i64 a1, .int .i64 1] rfl (by (try simp only [List.map_toArray, List.map_cons, List.map_nil]); first | done | rfl | (simp only [List.length_drop, List.length_take]; rfl)) ?_; (with_reducible refine (disk_GetAll.calls _ _ l0_0 _ _ l0_1 a1 1 t103 t106 _ ?side1 ?side2 ?side3 ?side4 A3.out).mono ?_); (case side1 => repeat (first | exact (Kd.C_below HR0_0.out HB.out) | (with_reducible refine Kd.C_alloc ?_ _) | (with_reducible refine Kd.C_drewN ?_ _) | (with_reducible refine Kd.C_drew ?_))); (case side2 => exact HC0_0.out); (case side3 => repeat (first | exact (Kd.C_below HR0_1.out HB.out) | (with_reducible refine Kd.C_alloc ?_ _) | (with_reducible refine Kd.C_drewN ?_ _) | (with_reducible refine Kd.C_drew ?_))); (case side4 => exact HC0_1.out); rintro e w6 ⟨v104, rfl, ho0, hb⟩; refine ⟨_, rfl, ?_⟩; have n0_ := Aside0.mk (Kd.R_lower ho0 (below_size (by repeat (first | (with_reducible first | exact HB.out | apply below_alloc | apply pw_below_drewN | apply below_drew1 | refine below_set ?_ GE102.out) | exact HB.out)))); have n1_ := Aside0.mk (blk_below (g := gb102) (o := .cells #[.slice A0_0 l0_0.length c0_0, .slice A0_1 l0_1.length c0_1] 30 (0, 0)) (by (with_reducible repeat (first | refine blk_drewN ?_ _ | refine blk_drew ?_ | refine blk_alloc ?_ _)); exact BK102.out) hb); have n2_ := Aside0.mk (below_step (by repeat (first | (with_reducible first | exact HB.out | apply below_alloc | apply pw_below_drewN | apply below_drew1 | refine below_set ?_ GE102.out) | exact HB.out)) hb); clear BK102; clear HB; have HO105 := n0_; have BK102 := n1_; have HB := n2_; clear n0_ n1_ n2_; (try clear hb); (try clear hb2); (try clear hk); (try clear hi); (try clear ho0)))
  go_ret2
  exact ⟨_, by first | rfl | (simp [errW_none, errW_some] <;> rfl) | (simp [*, errW_none, errW_some] <;> rfl), by (with_reducible repeat (first | apply Kd.R_alloc | apply Kd.R_drewN | apply Kd.R_drew)); exact HO105.out, by repeat (first | (with_reducible first | exact HB.out | apply below_alloc | apply pw_below_drewN | apply below_drew1 | refine below_set ?_ GE102.out) | exact HB.out)⟩

/-! ### slices_Chunk_byte_byte: function 46 -/
section
attribute [local go_sem] Oper.semAt_some
/-- The k-th chunk. -/
def chunk (l : List Int) (k : Nat) : List Int := (l.take (64 * k + 64)).drop (64 * k)
theorem chunk_length (l : List Int) (k : Nat) : (chunk l k).length = min 64 (l.length - 64 * k) := by unfold chunk; rw [List.length_drop, List.length_take]; omega
abbrev Chk (w : World) : Type := { p : Option Addr × List Int // (Kd.int .u8).C w p.1 p.2.length p.2 ∧ p.2.length ≤ 64 }
abbrev encK (w : World) (p : Chk w) : Array Value := #[.slice p.1.1 p.1.2.length p.1.2.length]
def chunks (l : List Int) (k : Nat) : List (List Int) := (List.range k).map (chunk l)
theorem chunks_succ (l : List Int) (k : Nat) : chunks l (k + 1) = chunks l k ++ [chunk l k] := by simp [chunks, List.range_succ]
/-- What the iterator asks of a round: its own two boxes lie as they lay. -/
def KpB (Bs Bn : Nat) (A B : World) : Prop := (∀ o, A.heap[Bs]? = some o → B.heap[Bs]? = some o) ∧ ∀ o, A.heap[Bn]? = some o → B.heap[Bn]? = some o
theorem KpB.refl {Bs Bn : Nat} (A : World) : KpB Bs Bn A A := ⟨fun _ h => h, fun _ h => h⟩
theorem KpB.trans {Bs Bn : Nat} {A B C : World} (h : KpB Bs Bn A B) (h' : KpB Bs Bn B C) : KpB Bs Bn A C := ⟨fun o ho => h'.1 o (h.1 o ho), fun o ho => h'.2 o (h.2 o ho)⟩
theorem KpB.drew {Bs Bn : Nat} {A B : World} (h : KpB Bs Bn A B) : KpB Bs Bn A B.drew := h
theorem KpB.below {Bs Bn n : Nat} {A B : World} (h : Below n A B) (h1 : Bs < n) (h2 : Bn < n) : KpB Bs Bn A B := ⟨fun o ho => (h.block Bs h1).trans ho, fun o ho => (h.block Bn h2).trans ho⟩
theorem KpB.put {Bs Bn : Nat} {W : World} {l : Nat} {o' : Obj} (h1 : Bs ≠ l) (h2 : Bn ≠ l) : KpB Bs Bn W (W.putObj l o') := by
  have hg := grownBy_putObj' W l o'
  exact ⟨fun o ho => (hg.block Bs (blk_lt ho) (fun e => h1 (Option.some.inj e))).trans ho, fun o ho => (hg.block Bn (blk_lt ho) (fun e => h2 (Option.some.inj e))).trans ho⟩
set_option maxRecDepth 100000 in
set_option maxHeartbeats 2000000 in
/-- slices.Chunk's closure. -/
theorem ChunkK.in (F : Fence) (n : Nat) (h53 : F.fn 53) (hro : F.round = none) (hn : 1 ≤ n) (l Bs Bn : Nat) (A : Option Addr) (c : Nat) (xs : List Int) (w0 : World) (hlen : xs.length ≤ 1000000) (hcap : xs.length ≤ c) (hR : (Kd.int .u8).C w0 A xs.length xs) (J Jx : List (Chk w0) → World → Prop)
    (hY : ∀ pre x W, J pre W → pre.length < (xs.length + 63) / 64 → YieldAt F (n - 1) Try.prog l (encK w0 x) W fun e W' =>
      (e = .returned (.bool true) ∧ J (pre ++ [x]) W' ∧ KpB Bs Bn W W') ∨ (e = .returned (.bool false) ∧ Jx (pre ++ [x]) W'))
    (hJd : ∀ s A, J s A → J s A.drew) (W : World) (hbs : W.heap[Bs]? = some (.cells #[.slice A xs.length c] 36 (0, 0))) (hbn : W.heap[Bn]? = some (.cells #[.int .i64 64] 3 (0, 0))) (h0 : J [] W) :
    CallsIn F n Try.prog 53 #[.func (.yield l) #[] #[], .pointer (some ⟨Bs, 0, none⟩), .pointer (some ⟨Bn, 0, none⟩)] W fun e W' => (∃ v, e = .returned v) ∧
      ((∃ ys, ys.map (fun p => p.1.2) = chunks xs ((xs.length + 63) / 64) ∧ J ys W') ∨ (∃ pre, True ∧ Jx pre W')) := by
  have hu36 := Try.underlying36
  refine callsIn_of_wp Try.func53 rfl h53 ?_ hro
  simp only [Try.ntmps53, List.size_toArray, List.length_cons, List.length_nil, Nat.reduceAdd, Nat.reduceSub, Array.replicate_succ, Array.replicate_zero, List.push_toArray, List.append_toArray, List.nil_append, List.cons_append]
  have HR := Aside0.mk hR
  have HX := Aside0.mk (And.intro hbs hbn)
  have hBs := (blk_cell hbs 0).trans rfl
  have hBn := (blk_cell hbn 0).trans rfl
  clear hR hbs hbn
  gi_wp2
  gi_loopw [4] (fun i wr => ∃ (k : Nat) (pre : List (Chk w0)), k ≤ (xs.length + 63) / 64 ∧ i = .int .i64 ((64 * k : Nat) : Int) ∧ pre.map (fun p => p.1.2) = chunks xs k ∧ J pre wr ∧ KpB Bs Bn W wr)
    (fun i _ => (((xs.length : Int) + 100) - intOf i).toNat)
  case atStart => exact ⟨0, [], Nat.zero_le _, rfl, rfl, h0, KpB.refl _⟩
  case round =>
    obtain ⟨k, pre, hk, rfl, hpre, hJs, hnx⟩ := hrel
    have hBs' := (blk_cell (hnx.1 _ HX.out.1) 0).trans rfl
    have hBn' := (blk_cell (hnx.2 _ HX.out.2) 0).trans rfl
    by_cases hlt : 64 * k < xs.length
    · obtain ⟨ad, rfl, _⟩ := HR.out.2.2 (by omega)
      have hpl : pre.length = k := by have := congrArg List.length hpre; simpa [chunks] using this
      have hCk : (Kd.int .u8).C w0 (some (ad.add (64 * k))) (chunk xs k).length (chunk xs k) ∧ (chunk xs k).length ≤ 64 := by
        refine ⟨?_, by rw [chunk_length]; omega⟩
        have h1 := Kd.C_take HR.out (m := min (64 * k + 64) xs.length) (Nat.min_le_right _ _)
        have h2 := Kd.C_drop h1 (m := 64 * k) (c := 64 * k + 1 + xs.length) (by rw [List.length_take]; omega) (by rw [List.length_take]; omega)
        rw [if_neg (by omega)] at h2
        have e1 : xs.take (min (64 * k + 64) xs.length) = xs.take (64 * k + 64) := by
          rcases Nat.le_total (64 * k + 64) xs.length with h | h
          · rw [Nat.min_eq_left h]
          · rw [Nat.min_eq_right h, List.take_of_length_le (Nat.le_refl _), List.take_of_length_le h]
        rw [e1] at h2
        simpa [chunk, Kd.int, Kd.scalar] using h2
      obtain ⟨x, hx⟩ : ∃ x : Chk w0, x.1 = (some (ad.add (64 * k)), chunk xs k) := ⟨⟨_, hCk⟩, rfl⟩
      obtain ⟨fn, tmps, assign, body, hy, hRr⟩ := hY _ x wr.drew (hJd _ _ hJs) (by rw [hpl]; omega)
      have hcl := chunk_length xs k
      have hx2 : x.1.2 = chunk xs k := by rw [hx]
      have hen : encK w0 x = #[.slice (some (ad.add (64 * k))) (chunk xs k).length (chunk xs k).length] := by unfold encK; rw [hx]
      rw [hen] at hy
      clear hx hen hCk
      have hBs2 : wr.drew.cell? ⟨Bs, 0, none⟩ = some (.slice (some ad) xs.length c) := hBs'
      have hBn2 : wr.drew.cell? ⟨Bn, 0, none⟩ = some (.int .i64 64) := hBn'
      have hif : (if ((xs.length - 64 * k : Nat) : Int) < 64 then ((xs.length - 64 * k : Nat) : Int) else 64) = ((chunk xs k).length : Int) := by split <;> omega
      generalize hLL : (chunk xs k).length = L at *
      generalize hm : 64 * k = m at *
      have p1 : ((m : Nat) : Int) < (xs.length : Int) := by omega
      have p0 : (0 : Int) ≤ ((m : Nat) : Int) := by omega
      gi_wp2
      gi_region
      all_goals rw [← hcl]
      all_goals (have p3 : m + L ≤ xs.length := by omega)
      all_goals (have p4 : 0 < L := by omega)
      all_goals (have p5 : ¬ L = 0 := by omega)
      all_goals (have p6 : ((L : Nat) : Int) ≠ 0 := by omega)
      all_goals (have HL := Aside0.mk hcl)
      all_goals clear hcl hif
      all_goals gi_wp2
      all_goals refine hRr.mono ?_
      all_goals
        rintro e W3 (⟨rfl, hJ3, hk3⟩ | ⟨rfl, hJx3⟩)
        · have hBn3 : W3.cell? ⟨Bn, 0, none⟩ = some (.int .i64 64) := (blk_cell (hk3.2 _ (hnx.2 _ HX.out.2)) 0).trans rfl
          gi_wp2
          go_roundw
          case rel => exact ⟨k + 1, pre ++ [x], by omega, by first | (simp; omega) | simp, by rw [List.map_append, hpre, chunks_succ, List.map_singleton, hx2], hJ3, (hnx.drew).trans hk3⟩
          case measure => simp [intOf]; omega
        · gi_wp2
          refine bodyPost_ret (results_none rfl _ _ _) rfl ?_
          exact ⟨⟨_, rfl⟩, .inr ⟨_, trivial, hJx3⟩⟩
    · gi_wp2
      go_end0
      exact ⟨⟨_, rfl⟩, .inl ⟨_, by rw [hpre, show k = (xs.length + 63) / 64 by omega], hJs⟩⟩
theorem ChunkW.in (F : Fence) (n : Nat) (h46 : F.fn 46) (hro : F.round = none) (a : Option Addr) (len cap : Nat) (w : World) :
    CallsIn F n Try.prog 46 #[.slice a len cap, .int .i64 64] w fun e w' => e = .returned (.func (.func 53) #[] #[.pointer (some ⟨w.heap.size, 0, none⟩), .pointer (some ⟨w.heap.size + 1, 0, none⟩)]) ∧ w' = (w.alloc (.cells #[.slice a len cap] 36)).alloc (.cells #[.int .i64 64] 3) := by
  refine callsIn_of_wp Try.func46 rfl h46 ?_ hro
  simp only [Try.ntmps46, List.size_toArray, List.length_cons, List.length_nil, Nat.reduceAdd, Nat.reduceSub, Array.replicate_succ, Array.replicate_zero, List.push_toArray, List.append_toArray, List.nil_append, List.cons_append]
  gi_wp2
  go_ret
  exact ⟨rfl, rfl⟩
theorem ChunkK.stops (F : Fence) (n : Nat) (h53 : F.fn 53) (hro : F.round = none) (hn : 1 ≤ n) (Bs Bn : Nat) (A : Option Addr) (c : Nat) (xs : List Int) (w0 : World) (hlen : xs.length ≤ 1000000) (hcap : xs.length ≤ c) (hR : (Kd.int .u8).C w0 A xs.length xs) (w : World)
    (hbs : w.heap[Bs]? = some (.cells #[.slice A xs.length c] 36 (0, 0))) (hbn : w.heap[Bn]? = some (.cells #[.int .i64 64] 3 (0, 0))) :
    SeqStopsK F n Try.prog 53 #[.pointer (some ⟨Bs, 0, none⟩), .pointer (some ⟨Bn, 0, none⟩)] (encK w0) (KpB Bs Bn) (fun ys => ys.map (fun p => p.1.2) = chunks xs ((xs.length + 63) / 64)) (fun _ => True) ((xs.length + 63) / 64) w := fun l J Jx W hW hJ _ hY h0 => by
  refine ChunkK.in F n h53 hro hn l Bs Bn A c xs w0 hlen hcap hR J Jx hY (fun s A h => ?_) W (blk_below hbs hW) (blk_below hbn hW) h0
  exact hJ s A A.drew none h ⟨rfl, rfl, rfl, Nat.le_refl _, fun _ _ _ => rfl⟩ (fun r e => by cases e)
end

/-! ### disk_State_put: function 33 -/
section
attribute [local go_sem] Oper.semAt_some
/-! events in a fence -/
section
open Kd
variable {F : Fence} {nF : Nat} {P : Program} {ops : Array Oper} {rest : List Oper} {o : Oper} {a : Act} {Q : Exit → Act → World → Prop}
theorem copy_in {α : Type} {enc : α → Value} {h1 : ∀ x, (enc x).oneCell' = true} (d : α) {w0 W : World} (base : Nat) (hgd : o.guard = none) (s x : Operand) (t t' e : TypeId)
    (ho : o.op = .call { callee := .builtin .copy, args := #[s, x], argTypes := #[t, t'] }) (ht : P.underlying t = some (.slice e)) (hinfo : (P.info? e).map (·.size) = some 1)
    (v : Value) (xs ys : List α) (A : Option Addr) (m c : Nat) (ok : Nat → Prop) (hs : a.eval s = v) (hx : a.eval x = .slice A m c)
    (HO : (scalar enc h1).R e W base ok v xs) (HR : (scalar enc h1).C W A m ys) (HB : Below base w0 W) (hbase : base ≤ W.heap.size)
    (h : ∀ w1, (scalar enc h1).R e w1 base ok v (ys.take (min m xs.length) ++ xs.drop (min m xs.length)) → Below base w0 w1 → W.grownBy w1 v.ownBlock → wpListIn F nF P ops Q rest (a.put o.dst (.int .i64 ((min m xs.length : Nat) : Int))) w1) :
    wpListIn F nF P ops Q (o :: rest) a W := by
  have hR := reads_of_C (enc := enc) (d := d) (h1 := h1) HR
  have hm : ys.length = m := hR.1
  have hown := own_of_R HO
  have fin : ∀ w1, (Builtin.copy_ #[t, t'] o.type #[v, .slice A m c]).run P W = .ok (goInt ((min m xs.length : Nat) : Int)) w1 → (scalar enc h1).R e w1 base ok v (ys.take (min m xs.length) ++ xs.drop (min m xs.length)) → W.grownBy w1 v.ownBlock → wpListIn F nF P ops Q (o :: rest) a W := by
    intro w1 hr hrow hg
    refine wpListIn_plain hgd fun K hK => ?_
    unfold Oper.wpIn
    refine ⟨by simp [Oper.about, ho, resolve, Target.leads, Sem.run_pure], ?_⟩
    rw [Oper.semAt_plain F _ _ (by rw [ho]; intro c hc'; cases hc')]
    simp only [execOp, ho, resolve, invoke, builtin, Sem.run_bind, Sem.run_pure, Result.andThen_ok, List.map_toArray, List.map_cons, List.map_nil, hs, hx, hr]
    exact hK _ _ (h w1 hrow (HB.grown hg hbase (own_base hown)) hg)
  rcases Nat.eq_zero_or_pos (min m xs.length) with h0 | hp
  · obtain ⟨A', c', hv⟩ := own_slice hown
    refine fin W ?_ (by rw [h0, List.take_zero, List.drop_zero, List.nil_append]; exact HO) (World.grownBy.refl W _)
    rw [h0, hv]
    exact run_copy_none W t t' o.type e A' A xs.length c' m c ht hinfo h0
  · obtain ⟨ad, hA, hc⟩ := hR.2.2 (by omega)
    rcases hown.2 with ⟨_, hx0⟩ | ⟨g, cap, cur, hv, hb, hh, hnc, hcm, hcs, htake⟩
    · omega
    have hcs1 : cur.size = cap := by omega
    have hsrc : ∀ j u, (encs enc (ys.take (min m xs.length)))[j]? = some u → W.cell? (ad.add j) = some u := by
      intro j u hu
      have hj : j < (ys.take (min m xs.length)).length := by
        rcases Nat.lt_or_ge j (ys.take (min m xs.length)).length with h | h
        · exact h
        · rw [List.getElem?_eq_none (by rw [encs_length]; exact h)] at hu
          cases hu
      have hjm : j < min m xs.length := by rw [List.length_take] at hj; omega
      rw [encs_get (d := d) _ j hj] at hu
      rw [hc j (by omega), ← hu]
      simp [List.getD_eq_getElem?_getD, hjm]
    have hkl : (encs enc (ys.take (min m xs.length))).length = min m xs.length := by rw [encs_length, List.length_take]; omega
    have hr := run_copy_cells (P := P) W t t' o.type e g 0 xs.length cap ad m c (encs enc (ys.take (min m xs.length))) ht hinfo (by rw [hkl]) hsrc
      (fun j hj => by rw [cell_of_row W g _ cur e (0, 0) hh]; simp; omega) (fun j _ => blk_frozen hh _) (by intro u hu; simp only [encs, List.mem_map] at hu; obtain ⟨q, _, rfl⟩ := hu; exact h1 q)
    obtain ⟨cur', h3, h4, h5⟩ := setCells_row (encs enc (ys.take (min m xs.length))) 0 W cur hh (by rw [hkl]; omega)
    obtain ⟨s1, s2, s3, s4⟩ := setCells_same g (encs enc (ys.take (min m xs.length))) 0 W
    refine fin _ (by rw [hv, hA, hr, hkl]) (R_of_own ?_ HO.1) ⟨s1, s2, s3, by rw [s4]; exact Nat.le_refl _, fun k _ hk => setCells_far _ _ k (fun he => hk (by rw [hv, he]; simp [Value.ownBlock]))⟩
    have hln : (ys.take (min m xs.length) ++ xs.drop (min m xs.length)).length = xs.length := by
      rw [List.length_append, List.length_take, List.length_drop]
      omega
    rw [hln]
    refine ⟨by rw [encs_length, hln, Nat.mul_one], .inr ⟨g, cap, cur', hv, hb, h3, hnc, hcm, by rw [h4, hcs], ?_⟩⟩
    rw [h5, List.take_zero, List.nil_append, hkl, Nat.zero_add, encs_append, Nat.mul_one]
    rw [List.take_append, hkl, List.take_of_length_le (by rw [hkl]; omega)]
    congr 1
    have htk : cur.toList.take xs.length = encs enc xs := by rw [← htake, Nat.mul_one]
    have hd : encs enc (xs.drop (min m xs.length)) = (encs enc xs).drop (min m xs.length) := by simp [encs, List.map_drop]
    rw [hd, ← htk, List.drop_take]
theorem S_append_in {α : Type} (d : Kd α) {w0 W : World} (base : Nat) (hgd : o.guard = none) (s x : Operand) (t e : TypeId) (z : Value) (bytes : Nat)
    (ho : o.op = .call { callee := .builtin .append, args := #[s, x], argTypes := #[t, t] })
    (ht : P.underlying t = some (.slice e)) (hinfo : (P.info? e).map (fun i => (i.zero, i.size, i.bytes)) = some (some z, d.sz, bytes)) (hz : z.cells.size = d.sz) (hs0 : 0 < d.sz) (hb0 : 0 < bytes)
    (v : Value) (xs : List α) (p : α) (cs : List Value) (ok okp : Nat → Prop) (hs : a.eval s = v) (hx : a.eval x = .slice (some ⟨W.heap.size, 0, none⟩) 1 1) (hp : d.M W base okp p cs) (hokp : ∀ k, okp k → ok k ∧ some k ≠ v.ownBlock) (hfresh : ∀ k, W.heap.size ≤ k → ok k)
    (HO : Kd.S d e W base (fun k => ok k ∧ ¬ okp k) v xs) (HB : Below base w0 W) (hbase : base ≤ W.heap.size) (hl : (xs.length + 1) * bytes ≤ 140737488355328)
    (h : ∀ v1 w1, Kd.S d e w1 base ok v1 (xs ++ [p]) → Below base w0 w1 → W.grownBy w1 v.ownBlock → (v1.ownBlock = v.ownBlock ∨ ∃ b, v1.ownBlock = some b ∧ W.heap.size ≤ b) → wpListIn F nF P ops Q rest (a.put o.dst v1) w1) :
    wpListIn F nF P ops Q (o :: rest) a (W.alloc (.cells cs.toArray e)) := by
  obtain ⟨f, hf, hR⟩ := Kd.S_tag HO xs.length okp (fun _ hk h2 => h2.2 hk)
  obtain ⟨h0, inner, hown, hr⟩ := Kd.R_mono hR (fun _ hk => hk.1)
  have hp' := (Kd.tag f d).M_mono (fun k hk => hk) (show (Kd.tag f d).M W base okp (p, xs.length) cs from d.M_mono (fun k hk => ⟨hk, hf k hk⟩) hp)
  have hown1 : W.ownsRow base e d.sz v xs.length inner := by have := hown; rwa [List.length_zipIdx] at this
  obtain ⟨i0, hi, hzz⟩ := Option.map_eq_some_iff.1 hinfo
  simp only [Prod.mk.injEq] at hzz
  obtain ⟨hz0, hz1, hz2⟩ := hzz
  have hlen : xs.length + 1 ≤ 140737488355328 := Nat.le_trans (Nat.le_mul_of_pos_right _ hb0) hl
  have hys : cs.length = d.sz := d.K_len (d.K_of_M hp)
  refine wpListIn_append_own_at (W.alloc (.cells cs.toArray e)) hgd s x t ho base e i0 z d.sz bytes ht hi hz0 hz1 hz2 hz hs0 v xs.length inner hs (hown1.alloc _) ⟨W.heap.size, 0, none⟩ 1 1 cs hx (by rw [hys]; simp)
    (by simpa using World.news_of_block (cs := cs.toArray) (t := e) (fr := (0, 0)) (heap_alloc_new W (.cells cs.toArray e))) (d.K_one (d.K_of_M hp)) (by simp only [maxLen]; omega) hl (by simp; omega) ?_
  intro v1 w1 hown2 hg _ hat
  have hg2 := World.grownBy.trans (World.grownBy_alloc W (.cells cs.toArray e) v.ownBlock) hg
  have hat2 : v1.ownBlock = v.ownBlock ∨ ∃ b, v1.ownBlock = some b ∧ W.heap.size ≤ b := by
    rcases hat with hat | hat
    · exact .inl hat
    · exact .inr ⟨_, hat, by simp⟩
  have hRd := Kd.R_appended (d := Kd.tag f d) (e := e) h0 hr hp' hokp hfresh (by rw [List.length_zipIdx]; exact hown2) hg2 hat2
  rw [← Kd.zip_snoc] at hRd
  exact h v1 w1 ⟨f, hRd⟩ ((HB.alloc hbase _).grown hg (by simp; omega) (own_base hown1)) hg2 hat2
theorem gate_in {b : Builtin} {xs : Array Operand} {ts : Array TypeId} {W : World} (_ho : o.op = .call { callee := .builtin b, args := xs, argTypes := ts }) (h : wpListIn F nF P ops Q (o :: rest) a W) : wpListIn F nF P ops Q (o :: rest) a W := h
/-- A row of one's own abides the turn of what is no cells. -/
theorem S_own_abides {α : Type} {d : Kd α} {e base : Nat} {ok : Nat → Prop} {A B : World} {v : Value} {xs : List α} {row : Option Nat} (h : Kd.S d e A base ok v xs) (hg : A.grownBy B row) (hr : ∀ r, row = some r → ∃ o : Obj, A.heap[r]? = some o ∧ o.isCells = false) : Kd.S d e B base ok v xs :=
  Kd.S_mono (Kd.S_grown (Kd.S_bound h) hg (fun k hk he => by
    obtain ⟨q, _, cells, hc⟩ := hk.2.2.2
    obtain ⟨o, ho, hno⟩ := hr k he.symm
    rw [hc] at ho
    cases ho
    cases hno)) (fun _ hk => hk.1)
end
def padB (x : List Int) : List Int := x.take (min x.length 64) ++ (List.replicate 64 (0 : Int)).drop (min x.length 64)
def wrs (i : Int) (xs : List (List Int)) : List S62 := xs.zipIdx.map fun p => ⟨i + p.2, padB p.1⟩
theorem wrs_snoc (i : Int) (xs : List (List Int)) (x : List Int) : wrs i (xs ++ [x]) = wrs i xs ++ [⟨i + xs.length, padB x⟩] := by
  unfold wrs
  rw [Kd.zip_snoc, List.map_append, List.map_singleton]
theorem mk36 (w : World) : (Instr.makeSlice 36 (.int .i64 64) (.int .i64 64)).run Try.prog w = .ok (.slice (some ⟨w.heap.size, 0, none⟩) 64 64) (w.alloc (.cells (Array.replicate 64 (.int .u8 0)) 5)) := by kernel_rfl
theorem make64 (W : World) (base : Nat) (hb : base ≤ W.heap.size) : (Kd.int .u8).R 5 (W.alloc (.cells (Array.replicate 64 (.int .u8 0)) 5)) base (fun _ => True) (.slice (some ⟨W.heap.size, 0, none⟩) 64 64) (List.replicate 64 (0 : Int)) := by
  obtain ⟨i0, hi, hzz⟩ := Option.map_eq_some_iff.1 info5
  simp only [Prod.mk.injEq] at hzz
  obtain ⟨hz0, hz1, hz2⟩ := hzz
  obtain ⟨w', hr, ho, _⟩ := run_makeSlice_full (P := Try.prog) (w := W) base 36 5 i0 (.int .u8 0) 1 Try.underlying36 hi hz0 hz1 .i64 .i64 64 (by omega) (by rw [hz2]; omega) (by simp only [maxLen]; omega) hb
  have hr2 := (mk36 W).symm.trans hr
  injection hr2 with _ e2
  rw [e2]
  have e3 : (madeCells (Value.int .u8 0).cells (64 * 1)).toList = encs (Value.int .u8) (List.replicate 64 (0 : Int)) := by kernel_rfl
  rw [e3] at ho
  exact Kd.R_of_own (h1 := fun _ => rfl) (by rw [List.length_replicate]; exact ho) (fun _ _ => trivial)
set_option maxRecDepth 100000 in
set_option maxHeartbeats 8000000 in
theorem PutF.in (F : Fence) (n : Nat) (h33 : F.fn 33) (h45 : F.fn 45) (h46 : F.fn 46) (h53 : F.fn 53) (hro : F.round = none) (hn : 4 ≤ n) (hW : ∀ {m f args w R}, Calls Try.prog f args w R → CallsIn F m Try.prog f args w R)
    (A0 : Option Addr) (c0 : Nat) (l0 : List (List Int)) (A1 : Option Addr) (c1 : Nat) (l1 : List S62) (i : Int) (A2 : Option Addr) (c2 : Nat) (xs : List Int) (w : World)
    (hr0 : Kd.C (Kd.slice 5 (Kd.int .u8)) w A0 l0.length l0) (hr1 : Kd.C k62 w A1 l1.length l1) (hr2 : Kd.C (Kd.int .u8) w A2 xs.length xs) (hc2 : xs.length ≤ c2) (hv : disk_Check.v l0 l1 = 0) (hi0 : 0 ≤ i) (hi1 : i ≤ 2048) (hx : xs.length ≤ 1000000) :
    CallsIn F n Try.prog 33 #[.agg #[.slice A0 l0.length c0, .slice A1 l1.length c1], .int .i64 i, .slice A2 xs.length c2] w fun e w' => ∃ v0 v1 : Value, e = .returned (.agg #[v0, v1]) ∧ Kd.S (Kd.slice 5 (Kd.int .u8)) 36 w' w.heap.size (fun _ => True) v0 l0 ∧ Kd.S k62 62 w' w.heap.size (fun _ => True) v1 (l1 ++ wrs i (chunks xs ((xs.length + 63) / 64))) ∧ Below w.heap.size w w' := by
  have hu62 := Try.underlying62
  have hu28 := Try.underlying28
  have hu30 := Try.underlying30
  have hmk := mk36
  have h1 : 1 ≤ n := by omega
  have HQ := Aside0.mk (check0 hv)
  have HR := Aside0.mk (And.intro hr0 (And.intro hr1 (And.intro hr2 hc2)))
  have hk1 := blk_alloc (blk_alloc (heap_alloc_new (w.alloc (.cells #[.slice A0 l0.length c0, .slice A1 l1.length c1] 30)) (.cells #[.int .i64 i] 3)) (.cells #[.slice none 0 0, .slice none 0 0] 30)) (.cells #[] 0)
  refine callsIn_of_wp_marks Try.func33 rfl h33 ?_ hro
  simp only [Try.ntmps33, List.size_toArray, List.length_cons, List.length_nil, Nat.reduceAdd, Nat.reduceSub, Array.replicate_succ, Array.replicate_zero, List.push_toArray, List.append_toArray, List.nil_append, List.cons_append]
  clear hr0 hr1 hr2 hc2 hv hk1
  have hk1 := blk_alloc (show (((w.alloc (.cells #[.slice A0 l0.length c0, .slice A1 l1.length c1] 30)).alloc (.cells #[.int .i64 i] 3)).heap[w.heap.size + 1]? = some (.cells #[.int .i64 i] 3 (0, 0))) from by have := heap_alloc_new (w.alloc (.cells #[.slice A0 l0.length c0, .slice A1 l1.length c1] 30)) (.cells #[.int .i64 i] 3); simpa using this) (.cells #[.slice none 0 0, .slice none 0 0] 30)
  have hk2 : (((w.alloc (.cells #[.slice A0 l0.length c0, .slice A1 l1.length c1] 30)).alloc (.cells #[.int .i64 i] 3)).alloc (.cells #[.slice none 0 0, .slice none 0 0] 30)).heap[w.heap.size + 1 + 1]? = some (.cells #[.slice none 0 0, .slice none 0 0] 30 (0, 0)) := by have := heap_alloc_new ((w.alloc (.cells #[.slice A0 l0.length c0, .slice A1 l1.length c1] 30)).alloc (.cells #[.int .i64 i] 3)) (.cells #[.slice none 0 0, .slice none 0 0] 30); simpa using this
  have HB := Aside0.mk (below_alloc (below_alloc (below_alloc (Below.refl w.heap.size w) (.cells #[.slice A0 l0.length c0, .slice A1 l1.length c1] 30)) (.cells #[.int .i64 i] 3)) (.cells #[.slice none 0 0, .slice none 0 0] 30))
  have K1 := Aside0.mk hk1
  have K2 := Aside0.mk hk2
  clear hk1 hk2
  gi_wp2
  refine (hW (disk_State_clone.calls A0 c0 l0 A1 c1 l1 _ (Kd.C_below HR.out.1 HB.out) (Kd.C_below HR.out.2.1 HB.out) (by have := HQ.out; omega) (by have := HQ.out; omega) (fun x hx => by have := HQ.out.2.2.2.1 x hx; omega) (fun x hx => by have := (HQ.out.2.2.2.2 x hx).2.2; omega))).mono ?_
  rintro e w2 ⟨v0, v1, N, rfl, hs0, hs1, hb⟩
  obtain ⟨A3, c3, rfl⟩ := Kd.S_slice hs0
  obtain ⟨A4, c4, rfl⟩ := Kd.S_slice hs1
  have S0 := Aside0.mk (Kd.S_mono (Kd.S_lower hs0 HB.out.size) (fun _ _ => trivial))
  have S1 := Aside0.mk (Kd.S_mono (Kd.S_lower hs1 HB.out.size) (fun _ _ => trivial))
  replace K1 := Aside0.mk (blk_below K1.out hb)
  replace K2 := Aside0.mk (blk_below K2.out hb)
  have G2 := Aside0.mk (show w.heap.size + 3 ≤ w2.heap.size from Nat.succ_le_of_lt (blk_lt K2.out))
  replace HB := Aside0.mk (HB.out.trans (hb.mono HB.out.size))
  clear hb hs0 hs1
  gi_wp2_with (gi_at_call 46; refine (ChunkW.in F (n - 1) h46 hro _ _ _ _).mono ?_; rintro e w' ⟨rfl, rfl⟩)
  have K7 := Aside0.mk (blk_alloc (blk_alloc (heap_alloc_new w2 (.cells #[.slice A3 l0.length c3, .slice A4 l1.length c4] 30)) (.cells #[.slice A2 xs.length c2] 36)) (.cells #[.int .i64 64] 3))
  have K8 := Aside0.mk (blk_alloc (show ((w2.alloc (.cells #[.slice A3 l0.length c3, .slice A4 l1.length c4] 30)).alloc (.cells #[.slice A2 xs.length c2] 36)).heap[w2.heap.size + 1]? = some (.cells #[.slice A2 xs.length c2] 36 (0, 0)) from by have := heap_alloc_new (w2.alloc (.cells #[.slice A3 l0.length c3, .slice A4 l1.length c4] 30)) (.cells #[.slice A2 xs.length c2] 36); simpa using this) (.cells #[.int .i64 64] 3))
  have K9 := Aside0.mk (show (((w2.alloc (.cells #[.slice A3 l0.length c3, .slice A4 l1.length c4] 30)).alloc (.cells #[.slice A2 xs.length c2] 36)).alloc (.cells #[.int .i64 64] 3)).heap[w2.heap.size + 1 + 1]? = some (.cells #[.int .i64 64] 3 (0, 0)) from by have := heap_alloc_new ((w2.alloc (.cells #[.slice A3 l0.length c3, .slice A4 l1.length c4] 30)).alloc (.cells #[.slice A2 xs.length c2] 36)) (.cells #[.int .i64 64] 3); simpa using this)
  replace K1 := Aside0.mk (blk_alloc (blk_alloc (blk_alloc K1.out (.cells #[.slice A3 l0.length c3, .slice A4 l1.length c4] 30)) (.cells #[.slice A2 xs.length c2] 36)) (.cells #[.int .i64 64] 3))
  replace K2 := Aside0.mk (blk_alloc (blk_alloc (blk_alloc K2.out (.cells #[.slice A3 l0.length c3, .slice A4 l1.length c4] 30)) (.cells #[.slice A2 xs.length c2] 36)) (.cells #[.int .i64 64] 3))
  replace S0 := Aside0.mk (Kd.S_alloc (Kd.S_alloc (Kd.S_alloc S0.out (.cells #[.slice A3 l0.length c3, .slice A4 l1.length c4] 30)) (.cells #[.slice A2 xs.length c2] 36)) (.cells #[.int .i64 64] 3))
  replace S1 := Aside0.mk (Kd.S_alloc (Kd.S_alloc (Kd.S_alloc S1.out (.cells #[.slice A3 l0.length c3, .slice A4 l1.length c4] 30)) (.cells #[.slice A2 xs.length c2] 36)) (.cells #[.int .i64 64] 3))
  replace HB := Aside0.mk (below_alloc (below_alloc (below_alloc HB.out (.cells #[.slice A3 l0.length c3, .slice A4 l1.length c4] 30)) (.cells #[.slice A2 xs.length c2] 36)) (.cells #[.int .i64 64] 3))
  have hsz : (((w2.alloc (.cells #[.slice A3 l0.length c3, .slice A4 l1.length c4] 30)).alloc (.cells #[.slice A2 xs.length c2] 36)).alloc (.cells #[.int .i64 64] 3)).heap.size = w2.heap.size + 3 := by simp
  generalize ((w2.alloc (.cells #[.slice A3 l0.length c3, .slice A4 l1.length c4] 30)).alloc (.cells #[.slice A2 xs.length c2] 36)).alloc (.cells #[.int .i64 64] 3) = W0 at *
  have G := G2.out
  generalize w2.heap.size = b7 at *
  refine wpIn_rangeFunc_ownG hro h1 (gf := 53) (lb := #[.pointer (some ⟨b7 + 1, 0, none⟩), .pointer (some ⟨b7 + 1 + 1, 0, none⟩)]) rfl h53 (enters_of Try.func53 (by kernel_rfl) rfl)
    (ChunkK.stops F (n - 1) h53 hro (by omega) (b7 + 1) (b7 + 1 + 1) A2 c2 xs w hx HR.out.2.2.2 HR.out.2.2.1 W0 K8.out K9.out) KpB.trans (fun W l o o' hl _ _ _ => KpB.put (by omega) (by omega)) (Below.refl _ _) (fun _ => rfl)
    (fun pre W => (W.heap[w.heap.size + 1]? = some (.cells #[.int .i64 (i + (pre.length : Int))] 3 (0, 0)) ∧ W.heap[w.heap.size + 1 + 1]? = some (.cells #[.slice none 0 0, .slice none 0 0] 30 (0, 0)) ∧ W.heap[b7 + 1]? = some (.cells #[.slice A2 xs.length c2] 36 (0, 0)) ∧ W.heap[b7 + 1 + 1]? = some (.cells #[.int .i64 64] 3 (0, 0)) ∧ (∃ v4, W.heap[b7]? = some (.cells #[.slice A3 l0.length c3, v4] 30 (0, 0)) ∧ Kd.S k62 62 W w.heap.size (fun _ => True) v4 (l1 ++ wrs i (pre.map (fun p => p.1.2)))) ∧ Kd.S (Kd.slice 5 (Kd.int .u8)) 36 W w.heap.size (fun _ => True) (.slice A3 l0.length c3) l0) ∧ Below w.heap.size w W)
    (fun _ _ _ => False)
    (OwnFrom.and (Own.from (fun s A B row hs hg hr => by
      obtain ⟨q1, q2, q3, q4, ⟨v4, q5, q6⟩, q7⟩ := hs
      exact ⟨blkc_own _ _ _ () A B row q1 hg hr, blkc_own _ _ _ () A B row q2 hg hr, blkc_own _ _ _ () A B row q3 hg hr, blkc_own _ _ _ () A B row q4 hg hr, ⟨v4, blkc_own _ _ _ () A B row q5 hg hr, S_own_abides q6 hg hr⟩, S_own_abides q7 hg hr⟩) _) (ownFrom_below (Nat.le_refl _) (by omega)))
    (fun _ _ _ _ _ hs _ _ => hs)
    ⟨⟨by simpa using K1.out, K2.out, K8.out, K9.out, ⟨_, K7.out, by simpa [wrs] using S1.out⟩, S0.out⟩, HB.out⟩
    (fun x => { tmps := #[.agg #[.slice A0 l0.length c0, .slice A1 l1.length c1], .int .i64 i, .slice A2 xs.length c2, .pointer (some ⟨w.heap.size, 0, none⟩), .pointer (some ⟨w.heap.size + 1, 0, none⟩), undef, .pointer (some ⟨w.heap.size + 1 + 1, 0, none⟩), .pointer (some ⟨b7, 0, none⟩), .slice x.1.1 x.1.2.length x.1.2.length, undef, .agg #[.slice A0 l0.length c0, .slice A1 l1.length c1], .agg #[.slice A3 l0.length c3, .slice A4 l1.length c4], .slice A2 xs.length c2, .func (.func 53) #[] #[.pointer (some ⟨b7 + 1, 0, none⟩), .pointer (some ⟨b7 + 1 + 1, 0, none⟩)], .slice x.1.1 x.1.2.length x.1.2.length, undef, undef, undef, undef, undef, undef, undef, undef, undef, undef, undef, undef, undef, undef, undef], defers := [] }) ?assign ?body ?done ?stop
  case assign =>
    intro l x W K hK
    gi_wp2
    exact hK
  case body =>
    rintro l pre x W ⟨⟨b1, b2, bs, bn, ⟨v4, bt, hc⟩, hs⟩, hBW⟩ hlt
    obtain ⟨Ax, hAx⟩ : ∃ a, x.1.1 = a := ⟨_, rfl⟩
    obtain ⟨xl, hxl⟩ : ∃ a, x.1.2 = a := ⟨_, rfl⟩
    obtain ⟨hxC, hx64⟩ := x.2
    rw [hAx, hxl] at hxC
    rw [hxl] at hx64
    rw [hAx, hxl]
    have HXL := Aside0.mk hxl
    clear hAx hxl
    generalize hcl : l1 ++ wrs i (pre.map (fun p => p.1.2)) = cl at hc
    have HCL := Aside0.mk hcl
    clear hcl
    obtain ⟨A5, c5, rfl⟩ := Kd.S_slice hc
    have Z := Aside0.mk (And.intro b1 (And.intro b2 (And.intro bs (And.intro bn (And.intro bt (And.intro hc hs))))))
    have ZB := Aside0.mk hBW
    have ZX := Aside0.mk hxC
    have ZL := Aside0.mk (And.intro hlt hx64)
    clear b1 b2 bs bn bt hc hs hBW hxC hx64 hlt
    gi_wp2_with ((with_reducible refine gate_in (b := .copy) (xs := #[.tmp 16, .tmp 17]) rfl ?_); refine Aside0.out ?_)
    refine Aside0.mk ?_
    refine copy_in (enc := Value.int .u8) (h1 := fun _ => rfl) (0 : Int) (w0 := w) w.heap.size rfl (.tmp 16) (.tmp 17) 36 36 5 rfl Try.underlying36 (by kernel_rfl) (.slice (some ⟨W.heap.size, 0, none⟩) 64 64) (List.replicate 64 0) xl Ax xl.length xl.length (fun _ => True) rfl rfl (make64 W w.heap.size ZB.out.size) (Kd.C_below ZX.out (below_alloc ZB.out _)) (below_alloc ZB.out _) (by have := ZB.out.size; simp; omega) ?_
    intro w5 ho hb hg
    obtain ⟨b1, b2, bs, bn, bt, hc, hs⟩ := Z.out
    have hBW := ZB.out
    have hne : ∀ k, k < W.heap.size → some k ≠ (Value.slice (some ⟨W.heap.size, 0, none⟩) 64 64).ownBlock := fun k hk e => by
      have : k = W.heap.size := by simpa [Value.ownBlock] using e
      omega
    have d1 := blk_grown (blk_alloc b1 (.cells (Array.replicate 64 (.int .u8 0)) 5)) hg (hne _ (blk_lt b1))
    have d2 := blk_grown (blk_alloc b2 (.cells (Array.replicate 64 (.int .u8 0)) 5)) hg (hne _ (blk_lt b2))
    have ds := blk_grown (blk_alloc bs (.cells (Array.replicate 64 (.int .u8 0)) 5)) hg (hne _ (blk_lt bs))
    have dn := blk_grown (blk_alloc bn (.cells (Array.replicate 64 (.int .u8 0)) 5)) hg (hne _ (blk_lt bn))
    have dt := blk_grown (blk_alloc bt (.cells (Array.replicate 64 (.int .u8 0)) 5)) hg (hne _ (blk_lt bt))
    have ec := Kd.S_grown (Kd.S_alloc (Kd.S_mono (Kd.S_bound hc) (ok' := fun k => True ∧ k < W.heap.size) (fun k hk => ⟨trivial, hk.2.2.1⟩)) (.cells (Array.replicate 64 (.int .u8 0)) 5)) hg (fun k hk => hne k hk.2)
    have es := Kd.S_grown (Kd.S_alloc (Kd.S_mono (Kd.S_bound hs) (ok' := fun k => True ∧ k < W.heap.size) (fun k hk => ⟨trivial, hk.2.2.1⟩)) (.cells (Array.replicate 64 (.int .u8 0)) 5)) hg (fun k hk => hne k hk.2)
    have hrow : (Kd.int .u8).R 5 w5 w.heap.size (fun k => k = W.heap.size) (.slice (some ⟨W.heap.size, 0, none⟩) 64 64) (padB xl) := Kd.R_mono (Kd.R_tight rfl (by rw [List.length_replicate] at ho; exact ho)) (fun k hk => by simpa [Value.ownBlock] using hk)
    have hK1 : KeepsOthers W w5 := (KeepsOthers.alloc W _).trans (KeepsOthers.of_grownBy hg (fun j o hj hjo => by
      have : j = W.heap.size := by simpa [Value.ownBlock] using hj.symm
      subst this
      rw [heap_alloc_new] at hjo
      cases hjo
      rfl))
    have hBW5 : Below w.heap.size w w5 := hb
    have hpl : (pre.map (fun p => p.1.2)).length = pre.length := List.length_map _
    obtain ⟨_, g2, _⟩ := ZB.out
    clear hb hg hne hc hs b1 b2 bs bn bt ho
    have y1 := (blk_cell d1 0).trans rfl
    have yt0 := (blk_cell dt 0).trans rfl
    have yt1 := (blk_cell dt 1).trans rfl
    have Z5 := Aside0.mk (And.intro d1 (And.intro d2 (And.intro ds (And.intro dn (And.intro dt (And.intro ec (And.intro es hrow)))))))
    have ZK := Aside0.mk (And.intro hK1 hBW5)
    clear d1 d2 ds dn dt ec es hrow hK1 hBW5 hBW hpl
    gi_wp2_with (gi_at_builtin; refine Aside0.out ?_)
    refine Aside0.mk ?_
    obtain ⟨d1, d2, ds, dn, dt, ec, es, hrow⟩ := Z5.out
    have hgt : ∃ cells, w5.heap[W.heap.size]? = some (.cells cells 5 (0, 0)) := Kd.R_typed hrow W.heap.size rfl
    have hneg : some W.heap.size ≠ (Value.slice A5 cl.length c5).ownBlock := by
      obtain ⟨cells, hcl⟩ := hgt
      exact Kd.S_ne ec hcl (by decide)
    refine S_append_in k62 (w0 := w) w.heap.size rfl (.tmp 20) (.tmp 24) 28 62 (.agg #[(.int .i64 0), (.slice none 0 0)]) 32 rfl Try.underlying28 info62 rfl (by decide) (by omega) (.slice A5 cl.length c5) cl (⟨i + (pre.length : Int), padB xl⟩ : S62) [.int .i64 (i + (pre.length : Int)), .slice (some ⟨W.heap.size, 0, none⟩) 64 64] (fun _ => True) (fun k => k = W.heap.size) rfl rfl (k62_mkM _ _ _ ⟨i + (pre.length : Int), padB xl⟩ hrow) (fun k hk => ⟨trivial, by rw [hk]; exact hneg⟩) (fun _ _ => trivial) (Kd.S_mono ec (fun k hk => ⟨trivial, by omega⟩)) ZK.out.2 ZK.out.2.size ?len ?_
    case len =>
      have hl : (wrs i (pre.map (fun p => p.1.2))).length = pre.length := by simp [wrs]
      have := HQ.out.2.2.1
      have := ZL.out.1
      rw [← HCL.out, List.length_append, hl]
      omega
    intro v6 w6 hS hb6 hg6 _
    have hne6 : ∀ {b t cs}, w5.heap[b]? = some (.cells cs t (0, 0)) → (62 : Nat) ≠ t → some b ≠ (Value.slice A5 cl.length c5).ownBlock := fun h1 h2 => Kd.S_ne ec h1 h2
    have f1 := blk_grown d1 hg6 (hne6 d1 (by decide))
    have f2 := blk_grown d2 hg6 (hne6 d2 (by decide))
    have fs := blk_grown ds hg6 (hne6 ds (by decide))
    have fn := blk_grown dn hg6 (hne6 dn (by decide))
    have ft := blk_grown dt hg6 (hne6 dt (by decide))
    have fS := Kd.S_over' es (Kd.S_typed ec) (by decide) hg6
    have hK6 := ZK.out.1.trans (KeepsOthers.of_grownBy hg6 (fun j o hj hjo => by
      obtain ⟨cells, hc⟩ := Kd.S_typed ec j hj
      rw [hc] at hjo
      cases hjo
      rfl))
    obtain ⟨A6, c6, rfl⟩ := Kd.S_slice hS
    clear hne6 hneg hgt hg6 ec es hrow d1 d2 ds dn dt
    have z1 := (blk_cell f1 0).trans rfl
    have z1f := blk_frozen f1 0
    have zt1 := (blk_cell ft 1).trans rfl
    have ztf := blk_frozen ft 1
    have hnb : w.heap.size + 1 ≠ b7 := by omega
    have hnb' : b7 ≠ w.heap.size + 1 := by omega
    have hw : wrap64 (i + (pre.length : Int) + 1) = i + (pre.length : Int) + 1 := by
      have := ZL.out.1
      unfold wrap64
      omega
    have Z6 := Aside0.mk (And.intro f1 (And.intro f2 (And.intro fs (And.intro fn (And.intro ft (And.intro fS (And.intro hS (And.intro hb6 hK6))))))))
    clear f1 f2 fs fn ft fS hS hb6 hK6 y1 yt0 yt1
    gi_wp2
    obtain ⟨f1, f2, fs, fn, ft, fS, hS, hb6, hK6⟩ := Z6.out
    have e6 : (cl ++ [(⟨i + (pre.length : Int), padB xl⟩ : S62)]).length = cl.length + 1 := by simp
    rw [e6] at hS
    have m1 := blk_far f1 hnb (.slice A6 (cl.length + 1) c6) (p := ⟨b7, 1, none⟩)
    have mt := blk_put ft 1 (.slice A6 (cl.length + 1) c6) (cs' := #[.slice A3 l0.length c3, .slice A6 (cl.length + 1) c6]) rfl
    have m2 := blk_far f2 (show w.heap.size + 1 + 1 ≠ b7 by omega) (.slice A6 (cl.length + 1) c6) (p := ⟨b7, 1, none⟩)
    have ms := blk_far fs (show b7 + 1 ≠ b7 by omega) (.slice A6 (cl.length + 1) c6) (p := ⟨b7, 1, none⟩)
    have mn := blk_far fn (show b7 + 1 + 1 ≠ b7 by omega) (.slice A6 (cl.length + 1) c6) (p := ⟨b7, 1, none⟩)
    have k1 := blk_put m1 0 (.int .i64 (i + (pre.length : Int) + 1)) (cs' := #[.int .i64 (i + (pre.length : Int) + 1)]) rfl
    have kt := blk_far mt hnb' (.int .i64 (i + (pre.length : Int) + 1)) (p := ⟨w.heap.size + 1, 0, none⟩)
    have k2 := blk_far m2 (show w.heap.size + 1 + 1 ≠ w.heap.size + 1 by omega) (.int .i64 (i + (pre.length : Int) + 1)) (p := ⟨w.heap.size + 1, 0, none⟩)
    have ks := blk_far ms (show b7 + 1 ≠ w.heap.size + 1 by omega) (.int .i64 (i + (pre.length : Int) + 1)) (p := ⟨w.heap.size + 1, 0, none⟩)
    have kn := blk_far mn (show b7 + 1 + 1 ≠ w.heap.size + 1 by omega) (.int .i64 (i + (pre.length : Int) + 1)) (p := ⟨w.heap.size + 1, 0, none⟩)
    have e5 : i + ((pre ++ [x]).length : Int) = i + (pre.length : Int) + 1 := by simp; omega
    have e7 : l1 ++ wrs i ((pre ++ [x]).map (fun p => p.1.2)) = cl ++ [(⟨i + (pre.length : Int), padB xl⟩ : S62)] := by
      rw [List.map_append, List.map_singleton, wrs_snoc, ← List.append_assoc, HCL.out, HXL.out, List.length_map]
    refine ⟨(hK6.trans ((KeepsOthers.setCell _ _ _).trans (KeepsOthers.setCell _ _ _))).from _, ⟨fun o ho => ?_, fun o ho => ?_⟩, ⟨?_, k2, ks, kn, ⟨_, kt, ?_⟩, ?_⟩, below_set (below_set hb6 (show w.heap.size ≤ b7 by omega)) (show w.heap.size ≤ w.heap.size + 1 by omega)⟩
    · exact Option.some.inj (Z.out.2.2.1.symm.trans ho) ▸ ks
    · exact Option.some.inj (Z.out.2.2.2.1.symm.trans ho) ▸ kn
    · rw [e5]; exact k1
    · rw [e7]; exact Kd.S_set (Kd.S_set hS ft (by decide) 1 _) m1 (by decide) 0 _
    · exact Kd.S_mono (Kd.S_set (Kd.S_set fS ft (by decide) 1 _) m1 (by decide) 0 _) (fun _ _ => trivial)
  case done =>
    rintro D ys W hD hys ⟨⟨b1, b2, bs, bn, ⟨v4, bt, hc⟩, hs⟩, hBW⟩ hK
    rw [hys] at hc
    generalize hcl : l1 ++ wrs i (chunks xs ((xs.length + 63) / 64)) = cl at hc
    have HCL := Aside0.mk hcl
    clear hcl
    obtain ⟨A5, c5, rfl⟩ := Kd.S_slice hc
    have yt0 := (blk_cell bt 0).trans rfl
    have yt1 := (blk_cell bt 1).trans rfl
    have y20 := (blk_cell b2 0).trans rfl
    have y21 := (blk_cell b2 1).trans rfl
    have f20 := blk_frozen b2 0
    have f21 := blk_frozen b2 1
    have Z := Aside0.mk (And.intro b2 (And.intro hc (And.intro hs (And.intro hBW hK))))
    clear b1 b2 bs bn bt hc hs hBW hK
    gi_wp2
    obtain ⟨b2, hc, hs, hBW, hK⟩ := Z.out
    have q0 := blk_put b2 0 (.slice A3 l0.length c3) (cs' := #[.slice A3 l0.length c3, .slice none 0 0]) rfl
    have q1 := blk_put q0 1 (.slice A5 cl.length c5) (cs' := #[.slice A3 l0.length c3, .slice A5 cl.length c5]) rfl
    have hs2 := Kd.S_set (Kd.S_set hs b2 (by decide) 0 (.slice A3 l0.length c3)) q0 (by decide) 1 (.slice A5 cl.length c5)
    have hc2 := Kd.S_set (Kd.S_set hc b2 (by decide) 0 (.slice A3 l0.length c3)) q0 (by decide) 1 (.slice A5 cl.length c5)
    have hb2 := below_set (below_set hBW (g := w.heap.size + 1 + 1) (j := 0) (v := .slice A3 l0.length c3) (show w.heap.size ≤ w.heap.size + 1 + 1 by omega)) (g := w.heap.size + 1 + 1) (j := 1) (v := .slice A5 cl.length c5) (show w.heap.size ≤ w.heap.size + 1 + 1 by omega)
    have hK' := ((KeepsOthers.setCell W ⟨w.heap.size + 1 + 1, 0, none⟩ (.slice A3 l0.length c3)).trans (KeepsOthers.setCell _ ⟨w.heap.size + 1 + 1, 1, none⟩ (.slice A5 cl.length c5))).same D _ hK rfl
    have hrw : ∀ r, (some D : Option Nat) = some r → ∃ o : Obj, ((W.setCell ⟨w.heap.size + 1 + 1, 0, none⟩ (.slice A3 l0.length c3)).setCell ⟨w.heap.size + 1 + 1, 1, none⟩ (.slice A5 cl.length c5)).heap[r]? = some o ∧ o.isCells = false := fun r e => by cases e; exact ⟨_, hK', rfl⟩
    refine ⟨by simp, .inl ⟨_, _, rfl, run_takeDeferred hK', ?_⟩⟩
    refine ⟨_, results_cell_row rfl _ _ (w.heap.size + 1 + 1) 30 #[.slice A3 l0.length c3, .slice A5 cl.length c5] (0, 0) _ rfl (blkc_own _ _ _ () _ _ _ q1 (grownBy_putObj' _ D (.deferred none)) hrw) Try.underlying30 rfl (by kernel_rfl), _, _, rfl, S_own_abides hs2 (grownBy_putObj' _ D (.deferred none)) hrw, ?_, hb2.trans (belowK_b (w := w) (Nat.le_refl _) _ D _ _ (by omega) hK' rfl rfl)⟩
    rw [HCL.out]
    exact S_own_abides hc2 (grownBy_putObj' _ D (.deferred none)) hrw
  case stop =>
    rintro D c pre W _ _ h _
    exact h.elim
def disk_State_put.f (l0 : List (List Int)) (l1 : List S62) (i : Int) (xs : List Int) : Option (List (List Int) × List S62) :=
  if disk_Check.v l0 l1 = 0 ∧ 0 ≤ i ∧ i ≤ 2048 ∧ xs.length ≤ 1000000 then some (l0, l1 ++ wrs i (chunks xs ((xs.length + 63) / 64))) else none
theorem disk_State_put.calls (A0_0 : Option Addr) (c0_0 : Nat) (l0_0 : List (List Int)) (A0_1 : Option Addr) (c0_1 : Nat) (l0_1 : List S62) (a1 : Int) (A2 : Option Addr) (c2 : Nat) (l2 : List Int) (r1 : List (List Int)) (r2 : List S62) (w : World) (hr0_0 : Kd.C (Kd.slice 5 (Kd.int .u8)) w A0_0 l0_0.length l0_0) (hc0_0 : l0_0.length ≤ c0_0) (hr0_1 : Kd.C k62 w A0_1 l0_1.length l0_1) (hc0_1 : l0_1.length ≤ c0_1) (hr2 : Kd.C (Kd.int .u8) w A2 l2.length l2) (hc2 : l2.length ≤ c2) (h : disk_State_put.f l0_0 l0_1 a1 l2 = some (r1, r2)) :
    Calls Try.prog 33 #[.agg #[.slice A0_0 l0_0.length c0_0, .slice A0_1 l0_1.length c0_1], .int .i64 a1, .slice A2 l2.length c2] w fun e w' => ∃ v0_ v1_ : Value, e = .returned (.agg #[v0_, v1_]) ∧ Kd.S (Kd.slice 5 (Kd.int .u8)) 36 w' w.heap.size (fun _ => True) v0_ r1 ∧ Kd.S k62 62 w' w.heap.size (fun _ => True) v1_ r2 ∧ Below w.heap.size w w' := by
  unfold disk_State_put.f at h
  split at h
  · rename_i hq
    injection h with h
    injection h with h1 h2
    subst h1 h2
    exact (callsIn_wide (n := 6)).1 (PutF.in Fence.wide 6 trivial trivial trivial trivial rfl (by omega) (fun h => callsIn_wide.2 h) A0_0 c0_0 l0_0 A0_1 c0_1 l0_1 a1 A2 c2 l2 w hr0_0 hr0_1 hr2 hc2 hq.1 hq.2.1 hq.2.2.1 hq.2.2.2)
  · cases h
end

end Go.Proofs.Ytbohhjhehjkliaa.T
