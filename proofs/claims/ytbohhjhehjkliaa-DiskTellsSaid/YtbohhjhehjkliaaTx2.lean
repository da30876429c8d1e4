/- This text tells functions of the seat as plain functions, with their contracts, as the machine's calls meet them. -/
import Derived.Test.YtbohhjhehjkliaaTx0
import Derived.Test.YtbohhjhehjkliaaTx1
namespace Go.Proofs.Ytbohhjhehjkliaa.T
open Go.RowKit Go.Proofs.YtbohhjhehjkliaaW.PrintWords Go.Proofs.YtbohhjhehjkliaaW.PrintLast Go.Proofs.YtbohhjhehjkliaaW.PrintMore
attribute [local go_sem] max2_int min2_int max_two min_two max_three min_three max_four min_four   -- for this text's walks alone
set_option linter.unusedVariables false
set_option linter.unusedSimpArgs false

/-! ### disk_State_clone: function 45 -/
theorem R_empty {α : Type} (d : Kd α) (e : Nat) (W : World) : d.R e (W.alloc (.cells #[] e)) W.heap.size (fun _ => True) (.slice (some ⟨W.heap.size, 0, none⟩) 0 0) [] :=
  ⟨fun _ _ => trivial, [], by simpa using World.ownsRow_lit (base := W.heap.size) (e := e) (size := d.sz) W #[] 0 (Nat.le_refl _) (by simp [maxLen]) (by simp), Reps.none _ _⟩
theorem C_none {α : Type} {d : Kd α} {w : World} {l : List α} (h : d.C w none l.length l) : l = [] := by
  rcases Nat.eq_zero_or_pos l.length with h0 | h0
  · exact List.eq_nil_of_length_eq_zero h0
  · obtain ⟨ad, h, _⟩ := h.2.2 h0
    cases h
set_option maxHeartbeats 1000000 in
theorem bytes_Clone.calls (A0 : Option Addr) (c0 : Nat) (l0 : List Int) (w : World) (hr0 : Kd.C (Kd.int .u8) w A0 l0.length l0) (hl : l0.length < 140737488355328) :
    Calls Try.prog 52 #[.slice A0 l0.length c0] w fun e w' => ∃ v0_ : Value, e = .returned (v0_) ∧ Kd.R (Kd.int .u8) 5 w' w.heap.size (fun _ => True) v0_ l0 ∧ Below w.heap.size w w' := by
  have hu36 := Try.underlying36
  have HR := Aside0.mk hr0
  have HL := Aside0.mk hl
  have hnn : ∀ (W : World) (a : Option Addr), (binOp .eql 36 (.slice a l0.length c0) (.slice none 0 0)).run Try.prog W = .ok (.bool a.isNone) W := fun W a => run_eql_slice_nil W 36 5 a l0.length c0 Try.underlying36
  clear hr0 hl
  rcases A0 with _ | ad
  · have h0' := Aside0.mk (C_none HR.out)
    go_enter Try.func52, Try.ntmps52
    go_wp2
    go_ret
    exact ⟨_, rfl, by rw [h0'.out]; exact Kd.R_nil _ _ _ _ _, Below.refl _ _⟩
  · go_enter Try.func52, Try.ntmps52
    go_wp2_with (first | ((with_reducible refine gate_builtin (b := .append) (xs := #[.tmp 5, .tmp 6]) rfl ?_); at_builtin; refine Kd.R_append_rows (Kd.int .u8) (Rr := (Kd.int .u8).K w) (w0 := w) w.heap.size rfl (.tmp 5) (.tmp 6) 36 5 (.int .u8 0) 1 rfl Try.underlying36 info5 rfl (by decide) (by omega) (.slice (some ⟨w.heap.size, 0, none⟩) 0 0) [] l0 (some ad) l0.length c0 (fun _ => True) (fun _ => False) rfl rfl ?aO ?aR ?aK (fun _ hk => hk.elim) (fun _ _ => trivial) ?aB ?aS ?aL ?_; (case aO => exact R_empty (Kd.int .u8) 5 w); (case aR => exact Kd.C_alloc HR.out _); (case aK => intro x cs hx; exact hx); (case aB => exact (Below.refl _ _).alloc (Nat.le_refl _) _); (case aS => simp); (case aL => have := HL.out; simp; omega); intro v1 w1 ho hb hg hat; have HO := Aside0.mk ho; have HB := Aside0.mk hb; clear ho hb hg hat))
    go_ret
    exact ⟨_, rfl, HO.out, HB.out⟩
theorem choose_list {α : Type} {n : Nat} {p : Nat → α → Prop} (h : ∀ i, i < n → ∃ x, p i x) : ∃ l : List α, l.length = n ∧ ∀ (i : Nat) (x : α), l[i]? = some x → p i x := by
  induction n with
  | zero => exact ⟨[], rfl, fun i x hx => by simp at hx⟩
  | succ n ih =>
    obtain ⟨l, hl, hp⟩ := ih (fun i hi => h i (by omega))
    obtain ⟨y, hy⟩ := h n (by omega)
    refine ⟨l ++ [y], by simp [hl], fun i x hx => ?_⟩
    rcases Nat.lt_or_ge i l.length with hi | hi
    · rw [List.getElem?_append_left hi] at hx
      exact hp i x hx
    · have : i = l.length := by
        have := (List.getElem?_eq_some_iff.1 hx).1
        rw [List.length_append, List.length_singleton] at this
        omega
      subst this
      have hx' : y = x := by simpa using hx
      rw [← hx', hl]
      exact hy
/-- A row that is read, its elements' cells under names. -/
theorem C_rows {α : Type} {d : Kd α} {w : World} {A : Option Addr} {l : List α} (h : d.C w A l.length l) :
    ∃ rows : List (List Value), rows.length = l.length ∧ ReadsRow ((Kd.raw d.sz).K w) d.sz w A l.length rows ∧ ∀ (j : Nat) (x : α) (c : List Value), l[j]? = some x → rows[j]? = some c → d.K w x c := by
  rcases Nat.eq_zero_or_pos l.length with h0 | h0
  · obtain rfl := List.eq_nil_of_length_eq_zero h0
    exact ⟨[], rfl, ⟨rfl, by simp, fun h => absurd h (by simp)⟩, fun j x c hx => by simp at hx⟩
  obtain ⟨ad, hA, hc⟩ := h.2.2 h0
  obtain ⟨rows, hl, hr⟩ := choose_list (n := l.length) (p := fun j c => c.length = d.sz ∧ (∃ x, l[j]? = some x ∧ d.K w x c) ∧ ∀ i u, c[i]? = some u → w.cell? (ad.add (j * d.sz + i)) = some u) (fun j hj => by
    obtain ⟨c, h1, h2, h3⟩ := hc j _ (List.getElem?_eq_getElem hj)
    exact ⟨c, h1, ⟨_, List.getElem?_eq_getElem hj, h2⟩, h3⟩)
  refine ⟨rows, hl, ⟨hl, h.2.1, fun _ => ⟨ad, hA, fun j c hj => ?_⟩⟩, fun j x c hx hj => ?_⟩
  · obtain ⟨h1, ⟨x, _, h2⟩, h3⟩ := hr j c hj
    exact ⟨c, h1, ⟨rfl, h1, d.K_one h2⟩, h3⟩
  · obtain ⟨_, ⟨y, hy, h2⟩, _⟩ := hr j c hj
    rw [hx] at hy
    cases hy
    exact h2
/-- A row of cells, each element's blocks told: apart. -/
theorem raw_to_S {α : Type} {d : Kd α} {e : Nat} {w : World} {base : Nat} {ok : Nat → Prop} {v : Value} {xs : List α} {rows : List (List Value)} {f : Nat → Nat}
    (hR : (Kd.raw d.sz).R e w base ok v rows) (hl : rows.length = xs.length) (hM : ∀ (j : Nat) (x : α) (c : List Value), xs[j]? = some x → rows[j]? = some c → d.M w base (fun k => (ok k ∧ some k ≠ v.ownBlock) ∧ f k = j) x c) : Kd.S d e w base ok v xs := by
  obtain ⟨h0, inner, ho, hr⟩ := hR
  refine ⟨f, h0, inner, by rw [List.length_zipIdx, ← hl]; exact ho, by rw [List.length_zipIdx, ← hl]; exact hr.1, fun j q hq => ?_⟩
  rw [List.getElem?_zipIdx] at hq
  obtain ⟨x, hx, rfl⟩ := Option.map_eq_some_iff.1 hq
  have hj : j < rows.length := by rw [hl]; exact (List.getElem?_eq_some_iff.1 hx).1
  have h1 := (hr.2 j _ (List.getElem?_eq_getElem hj)).1
  have h2 := hM j x _ hx (List.getElem?_eq_getElem hj)
  show d.M w base _ x ((inner.drop (j * d.sz)).take d.sz)
  rw [show (inner.drop (j * d.sz)).take d.sz = rows[j] from h1]
  refine d.M_mono (fun k hk => ?_) h2
  simpa using hk
set_option maxHeartbeats 1000000 in
theorem CloneL.calls (A0 : Option Addr) (c0 : Nat) (l0 : List (List Int)) (wb w : World) (hwb : Below wb.heap.size wb w) (hr0 : Kd.C (Kd.slice 5 (Kd.int .u8)) wb A0 l0.length l0) (hl : l0.length * 24 ≤ 140737488355328) :
    Calls Try.prog 50 #[.slice A0 l0.length c0] w fun e w' => ∃ (v : Value) (rows : List (List Value)), e = .returned v ∧ rows.length = l0.length ∧ (∀ (j : Nat) (x : List Int) (c : List Value), l0[j]? = some x → rows[j]? = some c → (Kd.slice 5 (Kd.int .u8)).K wb x c) ∧ (Kd.raw (Kd.slice 5 (Kd.int .u8)).sz).R 36 w' w.heap.size (fun _ => True) v rows ∧ Below w.heap.size w w' := by
  have hu := Try.underlying22
  obtain ⟨rows, hrl, hrr, hrk⟩ := C_rows hr0
  have HR := Aside0.mk hr0
  have HL := Aside0.mk hl
  have HWB := Aside0.mk hwb
  have HRR := Aside0.mk hrr
  have HRL := Aside0.mk hrl
  have HRK := Aside0.mk hrk
  have hnn : ∀ (W : World) (a : Option Addr), (binOp .eql 22 (.slice a l0.length c0) (.slice none 0 0)).run Try.prog W = .ok (.bool a.isNone) W := fun W a => run_eql_slice_nil W 22 36 a l0.length c0 Try.underlying22
  clear hr0 hwb hl hrr hrl hrk
  rcases A0 with _ | ad
  · have h0' := Aside0.mk (C_none HR.out)
    go_enter Try.func50, Try.ntmps50
    go_wp2
    go_ret
    have : rows = [] := List.eq_nil_of_length_eq_zero (by rw [HRL.out, h0'.out]; rfl)
    exact ⟨_, [], rfl, by rw [h0'.out]; rfl, by intro j x c _ hc; simp at hc, Kd.R_nil _ _ _ _ _, Below.refl _ _⟩
  · go_enter Try.func50, Try.ntmps50
    go_wp2_with (first | ((with_reducible refine gate_builtin (b := .append) (xs := #[.tmp 5, .tmp 6]) rfl ?_); at_builtin; refine Kd.R_append_rows (Kd.raw 1) (Rr := (Kd.raw 1).K w) (w0 := w) w.heap.size rfl (.tmp 5) (.tmp 6) 22 36 (.slice none 0 0) 24 rfl Try.underlying22 info36 rfl (by decide) (by omega) (.slice (some ⟨w.heap.size, 0, none⟩) 0 0) [] rows (some ad) l0.length c0 (fun _ => True) (fun _ => False) rfl rfl ?aO ?aR ?aK (fun _ hk => hk.elim) (fun _ _ => trivial) ?aB ?aS ?aL ?_; (case aO => exact R_empty (Kd.raw 1) 36 w); (case aR => exact ReadsRow.imp_ HRR.out (below_alloc HWB.out _) (fun _ _ h => h)); (case aK => intro x cs hx; exact hx); (case aB => exact (Below.refl _ _).alloc (Nat.le_refl _) _); (case aS => simp); (case aL => have := HL.out; simp; omega); intro v1 w1 ho hb hg hat; have HO := Aside0.mk ho; have HB := Aside0.mk hb; clear ho hb hg hat))
    go_ret
    exact ⟨_, rows, rfl, HRL.out, HRK.out, HO.out, HB.out⟩
set_option maxHeartbeats 1000000 in
theorem CloneW.calls (A0 : Option Addr) (c0 : Nat) (l0 : List (S62)) (wb w : World) (hwb : Below wb.heap.size wb w) (hr0 : Kd.C k62 wb A0 l0.length l0) (hl : l0.length * 32 ≤ 140737488355328) :
    Calls Try.prog 51 #[.slice A0 l0.length c0] w fun e w' => ∃ (v : Value) (rows : List (List Value)), e = .returned v ∧ rows.length = l0.length ∧ (∀ (j : Nat) (x : S62) (c : List Value), l0[j]? = some x → rows[j]? = some c → k62.K wb x c) ∧ (Kd.raw k62.sz).R 62 w' w.heap.size (fun _ => True) v rows ∧ Below w.heap.size w w' := by
  have hu := Try.underlying28
  obtain ⟨rows, hrl, hrr, hrk⟩ := C_rows hr0
  have HR := Aside0.mk hr0
  have HL := Aside0.mk hl
  have HWB := Aside0.mk hwb
  have HRR := Aside0.mk hrr
  have HRL := Aside0.mk hrl
  have HRK := Aside0.mk hrk
  have hnn : ∀ (W : World) (a : Option Addr), (binOp .eql 28 (.slice a l0.length c0) (.slice none 0 0)).run Try.prog W = .ok (.bool a.isNone) W := fun W a => run_eql_slice_nil W 28 62 a l0.length c0 Try.underlying28
  clear hr0 hwb hl hrr hrl hrk
  rcases A0 with _ | ad
  · have h0' := Aside0.mk (C_none HR.out)
    go_enter Try.func51, Try.ntmps51
    go_wp2
    go_ret
    have : rows = [] := List.eq_nil_of_length_eq_zero (by rw [HRL.out, h0'.out]; rfl)
    exact ⟨_, [], rfl, by rw [h0'.out]; rfl, by intro j x c _ hc; simp at hc, Kd.R_nil _ _ _ _ _, Below.refl _ _⟩
  · go_enter Try.func51, Try.ntmps51
    go_wp2_with (first | ((with_reducible refine gate_builtin (b := .append) (xs := #[.tmp 5, .tmp 6]) rfl ?_); at_builtin; refine Kd.R_append_rows (Kd.raw 2) (Rr := (Kd.raw 2).K w) (w0 := w) w.heap.size rfl (.tmp 5) (.tmp 6) 28 62 (.agg #[(.int .i64 0), (.slice none 0 0)]) 32 rfl Try.underlying28 info62 rfl (by decide) (by omega) (.slice (some ⟨w.heap.size, 0, none⟩) 0 0) [] rows (some ad) l0.length c0 (fun _ => True) (fun _ => False) rfl rfl ?aO ?aR ?aK (fun _ hk => hk.elim) (fun _ _ => trivial) ?aB ?aS ?aL ?_; (case aO => exact R_empty (Kd.raw 2) 62 w); (case aR => exact ReadsRow.imp_ HRR.out (below_alloc HWB.out _) (fun _ _ h => h)); (case aK => intro x cs hx; exact hx); (case aB => exact (Below.refl _ _).alloc (Nat.le_refl _) _); (case aS => simp); (case aL => have := HL.out; simp; omega); intro v1 w1 ho hb hg hat; have HO := Aside0.mk ho; have HB := Aside0.mk hb; clear ho hb hg hat))
    go_ret
    exact ⟨_, rows, rfl, HRL.out, HRK.out, HO.out, HB.out⟩
/-- After i rounds: the row's cells; elements below i lead to rows of the call's own, apart; those from i on are as they came. -/
def InvC {α : Type} (d : Kd α) (e : Nat) (w0 : World) (B N g cap : Nat) (l : List α) (i : Int) (W : World) : Prop :=
  ∃ (rows : List (List Value)) (f : Nat → Nat), rows.length = l.length ∧ (Kd.raw d.sz).R e W B (fun _ => True) (.slice (some ⟨g, 0, none⟩) l.length cap) rows ∧
    ∀ (j : Nat) (x : α) (c : List Value), l[j]? = some x → rows[j]? = some c → (((j : Int) < i → d.M W B (fun k => (N ≤ k ∧ k ≠ g) ∧ f k = j) x c) ∧ (i ≤ (j : Int) → d.K w0 x c))
theorem own_slice_g (g n cap : Nat) : (Value.slice (some ⟨g, 0, none⟩) n cap).ownBlock = some g := rfl
/-- One round: a part of element i's cells is written anew. -/
theorem InvC.step {α : Type} {d : Kd α} {e : Nat} {w0 W W1 W2 : World} {B N g cap : Nat} {l : List α} {i : Int} (h : InvC d e w0 B N g cap l i W) (h0 : 0 ≤ i) (h1 : i < l.length) (hN : N ≤ W.heap.size) (hb : Below W.heap.size W W1) {x' : α} (hx' : l[i.toNat]? = some x')
    {c' : List Value} (hg : W1.grownBy W2 (some g)) (hrow : ∀ rows : List (List Value), (Kd.raw d.sz).R e W1 B (fun _ => True) (.slice (some ⟨g, 0, none⟩) l.length cap) rows → rows.length = l.length → (∀ c, rows[i.toNat]? = some c → ∃ okk, d.K w0 x' c → d.M W2 W.heap.size okk x' c' ∧ (Kd.raw d.sz).R e W2 B (fun _ => True) (.slice (some ⟨g, 0, none⟩) l.length cap) (rows.set i.toNat c')) ) (hB : B ≤ W.heap.size) :
    InvC d e w0 B N g cap l (i + 1) W2 := by
  obtain ⟨rows, f, hl, hR, hM⟩ := h
  have hin : i.toNat < l.length := by omega
  have hrl : i.toNat < rows.length := by omega
  obtain ⟨okk, hk⟩ := hrow rows (Kd.R_below hR hb) hl _ (List.getElem?_eq_getElem hrl)
  obtain ⟨hMn, hRn⟩ := hk ((hM _ _ _ hx' (List.getElem?_eq_getElem hrl)).2 (by omega))
  have hgl : g < W.heap.size := by
    obtain ⟨inner, ho⟩ := Kd.R_own hR
    exact own_lt ho g rfl
  refine ⟨rows.set i.toNat c', fun k => if W.heap.size ≤ k then i.toNat else f k, by rw [List.length_set]; exact hl, hRn, fun j x cx hj hcx => ⟨fun hji => ?_, fun hij => ?_⟩⟩
  · by_cases e : j = i.toNat
    · subst e
      rw [hx'] at hj
      cases hj
      rw [List.getElem?_set_self (by omega)] at hcx
      cases hcx
      exact d.M_mono (fun k hk => ⟨⟨by have := hk.2.1; omega, by have := hk.2.1; omega⟩, if_pos hk.2.1⟩) (d.M_lower hB (d.M_bound hMn))
    · rw [List.getElem?_set_ne (by omega)] at hcx
      have hm := (hM j x cx hj hcx).1 (by omega)
      have hm2 := d.M_mono (ok' := fun k => ((N ≤ k ∧ k ≠ g) ∧ f k = j) ∧ k < W.heap.size) (fun k hk => ⟨hk.1, hk.2.2.1⟩) (d.M_bound hm)
      have hm3 := Kd.M_grown (Kd.M_below hm2 hb) hg (fun k hk e => by cases e; exact hk.1.1.2 rfl)
      exact d.M_mono (fun k hk => ⟨hk.1.1, by dsimp only; rw [if_neg (by omega)]; exact hk.1.2⟩) hm3
  · rw [List.getElem?_set_ne (by omega)] at hcx
    exact (hM j x cx hj hcx).2 (by omega)
theorem InvC.start {α : Type} {d : Kd α} {e : Nat} {w W : World} {B N g cap : Nat} {l : List α} {rows : List (List Value)} (hl : rows.length = l.length) (hR : (Kd.raw d.sz).R e W B (fun _ => True) (.slice (some ⟨g, 0, none⟩) l.length cap) rows)
    (hK : ∀ (j : Nat) (x : α) (c : List Value), l[j]? = some x → rows[j]? = some c → d.K w x c) : InvC d e w B N g cap l 0 W :=
  ⟨rows, fun _ => 0, hl, hR, fun j x c hj hc => ⟨fun h => by omega, fun _ => hK j x c hj hc⟩⟩
theorem InvC.move {α : Type} {d : Kd α} {e : Nat} {w W W1 : World} {B N g cap : Nat} {l : List α} {i : Int} (h : InvC d e w B N g cap l i W) (hm : ∀ k, B ≤ k → k < W.heap.size → (∃ q, q ∈ e :: d.E ∧ ∃ cells, W.heap[k]? = some (.cells cells q (0, 0))) → W1.heap[k]? = W.heap[k]?) : InvC d e w B N g cap l i W1 := by
  obtain ⟨rows, f, hl, hR, hM⟩ := h
  refine ⟨rows, f, hl, Kd.R_mono (Kd.R_step (Kd.R_bound hR) (fun k hk hlt => hm k hk.2.1 hlt (by obtain ⟨_, _, _, q, hq, hc⟩ := hk; exact ⟨q, by rcases List.mem_cons.1 hq with rfl | hq; exact List.mem_cons_self; exact absurd hq (by simp [Kd.raw]), hc⟩))) (fun _ _ => trivial), fun j x c hj hc => ⟨fun hji => ?_, (hM j x c hj hc).2⟩⟩
  exact d.M_mono (fun k hk => hk.1) (Kd.M_step (d.M_bound ((hM j x c hj hc).1 hji)) (fun k hk hlt => hm k hk.2.1 hlt (by obtain ⟨_, _, _, q, hq, hc⟩ := hk; exact ⟨q, List.mem_cons_of_mem _ hq, hc⟩)))
theorem InvC.done {α : Type} {d : Kd α} {e : Nat} {w W : World} {B N g cap : Nat} {l : List α} {i : Int} (h : InvC d e w B N g cap l i W) (hi : (l.length : Int) ≤ i) : Kd.S d e W B (fun k => some k = (Value.slice (some ⟨g, 0, none⟩) l.length cap).ownBlock ∨ N ≤ k) (.slice (some ⟨g, 0, none⟩) l.length cap) l := by
  obtain ⟨rows, f, hl, hR, hM⟩ := h
  refine raw_to_S (f := f) (Kd.R_mono (ok' := fun k => some k = (Value.slice (some ⟨g, 0, none⟩) l.length cap).ownBlock ∨ N ≤ k) ?_ (fun _ hk => hk)) hl (fun j x c hj hc => ?_)
  · obtain ⟨_, inner, ho, hr⟩ := hR
    exact ⟨fun k hk => .inl hk.symm, inner, ho, hr⟩
  · have hj' : j < l.length := (List.getElem?_eq_some_iff.1 hj).1
    refine d.M_mono (fun k hk => ⟨⟨.inr hk.1.1, fun e => hk.1.2 ?_⟩, hk.2⟩) ((hM j x c hj hc).1 (by omega))
    rw [own_slice_g] at e
    exact Option.some.inj e
/-- The list's row between two rounds: nothing is in it, or as InvC says. -/
def InvS {α : Type} (d : Kd α) (e : Nat) (w0 : World) (B N : Nat) (A : Option Addr) (cap : Nat) (l : List α) (i : Int) (W : World) : Prop :=
  (l = [] ∧ (Kd.raw d.sz).R e W B (fun _ => True) (.slice A l.length cap) []) ∨ ∃ g, A = some ⟨g, 0, none⟩ ∧ InvC d e w0 B N g cap l i W
theorem InvS.move {α : Type} {d : Kd α} {e : Nat} {w W W1 : World} {B N cap : Nat} {A : Option Addr} {l : List α} {i : Int} (h : InvS d e w B N A cap l i W) (hm : ∀ k, B ≤ k → k < W.heap.size → (∃ q, q ∈ e :: d.E ∧ ∃ cells, W.heap[k]? = some (.cells cells q (0, 0))) → W1.heap[k]? = W.heap[k]?) : InvS d e w B N A cap l i W1 := by
  rcases h with ⟨h1, h2⟩ | ⟨g, h1, h2⟩
  · exact .inl ⟨h1, Kd.R_mono (Kd.R_step (Kd.R_bound h2) (fun k hk hlt => hm k hk.2.1 hlt (by obtain ⟨_, _, _, q, hq, hc⟩ := hk; exact ⟨q, by rcases List.mem_cons.1 hq with rfl | hq; exact List.mem_cons_self; exact absurd hq (by simp [Kd.raw]), hc⟩))) (fun _ _ => trivial)⟩
  · exact .inr ⟨g, h1, h2.move hm⟩
theorem InvS.done {α : Type} {d : Kd α} {e : Nat} {w W : World} {B N cap : Nat} {A : Option Addr} {l : List α} {i : Int} (h : InvS d e w B N A cap l i W) (hi : (l.length : Int) ≤ i) : Kd.S d e W B (fun k => some k = (Value.slice A l.length cap).ownBlock ∨ N ≤ k) (.slice A l.length cap) l := by
  rcases h with ⟨rfl, h2⟩ | ⟨g, rfl, h2⟩
  · refine raw_to_S (f := fun _ => 0) (rows := []) (Kd.R_mono (ok' := fun k => some k = (Value.slice A ([] : List α).length cap).ownBlock ∨ N ≤ k) ?_ (fun _ hk => hk)) rfl (fun j x c hj => by simp at hj)
    obtain ⟨_, inner, ho, hr⟩ := h2
    exact ⟨fun k hk => .inl hk.symm, inner, ho, hr⟩
  · exact h2.done hi
theorem InvS.start {α : Type} {d : Kd α} {e : Nat} {w W : World} {B N cap : Nat} {A : Option Addr} {l : List α} {rows : List (List Value)} (hl : rows.length = l.length) (hR : (Kd.raw d.sz).R e W B (fun _ => True) (.slice A l.length cap) rows)
    (hK : ∀ (j : Nat) (x : α) (c : List Value), l[j]? = some x → rows[j]? = some c → d.K w x c) : InvS d e w B N A cap l 0 W := by
  rcases Nat.eq_zero_or_pos l.length with h0 | h0
  · obtain rfl := List.eq_nil_of_length_eq_zero h0
    obtain rfl := List.eq_nil_of_length_eq_zero hl
    exact .inl ⟨rfl, hR⟩
  · obtain ⟨g, cap', he, _⟩ := Kd.R_form hR (by omega)
    injection he with h1 h2 h3
    subst h1 h3
    exact .inr ⟨g, rfl, InvC.start hl hR hK⟩
theorem InvL.step {w0 W W1 : World} {B N g cap : Nat} {l : List (List Int)} {i : Int} (h : InvC (Kd.slice 5 (Kd.int .u8)) 36 w0 B N g cap l i W) (h0 : 0 ≤ i) (h1 : i < l.length) (hN : N ≤ W.heap.size) (hB : B ≤ W.heap.size) (hb : Below W.heap.size W W1)
    {v2 : Value} (hv : (Kd.int .u8).R 5 W1 W.heap.size (fun _ => True) v2 (rd_L1 l i)) :
    W1.frozen? ⟨g, i.toNat, none⟩ = false ∧ InvC (Kd.slice 5 (Kd.int .u8)) 36 w0 B N g cap l (i + 1) (W1.setCell ⟨g, i.toNat, none⟩ v2) ∧ W1.grownBy (W1.setCell ⟨g, i.toNat, none⟩ v2) (some g) := by
  have hg0 : g < W.heap.size := by
    obtain ⟨rows, f, hl, hR, hM⟩ := h
    obtain ⟨inner, ho⟩ := Kd.R_own hR
    exact own_lt ho g rfl
  have hgr : W1.grownBy (W1.setCell ⟨g, i.toNat, none⟩ v2) (some g) := ⟨rfl, rfl, rfl, by simp, fun k _ hk => Below.heap_setCell _ _ _ k (fun e => hk (by rw [e]))⟩
  obtain ⟨A, cv, hve, _⟩ := Kd.R_reads hv
  have hone : v2.oneCell' = true := by rw [hve]; rfl
  have hin : i.toNat < l.length := by omega
  have hx : l[i.toNat]? = some (rd_L1 l i) := by unfold rd_L1; rw [List.getD_eq_getElem?_getD, List.getElem?_eq_getElem hin]; rfl
  refine ⟨?_, InvC.step (c' := [v2]) h h0 h1 hN hb hx hgr (fun rows hR hl c hc => ?_) hB, hgr⟩
  · obtain ⟨rows, f, hl, hR, hM⟩ := h
    obtain ⟨c, _, _, _, hfr⟩ := Kd.R_elem (Kd.R_below hR hb) [] i h0 h1
    have := hfr 0
    simpa [Kd.raw, Kd.slice] using this
  · obtain ⟨cc, hcl, hMc, hcc, _⟩ := Kd.R_elem hR [] i h0 h1
    refine ⟨fun k => W.heap.size ≤ k, fun hK => ⟨⟨v2, rfl, ?_⟩, ?_⟩⟩
    · exact Kd.R_mono (Kd.R_grown (Kd.R_mono (ok' := fun k => W.heap.size ≤ k) (Kd.R_bound hv) (fun k hk => hk.2.1)) hgr (fun k hk e => by cases e; omega)) (fun _ hk => hk)
    · have hseg := Kd.R_seg hR i h0 h1 (seg := [v2]) (j := 0) (x' := [v2]) (okp := fun _ => False) hcl hcc (show 1 ≤ 1 from Nat.le_refl _) (by
        have hd : cc.drop 1 = [] := List.drop_eq_nil_of_le (by rw [hcl]; exact Nat.le_refl _)
        rw [show cc.take 0 ++ [v2] ++ cc.drop (0 + [v2].length) = [v2] from by simp [hd]]
        exact ⟨rfl, rfl, fun u hu => by rw [List.mem_singleton.1 hu]; exact hone⟩) (fun _ hk => hk.elim)
      have e : W1.setCells g (i.toNat * (Kd.raw (Kd.slice 5 (Kd.int .u8)).sz).sz + 0) [v2] = W1.setCell ⟨g, i.toNat, none⟩ v2 := by
        show W1.setCell ⟨g, i.toNat * 1 + 0, none⟩ v2 = _
        rw [Nat.mul_one, Nat.add_zero]
      rw [e] at hseg
      exact hseg.1
theorem InvW.step {w0 W W1 : World} {B N g cap : Nat} {l : List S62} {i : Int} (h : InvC k62 62 w0 B N g cap l i W) (h0 : 0 ≤ i) (h1 : i < l.length) (hN : N ≤ W.heap.size) (hB : B ≤ W.heap.size) (hb : Below W.heap.size W W1)
    {v2 : Value} (hv : (Kd.int .u8).R 5 W1 W.heap.size (fun _ => True) v2 (rd_T62 l i).f1) :
    W1.frozen? ⟨g, i.toNat * 2 + 1, none⟩ = false ∧ InvC k62 62 w0 B N g cap l (i + 1) (W1.setCell ⟨g, i.toNat * 2 + 1, none⟩ v2) ∧ W1.grownBy (W1.setCell ⟨g, i.toNat * 2 + 1, none⟩ v2) (some g) := by
  have hg0 : g < W.heap.size := by
    obtain ⟨rows, f, hl, hR, hM⟩ := h
    obtain ⟨inner, ho⟩ := Kd.R_own hR
    exact own_lt ho g rfl
  have hgr : W1.grownBy (W1.setCell ⟨g, i.toNat * 2 + 1, none⟩ v2) (some g) := ⟨rfl, rfl, rfl, by simp, fun k _ hk => Below.heap_setCell _ _ _ k (fun e => hk (by rw [e]))⟩
  obtain ⟨A, cv, hve, _⟩ := Kd.R_reads hv
  have hone : v2.oneCell' = true := by rw [hve]; rfl
  have hin : i.toNat < l.length := by omega
  have hx : l[i.toNat]? = some (rd_T62 l i) := by unfold rd_T62; rw [List.getD_eq_getElem?_getD, List.getElem?_eq_getElem hin]; rfl
  refine ⟨?_, InvC.step (c' := [.int .i64 (rd_T62 l i).f0, v2]) h h0 h1 hN hb hx hgr (fun rows hR hl c hc => ?_) hB, hgr⟩
  · obtain ⟨rows, f, hl, hR, hM⟩ := h
    obtain ⟨c, _, _, _, hfr⟩ := Kd.R_elem (Kd.R_below hR hb) [] i h0 h1
    exact hfr 1
  · obtain ⟨cc, hcl, hMc, hcc, _⟩ := Kd.R_elem hR [] i h0 h1
    have hcceq : cc = c := by
      have e1 : cc = rows.getD i.toNat [] := hMc.1
      rw [e1, List.getD_eq_getElem?_getD, hc]; rfl
    subst hcceq
    refine ⟨fun k => W.heap.size ≤ k, fun hK => ?_⟩
    obtain ⟨A2, c2, rfl, _, _⟩ := k62_open hK
    refine ⟨k62_mkM _ _ _ _ ?_, ?_⟩
    · exact Kd.R_mono (Kd.R_grown (Kd.R_mono (ok' := fun k => W.heap.size ≤ k) (Kd.R_bound hv) (fun k hk => hk.2.1)) hgr (fun k hk e => by cases e; omega)) (fun _ hk => hk)
    · have hseg := Kd.R_seg hR i h0 h1 (seg := [v2]) (j := 1) (x' := [.int .i64 (rd_T62 l i).f0, v2]) (okp := fun _ => False) hcl hcc (show 2 ≤ 2 from Nat.le_refl _) (by
        refine ⟨rfl, rfl, fun u hu => ?_⟩
        have hu' : u ∈ [Value.int .i64 (rd_T62 l i).f0, v2] := hu
        simp only [List.mem_cons, List.not_mem_nil, or_false] at hu'
        rcases hu' with rfl | rfl
        · rfl
        · exact hone) (fun _ hk => hk.elim)
      exact hseg.1
theorem CloneL.calls2 (A0 : Option Addr) (c0 : Nat) (l0 : List (List Int)) (wb w : World) (hwb : Below wb.heap.size wb w) (hr0 : Kd.C (Kd.slice 5 (Kd.int .u8)) wb A0 l0.length l0) (hl : l0.length * 24 ≤ 140737488355328) :
    Calls Try.prog 50 #[.slice A0 l0.length c0] w fun e w' => ∃ (v : Value) (rows : List (List Value)), e = .returned v ∧ (rows.length = l0.length ∧ (∀ (j : Nat) (x : List Int) (c : List Value), l0[j]? = some x → rows[j]? = some c → (Kd.slice 5 (Kd.int .u8)).K wb x c) ∧ (Kd.raw 1).R 36 w' wb.heap.size (fun _ => True) v rows) ∧ Below w.heap.size w w' ∧ Below wb.heap.size wb w' := by
  refine (CloneL.calls A0 c0 l0 wb w hwb hr0 hl).mono ?_
  rintro e w' ⟨v, rows, he, h1, h2, h3, h4⟩
  exact ⟨v, rows, he, ⟨h1, h2, Kd.R_lower h3 hwb.size⟩, h4, hwb.trans (h4.mono hwb.size)⟩
theorem CloneW.calls2 (A0 : Option Addr) (c0 : Nat) (l0 : List (S62)) (wb w : World) (hwb : Below wb.heap.size wb w) (hr0 : Kd.C k62 wb A0 l0.length l0) (hl : l0.length * 32 ≤ 140737488355328) :
    Calls Try.prog 51 #[.slice A0 l0.length c0] w fun e w' => ∃ (v : Value) (rows : List (List Value)), e = .returned v ∧ (rows.length = l0.length ∧ (∀ (j : Nat) (x : S62) (c : List Value), l0[j]? = some x → rows[j]? = some c → k62.K wb x c) ∧ (Kd.raw 2).R 62 w' wb.heap.size (fun _ => True) v rows) ∧ Below w.heap.size w w' ∧ Below wb.heap.size wb w' := by
  refine (CloneW.calls A0 c0 l0 wb w hwb hr0 hl).mono ?_
  rintro e w' ⟨v, rows, he, h1, h2, h3, h4⟩
  exact ⟨v, rows, he, ⟨h1, h2, Kd.R_lower h3 hwb.size⟩, h4, hwb.trans (h4.mono hwb.size)⟩
/-- Both lists' rows are copied; the elements' rows are still those that came. -/
def CloneMid (W : World) (l0 : List (List Int)) (l1 : List S62) (s3 : Value) (wx : World) : Prop := ∃ (b3 : Nat) (v0 v1 : Value) (rows0 rows1 : List (List Value)), s3 = .pointer (some ⟨b3, 0, none⟩) ∧ W.heap.size ≤ b3 ∧ wx.heap[b3]? = some (.cells #[v0, v1] 30 (0, 0)) ∧ Below W.heap.size W wx ∧
  (rows0.length = l0.length ∧ (∀ (j : Nat) (x : List Int) (c : List Value), l0[j]? = some x → rows0[j]? = some c → (Kd.slice 5 (Kd.int .u8)).K W x c) ∧ (Kd.raw 1).R 36 wx W.heap.size (fun _ => True) v0 rows0) ∧
  (rows1.length = l1.length ∧ (∀ (j : Nat) (x : S62) (c : List Value), l1[j]? = some x → rows1[j]? = some c → k62.K W x c) ∧ (Kd.raw 2).R 62 wx W.heap.size (fun _ => True) v1 rows1)
theorem CRows0.below {W wx wy : World} {l0 : List (List Int)} {v0 : Value} {rows0 : List (List Value)} (hb : Below wx.heap.size wx wy)
    (h : rows0.length = l0.length ∧ (∀ (j : Nat) (x : List Int) (c : List Value), l0[j]? = some x → rows0[j]? = some c → (Kd.slice 5 (Kd.int .u8)).K W x c) ∧ (Kd.raw 1).R 36 wx W.heap.size (fun _ => True) v0 rows0) :
    rows0.length = l0.length ∧ (∀ (j : Nat) (x : List Int) (c : List Value), l0[j]? = some x → rows0[j]? = some c → (Kd.slice 5 (Kd.int .u8)).K W x c) ∧ (Kd.raw 1).R 36 wy W.heap.size (fun _ => True) v0 rows0 := ⟨h.1, h.2.1, Kd.R_below h.2.2 hb⟩
theorem CRows1.below {W wx wy : World} {l1 : List S62} {v1 : Value} {rows1 : List (List Value)} (hb : Below wx.heap.size wx wy)
    (h : rows1.length = l1.length ∧ (∀ (j : Nat) (x : S62) (c : List Value), l1[j]? = some x → rows1[j]? = some c → k62.K W x c) ∧ (Kd.raw 2).R 62 wx W.heap.size (fun _ => True) v1 rows1) :
    rows1.length = l1.length ∧ (∀ (j : Nat) (x : S62) (c : List Value), l1[j]? = some x → rows1[j]? = some c → k62.K W x c) ∧ (Kd.raw 2).R 62 wy W.heap.size (fun _ => True) v1 rows1 := ⟨h.1, h.2.1, Kd.R_below h.2.2 hb⟩
/-- What each operation of the region that copies both lists leaves. -/
def CloneF (W : World) (b1 : Nat) (A0 A1 : Option Addr) (c0 c1 : Nat) (l0 : List (List Int)) (l1 : List S62) (i : Nat) (u : Nat → Value) (wx : World) : Prop := match i with
  | 0 => u 6 = .pointer (some ⟨b1, 0, none⟩)
  | 1 => u 7 = .slice A0 l0.length c0
  | 2 => ∃ (A : Option Addr) (c : Nat) (rows0 : List (List Value)), u 8 = .slice A l0.length c ∧ (rows0.length = l0.length ∧ (∀ (j : Nat) (x : List Int) (c : List Value), l0[j]? = some x → rows0[j]? = some c → (Kd.slice 5 (Kd.int .u8)).K W x c) ∧ (Kd.raw 1).R 36 wx W.heap.size (fun _ => True) (u 8) rows0)
  | 3 => u 9 = .pointer (some ⟨b1, 1, none⟩)
  | 4 => u 10 = .slice A1 l1.length c1
  | 5 => ∃ (A : Option Addr) (c : Nat) (rows1 : List (List Value)), u 11 = .slice A l1.length c ∧ (rows1.length = l1.length ∧ (∀ (j : Nat) (x : S62) (c : List Value), l1[j]? = some x → rows1[j]? = some c → k62.K W x c) ∧ (Kd.raw 2).R 62 wx W.heap.size (fun _ => True) (u 11) rows1)
  | 6 => u 12 = .agg #[u 8, u 11]
  | 7 => ∃ (b3 : Nat) (x y : Value), u 3 = .pointer (some ⟨b3, 0, none⟩) ∧ W.heap.size ≤ b3 ∧ wx.heap[b3]? = some (.cells #[x, y] 30 (0, 0))
  | 8 => ∃ b3 : Nat, u 3 = .pointer (some ⟨b3, 0, none⟩) ∧ wx.heap[b3]? = some (.cells #[u 8, u 11] 30 (0, 0))
  | _ => True
def upd (u : Nat → Value) (n : Nat) (v : Value) : Nat → Value := fun m => if m = n then v else u m
theorem CloneF.upd {W : World} {b1 : Nat} {A0 A1 : Option Addr} {c0 c1 : Nat} {l0 : List (List Int)} {l1 : List S62} {wx wy : World} {u : Nat → Value} {l : Nat → Bool} {i n : Nat} {v : Value} (hd : [6, 7, 8, 9, 10, 11, 12, 3, 99][i]? = some n) (hb : Below wx.heap.size wx wy) (h6 : l 6 = true → i ≠ 2 ∧ i ≠ 5) (h8 : l 8 = true → i ≠ 7 ∧ i ≠ 2 ∧ i ≠ 5)
    (hF : ∀ j, j < 9 → l j = true → CloneF W b1 A0 A1 c0 c1 l0 l1 j u wx) : ∀ j, j < 9 → j ≠ i → l j = true → CloneF W b1 A0 A1 c0 c1 l0 l1 j (T.upd u n v) wy := by
  have hi : i < 9 := (List.getElem?_eq_some_iff.1 hd).1
  have hne : ∀ j, j < 9 → j ≠ i → ∀ m, [6, 7, 8, 9, 10, 11, 12, 3, 99][j]? = some m → T.upd u n v m = u m := by
    intro j hj hji m hm
    unfold T.upd
    rw [if_neg]
    intro e
    subst e
    exact hji ((by decide : ∀ j, j < 9 → ∀ i, i < 9 → ([6, 7, 8, 9, 10, 11, 12, 3, 99] : List Nat)[j]? = ([6, 7, 8, 9, 10, 11, 12, 3, 99] : List Nat)[i]? → j = i) j hj i hi (hm.trans hd.symm))
  intro j hj hji hl
  have h := hF j hj hl
  rcases j with _ | _ | _ | _ | _ | _ | _ | _ | _ | j
  · show T.upd u n v 6 = _; rw [hne 0 hj hji 6 rfl]; exact h
  · show T.upd u n v 7 = _; rw [hne 1 hj hji 7 rfl]; exact h
  · obtain ⟨A, c, r, h1, h2⟩ := h; exact ⟨A, c, r, by rw [hne 2 hj hji 8 rfl]; exact h1, by rw [hne 2 hj hji 8 rfl]; exact CRows0.below hb h2⟩
  · show T.upd u n v 9 = _; rw [hne 3 hj hji 9 rfl]; exact h
  · show T.upd u n v 10 = _; rw [hne 4 hj hji 10 rfl]; exact h
  · obtain ⟨A, c, r, h1, h2⟩ := h; exact ⟨A, c, r, by rw [hne 5 hj hji 11 rfl]; exact h1, by rw [hne 5 hj hji 11 rfl]; exact CRows1.below hb h2⟩
  · have := h6 hl; show T.upd u n v 12 = .agg #[T.upd u n v 8, T.upd u n v 11]; rw [hne 6 hj hji 12 rfl, hne 2 (by omega) (Ne.symm this.1) 8 rfl, hne 5 (by omega) (Ne.symm this.2) 11 rfl]; exact h
  · obtain ⟨b3, x, y, h1, h2, h3⟩ := h; exact ⟨b3, x, y, by rw [hne 7 hj hji 3 rfl]; exact h1, h2, blk_below h3 hb⟩
  · have := h8 hl; obtain ⟨b3, h1, h3⟩ := h; exact ⟨b3, by rw [hne 7 (by omega) (Ne.symm this.1) 3 rfl]; exact h1, by rw [hne 2 (by omega) (Ne.symm this.2.1) 8 rfl, hne 5 (by omega) (Ne.symm this.2.2) 11 rfl]; exact blk_below h3 hb⟩
  · omega
set_option maxHeartbeats 8000000 in
set_option maxRecDepth 100000 in
theorem disk_State_clone.calls (A0 : Option Addr) (c0 : Nat) (l0 : List (List Int)) (A1 : Option Addr) (c1 : Nat) (l1 : List S62) (w : World) (hr0 : Kd.C (Kd.slice 5 (Kd.int .u8)) w A0 l0.length l0) (hr1 : Kd.C k62 w A1 l1.length l1)
    (hz0 : l0.length * 24 ≤ 140737488355328) (hz1 : l1.length * 32 ≤ 140737488355328) (hd0 : ∀ x ∈ l0, x.length < 140737488355328) (hd1 : ∀ x ∈ l1, x.f1.length < 140737488355328) :
    Calls Try.prog 45 #[.agg #[.slice A0 l0.length c0, .slice A1 l1.length c1]] w fun e w' => ∃ (v0 v1 : Value) (N : Nat), e = .returned (.agg #[v0, v1]) ∧ Kd.S (Kd.slice 5 (Kd.int .u8)) 36 w' w.heap.size (fun k => k < N) v0 l0 ∧ Kd.S k62 62 w' w.heap.size (fun k => some k = v1.ownBlock ∨ N ≤ k) v1 l1 ∧ Below w.heap.size w w' := by
  have hu30 := Try.underlying30
  have hu62 := Try.underlying62
  have HR0 := Aside0.mk hr0
  have HR1 := Aside0.mk hr1
  have HZ := Aside0.mk (And.intro hz0 hz1)
  have HD := Aside0.mk (And.intro hd0 hd1)
  clear hr0 hr1 hz0 hz1 hd0 hd1
  go_enter Try.func45, Try.ntmps45
  go_upto_region 1 with fail
  have k1 : ((w.alloc (.cells #[.slice A0 l0.length c0, .slice A1 l1.length c1] 30)).alloc (.cells #[.slice none 0 0, .slice none 0 0] 30)).heap[w.heap.size]? = some (.cells #[.slice A0 l0.length c0, .slice A1 l1.length c1] 30 (0, 0)) := blk_alloc (heap_alloc_new w _) _
  have k2 : ((w.alloc (.cells #[.slice A0 l0.length c0, .slice A1 l1.length c1] 30)).alloc (.cells #[.slice none 0 0, .slice none 0 0] 30)).heap[w.heap.size + 1]? = some (.cells #[.slice none 0 0, .slice none 0 0] 30 (0, 0)) := by have := heap_alloc_new (w.alloc (.cells #[.slice A0 l0.length c0, .slice A1 l1.length c1] 30)) (.cells #[.slice none 0 0, .slice none 0 0] 30); simpa using this
  have HB := Aside0.mk (below_alloc (below_alloc (Below.refl w.heap.size w) (.cells #[.slice A0 l0.length c0, .slice A1 l1.length c1] 30)) (.cells #[.slice none 0 0, .slice none 0 0] 30))
  have HZS := Aside0.mk (show ((w.alloc (.cells #[.slice A0 l0.length c0, .slice A1 l1.length c1] 30)).alloc (.cells #[.slice none 0 0, .slice none 0 0] 30)).heap.size = w.heap.size + 2 by simp)
  generalize ((w.alloc (.cells #[.slice A0 l0.length c0, .slice A1 l1.length c1] 30)).alloc (.cells #[.slice none 0 0, .slice none 0 0] 30)) = W at *
  have CR0 := Aside0.mk (Kd.C_below HR0.out HB.out)
  have CR1 := Aside0.mk (Kd.C_below HR1.out HB.out)
  have HBW := Aside0.mk (Below.refl W.heap.size W)
  have x0 := (blk_cell k1 0).trans rfl
  have x1 := (blk_cell k1 1).trans rfl
  have K2 := Aside0.mk k2
  have hlt0 : w.heap.size < W.heap.size := by have := HZS.out; omega
  clear k1 k2
  go_cut [3] (fun s3 wx => Aside0 (CloneMid W l0 l1 s3 wx))
  case first =>
    have hF0 : ∀ f : Nat → Bool, f = f := fun _ => rfl
    refine Go.Proofs.YtbohhjhehjkliaaW.Ri.region_inv (fun u => ⟨#[.agg #[.slice A0 l0.length c0, .slice A1 l1.length c1], .pointer (some ⟨w.heap.size, 0, none⟩), .pointer (some ⟨w.heap.size + 1, 0, none⟩), u 3, undef, undef, u 6, u 7, u 8, u 9, u 10, u 11, u 12, undef, undef, undef, undef, undef, undef, undef, undef, undef, undef, undef, undef, undef, undef, undef, undef, undef, undef, undef, undef, undef, undef, undef, undef, undef, undef, undef, undef, undef, undef, undef, undef, undef, undef, undef, undef, undef], []⟩) (fun _ => undef) (fun wx => Below W.heap.size W wx) (CloneF W w.heap.size A0 A1 c0 c1 l0 l1) rfl (by kernel_rfl) rfl (below_drew (Below.refl _ _)) ?step ?done
    case step =>
      intro l u wx i o hx hG hF ho hl hn
      rcases i with _ | _ | _ | _ | _ | _ | _ | _ | _ | i
      · obtain rfl := Option.some.inj (show some _ = some o from ho)
        refine value_ (v := .pointer (some ⟨w.heap.size, 0, none⟩)) rfl rfl (by go_simp; with_reducible rfl) ?_
        exact ⟨upd u 6 (.pointer (some ⟨w.heap.size, 0, none⟩)), rfl, hG, rfl, CloneF.upd rfl (Below.refl _ _) (fun _ => by decide) (fun _ => by decide) hF⟩
      · obtain rfl := Option.some.inj (show some _ = some o from ho)
        have e6 : u 6 = _ := hF 0 (by decide) (hn 0 (by decide))
        have x0' := (hG.cell (p := ⟨w.heap.size, 0, none⟩) hlt0).trans x0
        refine value_ (v := .slice A0 l0.length c0) rfl rfl (by go_simp; with_reducible rfl) ?_
        exact ⟨upd u 7 (.slice A0 l0.length c0), rfl, hG, rfl, CloneF.upd rfl (Below.refl _ _) (fun _ => by decide) (fun _ => by decide) hF⟩
      · obtain rfl := Option.some.inj (show some _ = some o from ho)
        have e7 : u 7 = _ := hF 1 (by decide) (hn 1 (by decide))
        refine goes_ Try.func50 (by kernel_rfl) rfl #[.slice A0 l0.length c0] rfl rfl rfl (by simp only [List.map_toArray, List.map_cons, List.map_nil, Act.eval]; rw [← e7]; rfl) ?_
        refine (CloneL.calls2 A0 c0 l0 W _ hG CR0.out HZ.out.1).mono ?_
        rintro e w1 ⟨v0, rows0, rfl, hr0, hb0, hbw⟩
        obtain ⟨A3, c3, hv3⟩ := Kd.R_slice hr0.2.2
        refine ⟨v0, rfl, upd u 8 v0, rfl, hbw, ⟨A3, c3, rows0, by rw [hr0.1] at hv3; exact hv3, hr0⟩, CloneF.upd rfl hb0 (fun h => nomatch (hx 6 _ rfl h 2 (by decide)).symm.trans hl) (fun h => nomatch (hx 8 _ rfl h 2 (by decide)).symm.trans hl) hF⟩
      · obtain rfl := Option.some.inj (show some _ = some o from ho)
        refine value_ (v := .pointer (some ⟨w.heap.size, 1, none⟩)) rfl rfl (by go_simp; with_reducible rfl) ?_
        exact ⟨upd u 9 (.pointer (some ⟨w.heap.size, 1, none⟩)), rfl, hG, rfl, CloneF.upd rfl (Below.refl _ _) (fun _ => by decide) (fun _ => by decide) hF⟩
      · obtain rfl := Option.some.inj (show some _ = some o from ho)
        have e9 : u 9 = _ := hF 3 (by decide) (hn 3 (by decide))
        have x1' := (hG.cell (p := ⟨w.heap.size, 1, none⟩) hlt0).trans x1
        refine value_ (v := .slice A1 l1.length c1) rfl rfl (by go_simp; with_reducible rfl) ?_
        exact ⟨upd u 10 (.slice A1 l1.length c1), rfl, hG, rfl, CloneF.upd rfl (Below.refl _ _) (fun _ => by decide) (fun _ => by decide) hF⟩
      · obtain rfl := Option.some.inj (show some _ = some o from ho)
        have e7 : u 10 = _ := hF 4 (by decide) (hn 4 (by decide))
        refine goes_ Try.func51 (by kernel_rfl) rfl #[.slice A1 l1.length c1] rfl rfl rfl (by simp only [List.map_toArray, List.map_cons, List.map_nil, Act.eval]; rw [← e7]; rfl) ?_
        refine (CloneW.calls2 A1 c1 l1 W _ hG CR1.out HZ.out.2).mono ?_
        rintro e w1 ⟨v0, rows0, rfl, hr0, hb0, hbw⟩
        obtain ⟨A3, c3, hv3⟩ := Kd.R_slice hr0.2.2
        refine ⟨v0, rfl, upd u 11 v0, rfl, hbw, ⟨A3, c3, rows0, by rw [hr0.1] at hv3; exact hv3, hr0⟩, CloneF.upd rfl hb0 (fun h => nomatch (hx 6 _ rfl h 5 (by decide)).symm.trans hl) (fun h => nomatch (hx 8 _ rfl h 5 (by decide)).symm.trans hl) hF⟩
      · obtain rfl := Option.some.inj (show some _ = some o from ho)
        obtain ⟨A8, c8, r8, e8, _⟩ := hF 2 (by decide) (hn 2 (by decide))
        obtain ⟨A9, c9, r9, e9, _⟩ := hF 5 (by decide) (hn 5 (by decide))
        refine value_ (v := .agg #[.slice A8 l0.length c8, .slice A9 l1.length c9]) rfl rfl (by go_simp; with_reducible rfl) ?_
        exact ⟨upd u 12 (.agg #[.slice A8 l0.length c8, .slice A9 l1.length c9]), rfl, hG, by show _ = Value.agg #[u 8, u 11]; rw [e8, e9]; rfl, CloneF.upd rfl (Below.refl _ _) (fun _ => by decide) (fun _ => by decide) hF⟩
      · obtain rfl := Option.some.inj (show some _ = some o from ho)
        refine box_step (N := 3) (cs := #[.slice none 0 0, .slice none 0 0]) (t := 30) rfl rfl (by first | (go_simp; done) | (go_simp; rfl)) ?_
        intro g hg w1 hbox hb
        exact ⟨upd u 3 (.pointer (some ⟨g, 0, none⟩)), rfl, hG.trans (hb.mono hG.size), ⟨g, _, _, rfl, by rw [hg]; exact hG.size, hbox⟩, CloneF.upd rfl hb (fun _ => by decide) (fun h => nomatch (hx 8 _ rfl h 7 (by decide)).symm.trans hl) hF⟩
      · obtain rfl := Option.some.inj (show some _ = some o from ho)
        obtain ⟨b3, x, y, e3, hb3, hk3⟩ := hF 7 (by decide) (hn 7 (by decide))
        have e12 : u 12 = _ := hF 6 (by decide) (hn 6 (by decide))
        obtain ⟨A8, c8, r8, e8, h8⟩ := hF 2 (by decide) (hx 6 _ rfl (hn 6 (by decide)) 2 (by decide))
        obtain ⟨A9, c9, r9, e9, h9⟩ := hF 5 (by decide) (hn 5 (by decide))
        have z0 := (blk_cell hk3 0).trans rfl
        have z1 := (blk_cell hk3 1).trans rfl
        have z2 := blk_frozen hk3 0
        have z3 := blk_frozen hk3 1
        refine skip_ (w1 := (wx.setCell ⟨b3, 0, none⟩ (.slice A8 l0.length c8)).setCell ⟨b3, 1, none⟩ (.slice A9 l1.length c9)) rfl rfl (by first | (go_simp; done) | (go_simp; with_reducible rfl)) ?_
        have q1 := blk_put hk3 0 (.slice A8 l0.length c8) (cs' := #[.slice A8 l0.length c8, y]) rfl
        have q2 := blk_put q1 1 (.slice A9 l1.length c9) (cs' := #[.slice A8 l0.length c8, .slice A9 l1.length c9]) rfl
        refine ⟨u, rfl, below_set (below_set hG hb3) hb3, ⟨b3, e3, by rw [e8, e9]; exact q2⟩, fun j hj hji hlj => ?_⟩
        have h := hF j hj hlj
        rcases j with _ | _ | _ | _ | _ | _ | _ | _ | _ | j
        · exact h
        · exact h
        · exact ⟨A8, c8, r8, e8, h8.1, h8.2.1, Kd.R_set (Kd.R_set h8.2.2 hk3 (by decide) 0 _) q1 (by decide) 1 _⟩
        · exact h
        · exact h
        · exact ⟨A9, c9, r9, e9, h9.1, h9.2.1, Kd.R_set (Kd.R_set h9.2.2 hk3 (by decide) 0 _) q1 (by decide) 1 _⟩
        · exact h
        · exact ⟨b3, _, _, e3, hb3, q2⟩
        · exact absurd rfl hji
        · exact absurd hj (by simp)
      · exact absurd ho (by simp)
    case done =>
      intro u wx hG hF
      obtain ⟨b3, x, y, e3, hb3, hk3⟩ := hF 7 (by decide)
      obtain ⟨b3', e3', hk3'⟩ := hF 8 (by decide)
      obtain ⟨A8, c8, r8, e8, h8⟩ := hF 2 (by decide)
      obtain ⟨A9, c9, r9, e9, h9⟩ := hF 5 (by decide)
      have hb : b3' = b3 := by rw [e3'] at e3; simpa using e3
      subst hb
      dsimp only
      go_wp2_with fail
      go_meet
      case rel => exact ⟨⟨b3', u 8, u 11, r8, r9, rfl, hb3, hk3', hG, h8, h9⟩⟩
  case rest =>
    obtain ⟨b3, v0, v1, rows0, rows1, rfl, hb3, k3, hBW, h0, h1⟩ := hcut.out
    clear hcut
    obtain ⟨A3, c3, hv0⟩ := Kd.R_slice h0.2.2
    obtain ⟨A4, c4, hv1⟩ := Kd.R_slice h1.2.2
    rw [h0.1] at hv0
    rw [h1.1] at hv1
    subst hv0 hv1
    have hK2 : wc.heap[w.heap.size + 1]? = some (.cells #[.slice none 0 0, .slice none 0 0] 30 (0, 0)) := blk_below K2.out hBW
    have hI0 := InvS.start (d := Kd.slice 5 (Kd.int .u8)) (e := 36) (w := W) (B := W.heap.size) (N := wc.heap.size) h0.1 h0.2.2 h0.2.1
    have hBig : l0.length ≤ 9223372036854775807 ∧ l1.length ≤ 9223372036854775807 := ⟨HR0.out.2.1, HR1.out.2.1⟩
    have I0 := Aside0.mk hI0
    have K3 := Aside0.mk k3
    have K20 := Aside0.mk hK2
    have H1 := Aside0.mk h1
    have HBW2 := Aside0.mk hBW
    have GB3 := Aside0.mk hb3
    have BIG := Aside0.mk hBig
    have x0 := (blk_cell k3 0).trans rfl
    clear h0 h1 k3 hK2 hI0 hBW hb3 hBig hlt0 K2 CR0 CR1 HBW x1
    go_wp2_with fail
    clear x0
    go_loopg [16] (l0.length + 1) (fun gg s16 wr => ∃ i : Int, s16 = .int .i64 i ∧ Aside0 (0 ≤ i ∧ i ≤ l0.length ∧ l0.length - i < gg ∧ wc.heap.size ≤ wr.heap.size ∧ Below W.heap.size W wr ∧ wr.heap[b3]? = some (.cells #[.slice A3 l0.length c3, .slice A4 l1.length c4] 30 (0, 0)) ∧ wr.heap[w.heap.size + 1]? = some (.cells #[.slice none 0 0, .slice none 0 0] 30 (0, 0)) ∧ (Kd.raw 2).R 62 wr W.heap.size (fun _ => True) (.slice A4 l1.length c4) rows1 ∧ InvS (Kd.slice 5 (Kd.int .u8)) 36 W W.heap.size wc.heap.size A3 c3 l0 i wr))
    case atStart => exact ⟨0, rfl, ⟨by omega, by omega, by omega, Nat.le_refl _, HBW2.out, K3.out, K20.out, H1.out.2.2, I0.out⟩⟩
    case round =>
      obtain ⟨i, rfl, Z⟩ := hrel
      clear I0 K3 K20 HBW2
      by_cases hlt : i < l0.length
      · have d1 : decide (i < (l0.length : Int)) = true := decide_eq_true hlt
        obtain ⟨h0, hle, hgk, hcs, hBW, k3, k20, hr1, hS⟩ := Z.out
        rcases hS with ⟨h1, _⟩ | ⟨g, rfl, hC⟩
        · rw [h1] at hlt; simp at hlt; omega
        have hin : i.toNat < l0.length := by omega
        have hx : l0[i.toNat]? = some (rd_L1 l0 i) := by unfold rd_L1; rw [List.getD_eq_getElem?_getD, List.getElem?_eq_getElem hin]; rfl
        have HIC := Aside0.mk hC
        obtain ⟨rows, f, hl, hR, hM⟩ := hC
        obtain ⟨cx, hcl, hMc, hcc, _⟩ := Kd.R_elem hR [] i h0 hlt
        have hrow : rows[i.toNat]? = some cx := by
          rw [show cx = rows.getD i.toNat [] from hMc.1, List.getD_eq_getElem?_getD, List.getElem?_eq_getElem (by omega)]; rfl
        obtain ⟨A2, c2, rfl, hl2, hC2⟩ := (hM _ _ _ hx hrow).2 (by omega)
        have hx0 : wr.cell? ⟨g, i.toNat, none⟩ = some (.slice A2 (rd_L1 l0 i).length c2) := by
          have := hcc 0 _ rfl
          simpa [Kd.raw, Kd.slice] using this
        have HLC := Aside0.mk hl2
        have HC2 := Aside0.mk (And.intro (Kd.C_below hC2 hBW) (show (rd_L1 l0 i).length < 140737488355328 from HD.out.1 _ (List.mem_of_getElem? hx)))
        have p1 := eq_true h0
        have p2 := eq_true hlt
        have y0 := (blk_cell k3 0).trans rfl
        have KK := Aside0.mk (And.intro k3 (And.intro k20 (And.intro hr1 (And.intro hBW (And.intro hcs (And.intro hgk (And.intro h0 hlt)))))))
        clear hlt hrow hl2 hC2 hR hM hMc hl hx hcc hcl k3 k20 hr1 hBW hcs hgk hle h0 Z d1
        have HL2 := Aside0.mk (show (rd_L1 l0 i).length ≤ c2 from HLC.out)
        go_upto_region 5 with fail
        go_region_with (go_at_call 52; refine (bytes_Clone.calls A2 c2 (rd_L1 l0 i) _ (by repeat (first | exact HC2.out.1 | (with_reducible refine Kd.C_alloc ?_ _) | (with_reducible refine Kd.C_drewN ?_ _) | (with_reducible refine Kd.C_drew ?_))) HC2.out.2).mono ?_; rintro e w2 ⟨v2, rfl, hR2, hb2⟩; have hbw : Below wr.heap.size wr w2 := below_then (by repeat (first | exact Below.refl _ _ | apply pw_below_drewN | apply below_drew)) (by simp) hb2; have y3 := (hbw.cell (World.block_lt_of_cell? _ _ y0)).trans y0; obtain ⟨Av, cv, hve, _⟩ := Kd.R_reads hR2; subst hve; have hst := InvL.step HIC.out (of_eq_true p1) (of_eq_true p2) KK.out.2.2.2.2.1 KK.out.2.2.2.1.size hbw (Kd.R_lower hR2 (by simp)); have q0 := (hbw.cell (World.block_lt_of_cell? _ _ hx0)).trans hx0; obtain ⟨f0, hst2⟩ := hst; have HST := Aside0.mk hst2; have HBW := Aside0.mk hbw; clear hst2 hbw hR2 hb2)
        all_goals
          go_wp2
          have h2 := of_eq_true p2
          have h1 := of_eq_true p1
          have hw : wrap64 (i + 1) = i + 1 := by have := BIG.out.1; unfold wrap64; omega
          obtain ⟨k3, k20, hr1, hBW0, hcs, hgk, _, _⟩ := KK.out
          obtain ⟨gg, rfl⟩ : ∃ m, gk = m + 1 := ⟨gk - 1, by omega⟩
          have hgB : W.heap.size ≤ g := by
            obtain ⟨rows, f, _, hR, _⟩ := HIC.out
            obtain ⟨inner, ho⟩ := Kd.R_own hR
            exact own_base ho g rfl
          have hgt : ∃ cells, wr.heap[g]? = some (.cells cells 36 (0, 0)) := by
            obtain ⟨rows, f, _, hR, _⟩ := HIC.out
            exact Kd.R_typed hR g rfl
          have hg3 : b3 ≠ g := fun e => by obtain ⟨cells, hc⟩ := hgt; rw [← e, k3] at hc; cases hc
          have hg20 : w.heap.size + 1 ≠ g := fun e => by obtain ⟨cells, hc⟩ := hgt; rw [← e, k20] at hc; cases hc
          have hgo : some g ≠ (Value.slice A4 l1.length c4).ownBlock := fun e => by
            obtain ⟨cells, hc⟩ := hgt
            obtain ⟨cells2, hc2⟩ := Kd.R_typed hr1 g e.symm
            rw [hc] at hc2; cases hc2
          (try rw [hw])
          go_roundg gg
          case measure => omega
          case rel =>
            have hsz := HBW.out.size
            have hsz2 := HST.out.2.size
            refine ⟨i + 1, rfl, ⟨by omega, by omega, by omega, by omega, (hBW0.trans (HBW.out.mono hBW0.size)).grown HST.out.2 (by have := hBW0.size; omega) (fun j hj => by cases hj; omega), ?_, ?_, ?_, .inr ⟨g, rfl, HST.out.1⟩⟩⟩
            · exact blk_grown (blk_below k3 HBW.out) HST.out.2 (fun e => hg3 (Option.some.inj e))
            · exact blk_grown (blk_below k20 HBW.out) HST.out.2 (fun e => hg20 (Option.some.inj e))
            · exact Kd.R_grown (Kd.R_types (Kd.R_below hr1 HBW.out) (g := g) (t := 36) (cells := hgt.choose) (blk_below hgt.choose_spec HBW.out) (by decide)) HST.out.2 (fun k hk e => hk.2 (Option.some.inj e)) |> fun h => Kd.R_mono h (fun _ _ => trivial)
      · have d1 : decide (i < (l0.length : Int)) = false := decide_eq_false hlt
        obtain ⟨h0, hle, hgk, hcs, hBW, k3, k20, hr1, hS⟩ := Z.out
        have hF := Kd.S_mono (ok' := fun k => k < wr.heap.size) (Kd.S_bound (hS.done (by omega))) (fun k hk => hk.2.2.1)
        have hI1 := InvS.start (d := k62) (e := 62) (w := W) (B := W.heap.size) (N := wr.heap.size) H1.out.1 hr1 H1.out.2.1
        have y1 := (blk_cell k3 1).trans rfl
        have S0 := Aside0.mk hF
        have I1 := Aside0.mk hI1
        have K3 := Aside0.mk k3
        have K20 := Aside0.mk k20
        have HBW2 := Aside0.mk hBW
        clear hF hI1 k3 k20 hBW hS hr1 Z hle hgk hcs h0 hlt H1
        go_wp2_with fail
        clear y1 d1
        obtain ⟨wo, rfl⟩ : ∃ wo : World, wo = wr := ⟨_, rfl⟩
        go_loopg [33] (l1.length + 1) (fun gg s33 wr => ∃ i : Int, s33 = .int .i64 i ∧ Aside0 (0 ≤ i ∧ i ≤ l1.length ∧ l1.length - i < gg ∧ wo.heap.size ≤ wr.heap.size ∧ Below W.heap.size W wr ∧ wr.heap[b3]? = some (.cells #[.slice A3 l0.length c3, .slice A4 l1.length c4] 30 (0, 0)) ∧ wr.heap[w.heap.size + 1]? = some (.cells #[.slice none 0 0, .slice none 0 0] 30 (0, 0)) ∧ Kd.S (Kd.slice 5 (Kd.int .u8)) 36 wr W.heap.size (fun k => k < wo.heap.size) (.slice A3 l0.length c3) l0 ∧ InvS k62 62 W W.heap.size wo.heap.size A4 c4 l1 i wr))
        case atStart => exact ⟨0, rfl, ⟨by omega, by omega, by omega, Nat.le_refl _, HBW2.out, K3.out, K20.out, S0.out, I1.out⟩⟩
        case round =>
          obtain ⟨i, rfl, Z⟩ := hrel
          clear I1 K3 K20 HBW2 S0
          by_cases hlt : i < l1.length
          · obtain ⟨h0, hle, hgk, hcs, hBW, k3, k20, hs0, hS⟩ := Z.out
            rcases hS with ⟨h1, _⟩ | ⟨g, rfl, hC⟩
            · rw [h1] at hlt; simp at hlt; omega
            have hin : i.toNat < l1.length := by omega
            have hx : l1[i.toNat]? = some (rd_T62 l1 i) := by unfold rd_T62; rw [List.getD_eq_getElem?_getD, List.getElem?_eq_getElem hin]; rfl
            have HIC := Aside0.mk hC
            obtain ⟨rows, f, hl, hR, hM⟩ := hC
            obtain ⟨cx, hcl, hMc, hcc, _⟩ := Kd.R_elem hR [] i h0 hlt
            have hrow : rows[i.toNat]? = some cx := by
              rw [show cx = rows.getD i.toNat [] from hMc.1, List.getD_eq_getElem?_getD, List.getElem?_eq_getElem (by omega)]; rfl
            obtain ⟨A2, c2, rfl, hl2, hC2⟩ := k62_open ((hM _ _ _ hx hrow).2 (by omega))
            have hx0 : wr.cell? ⟨g, i.toNat * 2 + 1, none⟩ = some (.slice A2 (rd_T62 l1 i).f1.length c2) := hcc 1 _ rfl
            have HC2 := Aside0.mk (And.intro (Kd.C_below hC2 hBW) (show (rd_T62 l1 i).f1.length < 140737488355328 from HD.out.2 _ (List.mem_of_getElem? hx)))
            have p1 := eq_true h0
            have p2 := eq_true hlt
            have y0 := (blk_cell k3 1).trans rfl
            have KK := Aside0.mk (And.intro k3 (And.intro k20 (And.intro hs0 (And.intro hBW (And.intro hcs (And.intro hgk (And.intro h0 hlt)))))))
            clear hlt hrow hl2 hC2 hR hM hMc hl hx hcc hcl k3 k20 hs0 hBW hcs hgk hle h0 Z
            go_upto_region 10 with fail
            go_region_with (go_at_call 52; refine (bytes_Clone.calls A2 c2 (rd_T62 l1 i).f1 _ (by repeat (first | exact HC2.out.1 | (with_reducible refine Kd.C_alloc ?_ _) | (with_reducible refine Kd.C_drewN ?_ _) | (with_reducible refine Kd.C_drew ?_))) HC2.out.2).mono ?_; rintro e w2 ⟨v2, rfl, hR2, hb2⟩; have hbw : Below wr.heap.size wr w2 := below_then (by repeat (first | exact Below.refl _ _ | apply pw_below_drewN | apply below_drew)) (by simp) hb2; have y3 := (hbw.cell (World.block_lt_of_cell? _ _ y0)).trans y0; obtain ⟨Av, cv, hve, _⟩ := Kd.R_reads hR2; subst hve; have hst := InvW.step HIC.out (of_eq_true p1) (of_eq_true p2) KK.out.2.2.2.2.1 KK.out.2.2.2.1.size hbw (Kd.R_lower hR2 (by simp)); have q0 := (hbw.cell (World.block_lt_of_cell? _ _ hx0)).trans hx0; obtain ⟨f0, hst2⟩ := hst; have HST := Aside0.mk hst2; have HBW := Aside0.mk hbw; clear hst2 hbw hR2 hb2)
            all_goals
              go_wp2
              have h2 := of_eq_true p2
              have h1 := of_eq_true p1
              have hw : wrap64 (i + 1) = i + 1 := by have := BIG.out.2; unfold wrap64; omega
              obtain ⟨k3, k20, hs0, hBW0, hcs, hgk, _, _⟩ := KK.out
              obtain ⟨gg, rfl⟩ : ∃ m, gk = m + 1 := ⟨gk - 1, by omega⟩
              have hgB : W.heap.size ≤ g := by
                obtain ⟨rows, f, _, hR, _⟩ := HIC.out
                obtain ⟨inner, ho⟩ := Kd.R_own hR
                exact own_base ho g rfl
              have hgt : ∃ cells, wr.heap[g]? = some (.cells cells 62 (0, 0)) := by
                obtain ⟨rows, f, _, hR, _⟩ := HIC.out
                exact Kd.R_typed hR g rfl
              have hg3 : b3 ≠ g := fun e => by obtain ⟨cells, hc⟩ := hgt; rw [← e, k3] at hc; cases hc
              have hg20 : w.heap.size + 1 ≠ g := fun e => by obtain ⟨cells, hc⟩ := hgt; rw [← e, k20] at hc; cases hc
              (try rw [hw])
              go_roundg gg
              case measure => omega
              case rel =>
                have hsz := HBW.out.size
                have hsz2 := HST.out.2.size
                refine ⟨i + 1, rfl, ⟨by omega, by omega, by omega, by omega, (hBW0.trans (HBW.out.mono hBW0.size)).grown HST.out.2 (by have := hBW0.size; omega) (fun j hj => by cases hj; omega), ?_, ?_, ?_, .inr ⟨g, rfl, HST.out.1⟩⟩⟩
                · exact blk_grown (blk_below k3 HBW.out) HST.out.2 (fun e => hg3 (Option.some.inj e))
                · exact blk_grown (blk_below k20 HBW.out) HST.out.2 (fun e => hg20 (Option.some.inj e))
                · exact Kd.S_grown (Kd.S_types (Kd.S_below hs0 HBW.out) (g := g) (t := 62) (cells := hgt.choose) (blk_below hgt.choose_spec HBW.out) (by decide)) HST.out.2 (fun k hk e => hk.2 (Option.some.inj e)) |> fun h => Kd.S_mono h (fun _ hk => hk.1)
          · have d1 : decide (i < (l1.length : Int)) = false := decide_eq_false hlt
            obtain ⟨h0, hle, hgk, hcs, hBW, k3, k20, hs0, hS⟩ := Z.out
            have hF := hS.done (by omega)
            have y0 := (blk_cell k3 0).trans rfl
            have y1 := (blk_cell k3 1).trans rfl
            have z0 := (blk_cell k20 0).trans rfl
            have z1 := (blk_cell k20 1).trans rfl
            have f0 := blk_frozen k20 0
            have f1 := blk_frozen k20 1
            have S0 := Aside0.mk hs0
            have S1 := Aside0.mk hF
            have K20 := Aside0.mk k20
            have HBW2 := Aside0.mk hBW
            clear hF k3 k20 hBW hS hs0 Z hle hgk hcs h0 hlt
            go_wp2
            have q1 := blk_put K20.out 0 (.slice A3 l0.length c3) (cs' := #[.slice A3 l0.length c3, .slice none 0 0]) rfl
            refine bodyPost_ret (results_cell_row rfl _ _ (w.heap.size + 1) 30 #[.slice A3 l0.length c3, .slice A4 l1.length c4] (0, 0) _ rfl (blk_put q1 1 _ rfl) Try.underlying30 rfl (by kernel_rfl)) rfl ?_
            refine ⟨_, _, wo.heap.size, rfl, Kd.S_lower (Kd.S_set (Kd.S_set S0.out K20.out (by decide) 0 _) q1 (by decide) 1 _) HB.out.size, Kd.S_lower (Kd.S_set (Kd.S_set S1.out K20.out (by decide) 0 _) q1 (by decide) 1 _) HB.out.size, ((HB.out.trans (HBW2.out.mono HB.out.size)).setCell (by simp) _).setCell (by simp) _⟩

-- NOT PRINTED: function 29 (disk_land)

/-! ### disk_Crash: function 9 -/
theorem check0 {l0 : List (List Int)} {l1 : List S62} (h : disk_Check.v l0 l1 = 0) : 1 ≤ l0.length ∧ l0.length ≤ 2048 ∧ l1.length ≤ 4096 ∧ (∀ x ∈ l0, x.length = 64) ∧ ∀ x ∈ l1, 0 ≤ x.f0 ∧ x.f0 < l0.length ∧ x.f1.length = 64 := by
  unfold disk_Check.v at h
  split at h
  · cases h
  · rename_i hn
    simp only [not_or, Bool.not_eq_true] at hn
    obtain ⟨h1, h2, h3, h4, h5⟩ := hn
    rw [List.any_eq_false] at h4 h5
    refine ⟨by omega, by omega, by omega, fun x hx => ?_, fun x hx => ?_⟩
    · have := h4 x hx
      unfold odd at this
      simp at this
      omega
    · have := h5 x hx
      unfold wbad odd at this
      simp at this
      omega
/-- What stands in the sectors when n writes have come up. -/
def landN (kp : Int → Bool) (l0 : List (List Int)) (l1 : List S62) : Nat → List (List Int)
  | 0 => l0
  | n + 1 => if kp n = true then (landN kp l0 l1 n).set (rd_T62 l1 n).f0.toNat (rd_T62 l1 n).f1 else landN kp l0 l1 n
theorem landN_length (kp : Int → Bool) (l0 : List (List Int)) (l1 : List S62) : ∀ n, (landN kp l0 l1 n).length = l0.length
  | 0 => rfl
  | n + 1 => by
    rw [landN]
    split
    · rw [List.length_set]; exact landN_length kp l0 l1 n
    · exact landN_length kp l0 l1 n
theorem rd62_mem {l1 : List S62} {n : Nat} (h : n < l1.length) : rd_T62 l1 n ∈ l1 := by
  unfold rd_T62
  rw [Int.toNat_natCast, List.getD_eq_getElem?_getD, List.getElem?_eq_getElem h]
  exact List.getElem_mem h
theorem landN_64 {kp : Int → Bool} {l0 : List (List Int)} {l1 : List S62} (h0 : ∀ x ∈ l0, x.length = 64) (h1 : ∀ x ∈ l1, 0 ≤ x.f0 ∧ x.f0 < l0.length ∧ x.f1.length = 64) : ∀ n, n ≤ l1.length → ∀ x ∈ landN kp l0 l1 n, x.length = 64
  | 0, _, x, hx => h0 x hx
  | n + 1, hn, x, hx => by
    rw [landN] at hx
    split at hx
    · rcases List.mem_or_eq_of_mem_set hx with h | h
      · exact landN_64 h0 h1 n (by omega) x h
      · subst h
        exact (h1 _ (rd62_mem (by omega))).2.2
    · exact landN_64 h0 h1 n (by omega) x hx
def landR (kp : Int → Bool) (l0 : List (List Int)) (l1 : List S62) : List (List Int) × List S62 × Int := if disk_Check.v l0 l1 = 0 then (landN kp l0 l1 l1.length, [], 0) else ([], [], 9)
theorem checkv_cases (l0 : List (List Int)) (l1 : List S62) : disk_Check.v l0 l1 = 0 ∨ disk_Check.v l0 l1 = 9 := by unfold disk_Check.v; split <;> simp
set_option maxHeartbeats 16000000 in
set_option maxRecDepth 100000 in
theorem disk_land.calls (A0 : Option Addr) (c0 : Nat) (l0 : List (List Int)) (A1 : Option Addr) (c1 : Nat) (l1 : List S62) (kp : Int → Bool) (g : Nat) (lb : Array Value) (eg : ∀ args w, (callFunc g args).run Try.prog w = .ok (.enter g args) w) (w : World)
    (hr0 : Kd.C (Kd.slice 5 (Kd.int .u8)) w A0 l0.length l0) (hc0 : l0.length ≤ c0) (hr1 : Kd.C k62 w A1 l1.length l1) (hc1 : l1.length ≤ c1)
    (hp : ∀ W (i : Int), Below w.heap.size w W → 0 ≤ i → i < l1.length → Calls Try.prog g (#[.int .i64 i] ++ lb) W fun e w' => e = .returned (.bool (kp i)) ∧ Below W.heap.size W w') :
    Calls Try.prog 29 #[.agg #[.slice A0 l0.length c0, .slice A1 l1.length c1], .func (.func g) #[] lb] w fun e w' => ∃ v0 v1 : Value, e = .returned (.tuple #[.agg #[v0, v1], .int .i64 (landR kp l0 l1).2.2]) ∧ Kd.S (Kd.slice 5 (Kd.int .u8)) 36 w' w.heap.size (fun _ => True) v0 (landR kp l0 l1).1 ∧ Kd.S k62 62 w' w.heap.size (fun _ => True) v1 (landR kp l0 l1).2.1 ∧ Below w.heap.size w w' := by
  have hu30 := Try.underlying30
  have hu62 := Try.underlying62
  have HR0 := Aside0.mk hr0
  have HR1 := Aside0.mk hr1
  have HC := Aside0.mk (And.intro hc0 hc1)
  have HP := Aside0.mk hp
  have hk1 := blk_alloc (heap_alloc_new w (.cells #[.slice A0 l0.length c0, .slice A1 l1.length c1] 30)) (.cells #[.slice none 0 0, .slice none 0 0] 30)
  have hk2 : ((w.alloc (.cells #[.slice A0 l0.length c0, .slice A1 l1.length c1] 30)).alloc (.cells #[.slice none 0 0, .slice none 0 0] 30)).heap[w.heap.size + 1]? = some (.cells #[.slice none 0 0, .slice none 0 0] 30 (0, 0)) := by have := heap_alloc_new (w.alloc (.cells #[.slice A0 l0.length c0, .slice A1 l1.length c1] 30)) (.cells #[.slice none 0 0, .slice none 0 0] 30); simpa using this
  have HB := Aside0.mk (below_alloc (below_alloc (Below.refl w.heap.size w) (.cells #[.slice A0 l0.length c0, .slice A1 l1.length c1] 30)) (.cells #[.slice none 0 0, .slice none 0 0] 30))
  have K1 := Aside0.mk hk1
  have K2 := Aside0.mk hk2
  clear hr0 hr1 hc0 hc1 hp hk1 hk2
  rcases checkv_cases l0 l1 with hv | hv
  · have e0 : landR kp l0 l1 = (landN kp l0 l1 l1.length, [], 0) := by unfold landR; rw [if_pos hv]
    rw [e0]
    obtain ⟨q1, q2, q3, q4, q5⟩ := check0 hv
    have HQ := Aside0.mk (And.intro q1 (And.intro q2 (And.intro q3 (And.intro q4 q5))))
    have HV := Aside0.mk (show disk_Check.f l0 l1 = some 0 by unfold disk_Check.f; rw [hv])
    clear e0 hv q1 q2 q3 q4 q5
    go_enter Try.func29, Try.ntmps29
    go_wp2_with (first | (go_at_call 22; refine (disk_Check.calls A0 c0 l0 A1 c1 l1 0 _ (Kd.C_below HR0.out HB.out) HC.out.1 (Kd.C_below HR1.out HB.out) HC.out.2 HV.out).mono ?_; rintro e w1 ⟨rfl, hb⟩; replace K1 := Aside0.mk (blk_below K1.out hb); replace K2 := Aside0.mk (blk_below K2.out hb); replace HB := Aside0.mk (HB.out.trans (hb.mono HB.out.size)); clear hb; have x0 := (blk_cell K1.out 0).trans rfl; have x1 := (blk_cell K1.out 1).trans rfl) | (go_at_call 45; refine (disk_State_clone.calls A0 c0 l0 A1 c1 l1 _ (Kd.C_below HR0.out HB.out) (Kd.C_below HR1.out HB.out) (by have := HQ.out; omega) (by have := HQ.out; omega) (fun x hx => by have := HQ.out.2.2.2.1 x hx; omega) (fun x hx => by have := (HQ.out.2.2.2.2 x hx).2.2; omega)).mono ?_; rintro e w2 ⟨v0, v1, N, rfl, hs0, hs1, hb⟩; obtain ⟨A3, c3, rfl⟩ := Kd.S_slice hs0; obtain ⟨A4, c4, rfl⟩ := Kd.S_slice hs1; have G7 := Aside0.mk (show w.heap.size + 2 ≤ w2.heap.size from Nat.le_trans (Nat.succ_le_of_lt (blk_lt K2.out)) hb.size); have S0 := Aside0.mk (Kd.S_alloc (Kd.S_lower hs0 HB.out.size) (.cells #[.slice A3 l0.length c3, .slice A4 l1.length c4] 30)); have S1 := Aside0.mk (Kd.S_alloc (Kd.S_lower hs1 HB.out.size) (.cells #[.slice A3 l0.length c3, .slice A4 l1.length c4] 30)); replace K2 := Aside0.mk (blk_alloc (blk_below K2.out hb) (.cells #[.slice A3 l0.length c3, .slice A4 l1.length c4] 30)); have K7 := Aside0.mk (heap_alloc_new w2 (.cells #[.slice A3 l0.length c3, .slice A4 l1.length c4] 30)); replace HB := Aside0.mk (below_alloc (HB.out.trans (hb.mono HB.out.size)) (.cells #[.slice A3 l0.length c3, .slice A4 l1.length c4] 30)); clear hb hs0 hs1))
    have B7 := Aside0.mk (show w.heap.size ≤ w2.heap.size by have := G7.out; omega)
    have N7 := Aside0.mk (show w.heap.size + 1 ≠ w2.heap.size by have := G7.out; omega)
    have L64 := Aside0.mk (landN_64 (kp := kp) HQ.out.2.2.2.1 HQ.out.2.2.2.2)
    clear G7 HR0 HR1 HC HV K1 x0 x1
    generalize w2.heap.size = b7 at *
    have S00 := Aside0.mk (show Kd.S (Kd.slice 5 (Kd.int .u8)) 36 (w2.alloc (.cells #[.slice A3 l0.length c3, .slice A4 l1.length c4] 30)) w.heap.size (fun k => k < N) (.slice A3 l0.length c3) (landN kp l0 l1 (0 : Int).toNat) from S0.out)
    clear S0
    go_loopg [21] (l1.length + 1) (fun gg s21 wr => ∃ i : Int, s21 = .int .i64 i ∧ Aside0 (0 ≤ i ∧ i ≤ l1.length ∧ l1.length - i < gg ∧ Below w.heap.size w wr ∧ wr.heap[b7]? = some (.cells #[.slice A3 l0.length c3, .slice A4 l1.length c4] 30 (0, 0)) ∧ wr.heap[w.heap.size + 1]? = some (.cells #[.slice none 0 0, .slice none 0 0] 30 (0, 0)) ∧ Kd.S (Kd.slice 5 (Kd.int .u8)) 36 wr w.heap.size (fun k => k < N) (.slice A3 l0.length c3) (landN kp l0 l1 i.toNat) ∧ Kd.S k62 62 wr w.heap.size (fun k => some k = (Value.slice A4 l1.length c4).ownBlock ∨ N ≤ k) (.slice A4 l1.length c4) l1))
    case atStart => exact ⟨0, rfl, ⟨by omega, by omega, by omega, HB.out, K7.out, K2.out, S00.out, S1.out⟩⟩
    case round =>
      obtain ⟨i, rfl, Z⟩ := hrel
      clear HB K7 K2 S00 S1
      by_cases hlt : i < l1.length
      · obtain ⟨h0, hle, hgk, hBW, k7, k2, hs0, hs1⟩ := Z.out
        obtain ⟨g4, cc4, he4, _, hg4l, _⟩ := Kd.S_form hs1 (by omega)
        simp only [Value.slice.injEq] at he4
        obtain ⟨rfl, he5, rfl⟩ := he4
        clear he5
        obtain ⟨cx, hcl, hMc, hcc, _⟩ := Kd.R_elem (Kd.S_R hs1) z62 i h0 hlt
        obtain ⟨v2, rfl, hv2⟩ := k62_openM hMc
        obtain ⟨Ad, cd, rfl⟩ := Kd.R_slice hv2
        have hrd : l1.getD i.toNat z62 = rd_T62 l1 i := rfl
        rw [hrd] at hv2 hcc
        have hx0 : wr.cell? ⟨g4, i.toNat * 2, none⟩ = some (.int .i64 (rd_T62 l1 i).f0) := hcc 0 _ rfl
        have hx1 : wr.cell? ⟨g4, i.toNat * 2 + 1, none⟩ = some (.slice Ad (rd_T62 l1 i).f1.length cd) := hcc 1 _ rfl
        have hmem : rd_T62 l1 i ∈ l1 := by
          obtain ⟨m, rfl⟩ := Int.eq_ofNat_of_zero_le h0
          exact rd62_mem (by omega)
        have HM := Aside0.mk (HQ.out.2.2.2.2 _ hmem)
        have p1 := eq_true h0
        have p2 := eq_true hlt
        have X := Aside0.mk (And.intro h0 (And.intro hlt (And.intro hgk (And.intro hBW (And.intro k7 (And.intro k2 (And.intro hs0 (And.intro hs1 hv2))))))))
        have hcall := HP.out (wr.alloc (.cells #[.int .i64 (rd_T62 l1 i).f0, .slice Ad (rd_T62 l1 i).f1.length cd] 62)) i (below_alloc hBW _) h0 hlt
        clear hlt h0 hgk hBW k7 k2 hs0 hs1 hv2 hcc hMc hcl hmem hle Z hrd hg4l
        cases hq : kp i with
        | false =>
          rw [hq] at hcall
          have HKQ := Aside0.mk hq
          clear hq
          go_wp2_with (go_at_fn g; refine hcall.mono ?_; rintro e w3 ⟨rfl, hb3⟩; have HB3 := Aside0.mk hb3; clear hb3)
          obtain ⟨h0, hlt, hgk, hBW, k7, k2, hs0, hs1, _⟩ := X.out
          have hb3 := HB3.out
          have hsz := hb3.size
          have hw : wrap64 (i + 1) = i + 1 := by have := HQ.out.2.2.1; unfold wrap64; omega
          obtain ⟨gg, rfl⟩ : ∃ m, gk = m + 1 := ⟨gk - 1, by omega⟩
          (try rw [hw])
          have e1 : landN kp l0 l1 (i + 1).toNat = landN kp l0 l1 i.toNat := by
            obtain ⟨m, rfl⟩ := Int.eq_ofNat_of_zero_le h0
            rw [show ((m : Int) + 1).toNat = m + 1 by omega, landN, HKQ.out, if_neg (by decide)]
            rfl
          go_roundg gg
          case measure => omega
          case rel => exact ⟨i + 1, rfl, ⟨by omega, by omega, by omega, (below_alloc hBW _).trans (hb3.mono (by have := hBW.size; simp; omega)), blk_below (blk_alloc k7 _) hb3, blk_below (blk_alloc k2 _) hb3, by rw [e1]; exact Kd.S_below (Kd.S_alloc hs0 _) hb3, Kd.S_below (Kd.S_alloc hs1 _) hb3⟩⟩
        | true =>
          rw [hq] at hcall
          have HKQ := Aside0.mk hq
          clear hq
          go_upto_region 9 with (go_at_fn g; refine hcall.mono ?_; rintro e w3 ⟨rfl, hb3⟩; have HB3 := Aside0.mk hb3; clear hb3)
          obtain ⟨h0, hlt, hgk, hBW, k7, k2, hs0, hs1, hv2⟩ := X.out
          have hb3 := HB3.out
          have hBW3 := (below_alloc hBW (.cells #[.int .i64 (rd_T62 l1 i).f0, .slice Ad (rd_T62 l1 i).f1.length cd] 62)).trans (hb3.mono (by have := hBW.size; simp; omega))
          have j7 := blk_below (blk_alloc k7 (.cells #[.int .i64 (rd_T62 l1 i).f0, .slice Ad (rd_T62 l1 i).f1.length cd] 62)) hb3
          have j2 := blk_below (blk_alloc k2 (.cells #[.int .i64 (rd_T62 l1 i).f0, .slice Ad (rd_T62 l1 i).f1.length cd] 62)) hb3
          have j9 := blk_below (heap_alloc_new wr (.cells #[.int .i64 (rd_T62 l1 i).f0, .slice Ad (rd_T62 l1 i).f1.length cd] 62)) hb3
          have hs0' := Kd.S_below (Kd.S_alloc hs0 (.cells #[.int .i64 (rd_T62 l1 i).f0, .slice Ad (rd_T62 l1 i).f1.length cd] 62)) hb3
          have hs1' := Kd.S_below (Kd.S_alloc hs1 (.cells #[.int .i64 (rd_T62 l1 i).f0, .slice Ad (rd_T62 l1 i).f1.length cd] 62)) hb3
          have hv2' := Kd.R_below (Kd.R_alloc hv2 (.cells #[.int .i64 (rd_T62 l1 i).f0, .slice Ad (rd_T62 l1 i).f1.length cd] 62)) hb3
          have hln := landN_length kp l0 l1 i.toNat
          obtain ⟨g3, cc3, he3, _, hg3l, _⟩ := Kd.S_form hs0' (by have := HQ.out.1; omega)
          simp only [Value.slice.injEq] at he3
          obtain ⟨rfl, he6, rfl⟩ := he3
          clear he6
          obtain ⟨oki, c, hcl, hM, hcc, hoki, hH⟩ := Kd.S_lend hs0' ([] : List Int) (rd_T62 l1 i).f0 HM.out.1 HM.out.2.1
          obtain ⟨vd, rfl, hvd⟩ := hM
          have hlsd : ((landN kp l0 l1 i.toNat).getD (rd_T62 l1 i).f0.toNat []).length = 64 := by
            have hn : (rd_T62 l1 i).f0.toNat < (landN kp l0 l1 i.toNat).length := by have := HM.out.1; have := HM.out.2.1; omega
            rw [List.getD_eq_getElem?_getD, List.getElem?_eq_getElem hn]
            exact L64.out i.toNat (by omega) _ (List.getElem_mem hn)
          generalize (landN kp l0 l1 i.toNat).getD (rd_T62 l1 i).f0.toNat [] = lsd at hvd hlsd
          obtain ⟨gd, cq, rfl, _, _, _⟩ := Kd.R_form hvd (by omega)
          have x7 := (blk_cell j7 0).trans rfl
          have x90 := (blk_cell j9 0).trans rfl
          have x91 := (blk_cell j9 1).trans rfl
          have hxs : w3.cell? ⟨g3, (rd_T62 l1 i).f0.toNat, none⟩ = some (.slice (some ⟨gd, 0, none⟩) lsd.length cq) := by
            have := hcc 0 _ rfl
            simpa [Kd.slice] using this
          have p3 := eq_true HM.out.1
          have p4 := eq_true HM.out.2.1
          have HS0 := Aside0.mk (And.intro (Kd.H_drew hH) (Kd.R_drew hvd))
          have HS1 := Aside0.mk (And.intro (Kd.S_drew hs1') (Kd.R_drew hv2'))
          have HBD := Aside0.mk (below_drew hBW3)
          have J7 := Aside0.mk (And.intro (blk_drew j7) (blk_drew j2))
          have HG := Aside0.mk hgk
          have HOK := Aside0.mk hoki
          have HLS := Aside0.mk hlsd
          clear hlt h0 hgk hBW k7 k2 hs0 hs1 hv2 hb3 hBW3 j7 j2 j9 hs0' hs1' hv2' hln hg3l hcl hcc hoki hH hvd hlsd hx0 hx1
          go_still_tail 8, (by kernel_rfl)
          change wpList _ _ _ _ _ w3.drew
          generalize w3.drew = w4 at HS0 HS1 HBD J7 ⊢
          clear x7 x90 x91 hxs
          go_wp2_with ((with_reducible refine gate_builtin (b := .copy) (xs := #[.tmp 34, .tmp 36]) rfl ?_); refine Kd.R_copy (enc := Value.int .u8) (h1 := fun _ => rfl) (0 : Int) (w0 := w) w.heap.size rfl (.tmp 34) (.tmp 36) 36 36 5 rfl Try.underlying36 (by kernel_rfl) (.slice (some ⟨gd, 0, none⟩) lsd.length cq) lsd (rd_T62 l1 i).f1 Ad (rd_T62 l1 i).f1.length cd oki rfl rfl HS0.out.2 (Kd.R_reads' HS1.out.2).2.2 HBD.out HBD.out.size ?_; intro w5 ho hb hg; have W5 := Aside0.mk (And.intro ho (And.intro hb hg)); clear ho hb hg)
          obtain ⟨ho, hb, hg⟩ := W5.out
          have hgk := HG.out
          have h0 := of_eq_true p1
          have hlt := of_eq_true p2
          have hw : wrap64 (i + 1) = i + 1 := by have := HQ.out.2.2.1; unfold wrap64; omega
          obtain ⟨gg, rfl⟩ : ∃ m, gk = m + 1 := ⟨gk - 1, by omega⟩
          (try rw [hw])
          have e1 : landN kp l0 l1 (i + 1).toNat = (landN kp l0 l1 i.toNat).set (rd_T62 l1 i).f0.toNat (rd_T62 l1 i).f1 := by
            obtain ⟨m, rfl⟩ := Int.eq_ofNat_of_zero_le h0
            rw [show ((m : Int) + 1).toNat = m + 1 by omega, landN, HKQ.out, if_pos rfl]
            rfl
          have hmin : min (rd_T62 l1 i).f1.length lsd.length = 64 := by have := HM.out.2.2; have := HLS.out; omega
          rw [hmin, List.take_of_length_le (by have := HM.out.2.2; omega), List.drop_eq_nil_of_le (by have := HLS.out; omega), List.append_nil] at ho
          have hrow : ∀ k, (Value.slice (some ⟨gd, 0, none⟩) lsd.length cq).ownBlock = some k → oki k := HS0.out.2.1
          have hty := Kd.R_typed HS0.out.2 gd rfl
          have ho' : (Kd.int .u8).R 5 w5 w.heap.size oki (.slice (some ⟨gd, 0, none⟩) lsd.length cq) (rd_T62 l1 i).f1 := ho
          have hNk := (HOK.out gd (hrow gd rfl)).1
          have hne4 : some gd ≠ (Value.slice (some ⟨g4, 0, none⟩) l1.length c4).ownBlock := fun e => by
            obtain ⟨cells, hc⟩ := hty
            obtain ⟨cells2, hc2⟩ := Kd.S_typed HS1.out.1 gd e.symm
            rw [hc] at hc2; cases hc2
          have hbne : ∀ b o, w4.heap[b]? = some o → (∀ cells, o ≠ .cells cells 5 (0, 0)) → some b ≠ (Value.slice (some ⟨gd, 0, none⟩) lsd.length cq).ownBlock := fun b o hbo hno e => by
            obtain ⟨cells, hc⟩ := hty
            have : b = gd := by simpa [Value.ownBlock] using e
            rw [this, hc] at hbo
            exact hno cells (Option.some.inj hbo).symm
          go_roundg gg
          case measure => omega
          case rel => exact ⟨i + 1, rfl, ⟨by omega, by omega, by omega, hb, blk_grown J7.out.1 hg (hbne _ _ J7.out.1 (fun cells h => by cases h)), blk_grown J7.out.2 hg (hbne _ _ J7.out.2 (fun cells h => by cases h)), by rw [e1]; exact Kd.H_back (Kd.H_grown HS0.out.1 hg (fun k hk => hrow k hk)) ⟨_, rfl, ho'⟩ (fun k hk => hk), Kd.S_grown HS1.out.1 hg (fun k hk e => by
            have e2 : k = gd := by simpa [Value.ownBlock] using e
            subst e2
            rcases hk with h | h
            · exact hne4 h
            · omega)⟩⟩
      · have d1 : decide (i < (l1.length : Int)) = false := decide_eq_false hlt
        obtain ⟨h0, hle, hgk, hBW, k7, k2, hs0, hs1⟩ := Z.out
        have hi : i.toNat = l1.length := by omega
        rw [hi] at hs0
        have y0 := (blk_cell k7 0).trans rfl
        have y1 := (blk_cell k7 1).trans rfl
        have f1 := blk_frozen k7 1
        have z0 := (blk_cell k2 0).trans rfl
        have z1 := (blk_cell k2 1).trans rfl
        have f20 := blk_frozen k2 0
        have f21 := blk_frozen k2 1
        have n1 := N7.out
        have n2 := N7.out.symm
        have S0 := Aside0.mk hs0
        have K2 := Aside0.mk k2
        have K7 := Aside0.mk k7
        have HBW2 := Aside0.mk hBW
        clear k2 k7 hBW hs0 hs1 Z hle hgk h0 hlt hi
        go_wp2
        have q0 := blk_put K7.out 1 (.slice none 0 0) (cs' := #[.slice A3 l0.length c3, .slice none 0 0]) rfl
        have q1 := blk_put (blk_far K2.out n1 (.slice none 0 0) (p := ⟨b7, 1, none⟩)) 0 (.slice A3 l0.length c3) (cs' := #[.slice A3 l0.length c3, .slice none 0 0]) rfl
        refine bodyPost_ret (results_list (rs := [.cell 4 30, .tmp 5]) rfl (by simp) (.cell (w.heap.size + 1) 30 #[.slice A3 l0.length c3, .slice none 0 0] (0, 0) _ rfl (blk_put q1 1 _ rfl) Try.underlying30 rfl (by kernel_rfl) (.tmp .nil))) rfl ?_
        exact ⟨_, _, rfl, Kd.S_mono (Kd.S_set (Kd.S_set (Kd.S_set S0.out K7.out (by decide) 1 _) (blk_far K2.out n1 (.slice none 0 0) (p := ⟨b7, 1, none⟩)) (by decide) 0 _) q1 (by decide) 1 _) (fun _ _ => trivial), Kd.S_nil _ _ _ _ _, below_set (below_set (below_set HBW2.out B7.out) (by omega)) (by omega)⟩
  · have e0 : landR kp l0 l1 = ([], [], 9) := by unfold landR; rw [if_neg (by rw [hv]; decide)]
    rw [e0]
    have HV := Aside0.mk (show disk_Check.f l0 l1 = some 9 by unfold disk_Check.f; rw [hv])
    clear e0 hv
    go_enter Try.func29, Try.ntmps29
    go_wp2_with (first | (go_at_call 22; refine (disk_Check.calls A0 c0 l0 A1 c1 l1 9 _ (Kd.C_below HR0.out HB.out) HC.out.1 (Kd.C_below HR1.out HB.out) HC.out.2 HV.out).mono ?_; rintro e w1 ⟨rfl, hb⟩; replace K2 := Aside0.mk (blk_below K2.out hb); replace HB := Aside0.mk (HB.out.trans (hb.mono HB.out.size)); clear hb; have z0 := (blk_cell K2.out 0).trans rfl; have z1 := (blk_cell K2.out 1).trans rfl; have f0 := blk_frozen K2.out 0; have f1 := blk_frozen K2.out 1))
    have q1 := blk_put K2.out 0 (.slice none 0 0) (cs' := #[.slice none 0 0, .slice none 0 0]) rfl
    refine bodyPost_ret (results_list (rs := [.cell 4 30, .tmp 5]) rfl (by simp) (.cell (w.heap.size + 1) 30 #[.slice none 0 0, .slice none 0 0] (0, 0) _ rfl (blk_put q1 1 _ rfl) Try.underlying30 rfl (by kernel_rfl) (.tmp .nil))) rfl ?_
    exact ⟨_, _, rfl, Kd.S_nil _ _ _ _ _, Kd.S_nil _ _ _ _ _, below_set (below_set HB.out (by omega)) (by omega)⟩

set_option maxHeartbeats 1000000 in
theorem FlushK.calls (i : Int) (w : World) : Calls Try.prog 37 #[.int .i64 i] w fun e w' => e = .returned (.bool true) ∧ Below w.heap.size w w' := by
  go_enter Try.func37, Try.ntmps37
  go_wp2
  go_ret
  exact ⟨rfl, Below.refl _ _⟩
def keepB (l : List Bool) (i : Int) : Bool := decide (i < l.length) && rdOf false l i
set_option maxHeartbeats 1000000 in
theorem CrashK.calls (A : Option Addr) (c : Nat) (l : List Bool) (b : Nat) (i : Int) (w : World) (h0 : 0 ≤ i) (hr : Kd.C Kd.bool w A l.length l) (hb : w.heap[b]? = some (.cells #[.slice A l.length c] 26 (0, 0))) :
    Calls Try.prog 30 #[.int .i64 i, .pointer (some ⟨b, 0, none⟩)] w fun e w' => e = .returned (.bool (keepB l i)) ∧ Below w.heap.size w w' := by
  have x0 := (blk_cell hb 0).trans rfl
  by_cases h1 : i < l.length
  · have d1 : decide (i < (l.length : Int)) = true := decide_eq_true h1
    obtain ⟨ad, rfl, hx⟩ := Kd.at_bool hr i h0 h1
    have e : keepB l i = rdOf false l i := by unfold keepB; rw [decide_eq_true h1]; rfl
    rw [e]
    have p1 := eq_true h0
    have p2 := eq_true h1
    clear h0 h1 hr hb e
    go_enter Try.func30, Try.ntmps30
    go_wp2
    go_ret
    exact ⟨rfl, Below.refl _ _⟩
  · have d1 : decide (i < (l.length : Int)) = false := decide_eq_false h1
    have e : keepB l i = false := by unfold keepB; rw [decide_eq_false h1]; rfl
    rw [e]
    clear h0 h1 hr hb e
    go_enter Try.func30, Try.ntmps30
    go_wp2
    go_ret
    exact ⟨rfl, Below.refl _ _⟩
def disk_Crash.f (l0 : List (List Int)) (l1 : List S62) (l : List Bool) : Option (List (List Int) × List S62 × Int) := some (landR (keepB l) l0 l1)
set_option maxHeartbeats 4000000 in
set_option maxRecDepth 100000 in
theorem disk_Crash.calls (A0_0 : Option Addr) (c0_0 : Nat) (l0_0 : List (List Int)) (A0_1 : Option Addr) (c0_1 : Nat) (l0_1 : List S62) (A1 : Option Addr) (c1 : Nat) (l1 : List Bool) (r1 : List (List Int)) (r2 : List S62) (r3 : Int) (w : World) (hr0_0 : Kd.C (Kd.slice 5 (Kd.int .u8)) w A0_0 l0_0.length l0_0) (hc0_0 : l0_0.length ≤ c0_0) (hr0_1 : Kd.C k62 w A0_1 l0_1.length l0_1) (hc0_1 : l0_1.length ≤ c0_1) (hr1 : Kd.C Kd.bool w A1 l1.length l1) (hc1 : l1.length ≤ c1) (h : disk_Crash.f l0_0 l0_1 l1 = some (r1, r2, r3)) :
    Calls Try.prog 9 #[.agg #[.slice A0_0 l0_0.length c0_0, .slice A0_1 l0_1.length c0_1], .slice A1 l1.length c1] w fun e w' => ∃ v0_ v1_ : Value, e = .returned (.tuple #[.agg #[v0_, v1_], .int .i64 r3]) ∧ Kd.S (Kd.slice 5 (Kd.int .u8)) 36 w' w.heap.size (fun _ => True) v0_ r1 ∧ Kd.S k62 62 w' w.heap.size (fun _ => True) v1_ r2 ∧ Below w.heap.size w w' := by
  have hu30 := Try.underlying30
  have hmf : ∀ (fn : Fn) (first cap : Array Value) (w : World), (Instr.makeFunc fn first cap).run Try.prog w = .ok (.func fn first cap) w := fun _ _ _ _ => rfl
  have hR := Option.some.inj h
  have HR0 := Aside0.mk hr0_0
  have HR1 := Aside0.mk hr0_1
  have HRK := Aside0.mk hr1
  have HC := Aside0.mk (And.intro hc0_0 hc0_1)
  have hk2 : (((w.alloc (.cells #[.slice A0_0 l0_0.length c0_0, .slice A0_1 l0_1.length c0_1] 30)).alloc (.cells #[.slice A1 l1.length c1] 26)).alloc (.cells #[.slice none 0 0, .slice none 0 0] 30)).heap[w.heap.size + 1 + 1]? = some (.cells #[.slice none 0 0, .slice none 0 0] 30 (0, 0)) := by have := heap_alloc_new ((w.alloc (.cells #[.slice A0_0 l0_0.length c0_0, .slice A0_1 l0_1.length c0_1] 30)).alloc (.cells #[.slice A1 l1.length c1] 26)) (.cells #[.slice none 0 0, .slice none 0 0] 30); simpa using this
  have hkb : (((w.alloc (.cells #[.slice A0_0 l0_0.length c0_0, .slice A0_1 l0_1.length c0_1] 30)).alloc (.cells #[.slice A1 l1.length c1] 26)).alloc (.cells #[.slice none 0 0, .slice none 0 0] 30)).heap[w.heap.size + 1]? = some (.cells #[.slice A1 l1.length c1] 26 (0, 0)) := blk_alloc (by have := heap_alloc_new (w.alloc (.cells #[.slice A0_0 l0_0.length c0_0, .slice A0_1 l0_1.length c0_1] 30)) (.cells #[.slice A1 l1.length c1] 26); simpa using this) _
  have HB := Aside0.mk (below_alloc (below_alloc (below_alloc (Below.refl w.heap.size w) (.cells #[.slice A0_0 l0_0.length c0_0, .slice A0_1 l0_1.length c0_1] 30)) (.cells #[.slice A1 l1.length c1] 26)) (.cells #[.slice none 0 0, .slice none 0 0] 30))
  have K2 := Aside0.mk hk2
  have KB := Aside0.mk hkb
  have H1 := Aside0.mk hR
  clear hr0_0 hr0_1 hr1 hc0_0 hc0_1 hc1 h hR hk2 hkb
  go_enter Try.func9, Try.ntmps9
  go_wp2_with (first | (go_at_call 29; refine (disk_land.calls A0_0 c0_0 l0_0 A0_1 c0_1 l0_1 (keepB l1) 30 #[.pointer (some ⟨w.heap.size + 1, 0, none⟩)] (enters_of Try.func30 (by kernel_rfl) rfl) _ (Kd.C_below HR0.out HB.out) HC.out.1 (Kd.C_below HR1.out HB.out) HC.out.2 (fun W i hW h0 h1 => CrashK.calls A1 c1 l1 _ i W h0 (Kd.C_below (Kd.C_below HRK.out HB.out) hW) (blk_below KB.out hW))).mono ?_; rw [H1.out]; rintro e w1 ⟨v0, v1, rfl, hs0, hs1, hb⟩; obtain ⟨A3, c3, rfl⟩ := Kd.S_slice hs0; obtain ⟨A4, c4, rfl⟩ := Kd.S_slice hs1; have S0 := Aside0.mk (Kd.S_lower hs0 HB.out.size); have S1 := Aside0.mk (Kd.S_lower hs1 HB.out.size); replace K2 := Aside0.mk (blk_below K2.out hb); replace HB := Aside0.mk (HB.out.trans (hb.mono HB.out.size)); clear hb hs0 hs1; have z0 := (blk_cell K2.out 0).trans rfl; have z1 := (blk_cell K2.out 1).trans rfl; have f0 := blk_frozen K2.out 0; have f1 := blk_frozen K2.out 1))
  have q1 := blk_put K2.out 0 (.slice A3 r1.length c3) (cs' := #[.slice A3 r1.length c3, .slice none 0 0]) rfl
  refine bodyPost_ret (results_list (rs := [.cell 4 30, .tmp 5]) rfl (by simp) (.cell (w.heap.size + 1 + 1) 30 #[.slice A3 r1.length c3, .slice A4 r2.length c4] (0, 0) _ rfl (blk_put q1 1 _ rfl) Try.underlying30 rfl (by kernel_rfl) (.tmp .nil))) rfl ?_
  exact ⟨_, _, rfl, Kd.S_set (Kd.S_set S0.out K2.out (by decide) 0 _) q1 (by decide) 1 _, Kd.S_set (Kd.S_set S1.out K2.out (by decide) 0 _) q1 (by decide) 1 _, below_set (below_set HB.out (by omega)) (by omega)⟩

/-! ### undercroftlaw03_num: function 11 -/
def undercroftlaw03_num.f (a0 : Int) : Option (Int) := some a0
set_option maxHeartbeats 8000000 in
set_option maxRecDepth 100000 in
theorem undercroftlaw03_num.calls (a0 : Int) (r : Int) (w : World) (h : undercroftlaw03_num.f a0 = some r) :
    Calls Try.prog 11 #[.int .i64 a0] w fun e w' => e = .returned (.int .i64 r) ∧ Drawn0 w w' := by
  have H : (some a0) = some r := h
  clear h
  obtain rfl := Option.some.inj H
  go_enter Try.func11, Try.ntmps11
  go_wp2
  go_ret
  exact ⟨by first | rfl | (simp; done) | (simp [*]; done), by repeat (first | exact Drawn0.refl _ | apply Drawn0.step)⟩

end Go.Proofs.Ytbohhjhehjkliaa.T
