/- Copies: bytes.Clone, slices.Clone at four types, cloneLog. -/
import Derived.Test.YtojjnifbnppliaaTx0
import Derived.Laws.EntriesVeiled
import Derived.Deep.DeepCutAuto
import Derived.StillTailTactics
import Derived.Deep.RegionWith
import Derived.Test.YtojjnifbnppliaaRi
namespace Go.Proofs.Ytojjnifbnppliaa.T
open Go.RowKit Go.Proofs.YtojjnifbnppliaaW.PrintWords Go.Proofs.YtojjnifbnppliaaW.PrintLast Go.Proofs.YtojjnifbnppliaaW.PrintMore
attribute [local go_sem] max2_int min2_int max_two min_two max_three min_three max_four min_four
set_option linter.unusedVariables false
set_option linter.unusedSimpArgs false
theorem R_empty {α : Type} (d : Kd α) (e : Nat) (W : World) : d.R e (W.alloc (.cells #[] e)) W.heap.size (fun _ => True) (.slice (some ⟨W.heap.size, 0, none⟩) 0 0) [] :=
  ⟨fun _ _ => trivial, [], by simpa using World.ownsRow_lit (base := W.heap.size) (e := e) (size := d.sz) W #[] 0 (Nat.le_refl _) (by simp [maxLen]) (by simp), Reps.none _ _⟩
theorem C_none {α : Type} {d : Kd α} {w : World} {l : List α} (h : d.C w none l.length l) : l = [] := by
  rcases Nat.eq_zero_or_pos l.length with h0 | h0
  · exact List.eq_nil_of_length_eq_zero h0
  · obtain ⟨ad, h, _⟩ := h.2.2 h0
    cases h
set_option maxHeartbeats 1000000 in
theorem bytes_Clone.calls (A0 : Option Addr) (c0 : Nat) (l0 : List Int) (w : World) (hr0 : Kd.C (Kd.int .u8) w A0 l0.length l0) (hl : l0.length < 140737488355328) :
    Calls Try.prog 54 #[.slice A0 l0.length c0] w fun e w' => ∃ v0_ : Value, e = .returned (v0_) ∧ Kd.R (Kd.int .u8) 5 w' w.heap.size (fun _ => True) v0_ l0 ∧ Below w.heap.size w w' := by
  have hu := Try.underlying22
  have HR := Aside0.mk hr0
  have HL := Aside0.mk hl
  have hnn : ∀ (W : World) (a : Option Addr), (binOp .eql 22 (.slice a l0.length c0) (.slice none 0 0)).run Try.prog W = .ok (.bool a.isNone) W := fun W a => run_eql_slice_nil W 22 5 a l0.length c0 Try.underlying22
  clear hr0 hl
  rcases A0 with _ | ad
  · have h0' := Aside0.mk (C_none HR.out)
    go_enter Try.func54, Try.ntmps54
    go_wp2
    go_ret
    exact ⟨_, rfl, by rw [h0'.out]; exact Kd.R_nil _ _ _ _ _, Below.refl _ _⟩
  · go_enter Try.func54, Try.ntmps54
    go_wp2_with (first | ((with_reducible refine gate_builtin (b := .append) (xs := #[.tmp 5, .tmp 6]) rfl ?_); at_builtin; refine Kd.R_append_rows (Kd.int .u8) (Rr := (Kd.int .u8).K w) (w0 := w) w.heap.size rfl (.tmp 5) (.tmp 6) 22 5 (.int .u8 0) 1 rfl Try.underlying22 info5 rfl (by decide) (by omega) (.slice (some ⟨w.heap.size, 0, none⟩) 0 0) [] l0 (some ad) l0.length c0 (fun _ => True) (fun _ => False) rfl rfl ?aO ?aR ?aK (fun _ hk => hk.elim) (fun _ _ => trivial) ?aB ?aS ?aL ?_; (case aO => exact R_empty (Kd.int .u8) 5 w); (case aR => exact Kd.C_alloc HR.out _); (case aK => intro x cs hx; exact hx); (case aB => exact (Below.refl _ _).alloc (Nat.le_refl _) _); (case aS => simp); (case aL => have := HL.out; simp; omega); intro v1 w1 ho hb hg hat; have HO := Aside0.mk ho; have HB := Aside0.mk hb; clear ho hb hg hat))
    go_ret
    exact ⟨_, rfl, HO.out, HB.out⟩
theorem choose_list {α : Type} {n : Nat} {p : Nat → α → Prop} (h : ∀ i, i < n → ∃ x, p i x) : ∃ l : List α, l.length = n ∧ ∀ (i : Nat) (x : α), l[i]? = some x → p i x := by
  induction n with
  | zero => exact ⟨[], rfl, fun i x hx => by simp at hx⟩
  | succ n ih =>
    obtain ⟨l, hl, hp⟩ := ih (fun i hi => h i (by omega))
    obtain ⟨y, hy⟩ := h n (by omega)
    refine ⟨l ++ [y], by simp [hl], fun i x hx => ?_⟩
    rcases Nat.lt_or_ge i l.length with hi | hi
    · rw [List.getElem?_append_left hi] at hx
      exact hp i x hx
    · have : i = l.length := by
        have := (List.getElem?_eq_some_iff.1 hx).1
        rw [List.length_append, List.length_singleton] at this
        omega
      subst this
      have hx' : y = x := by simpa using hx
      rw [← hx', hl]
      exact hy
/-- A row that is read, its elements' cells under names. -/
theorem C_rows {α : Type} {d : Kd α} {w : World} {A : Option Addr} {l : List α} (h : d.C w A l.length l) :
    ∃ rows : List (List Value), rows.length = l.length ∧ ReadsRow ((Kd.raw d.sz).K w) d.sz w A l.length rows ∧ ∀ (j : Nat) (x : α) (c : List Value), l[j]? = some x → rows[j]? = some c → d.K w x c := by
  rcases Nat.eq_zero_or_pos l.length with h0 | h0
  · obtain rfl := List.eq_nil_of_length_eq_zero h0
    exact ⟨[], rfl, ⟨rfl, by simp, fun h => absurd h (by simp)⟩, fun j x c hx => by simp at hx⟩
  obtain ⟨ad, hA, hc⟩ := h.2.2 h0
  obtain ⟨rows, hl, hr⟩ := choose_list (n := l.length) (p := fun j c => c.length = d.sz ∧ (∃ x, l[j]? = some x ∧ d.K w x c) ∧ ∀ i u, c[i]? = some u → w.cell? (ad.add (j * d.sz + i)) = some u) (fun j hj => by
    obtain ⟨c, h1, h2, h3⟩ := hc j _ (List.getElem?_eq_getElem hj)
    exact ⟨c, h1, ⟨_, List.getElem?_eq_getElem hj, h2⟩, h3⟩)
  refine ⟨rows, hl, ⟨hl, h.2.1, fun _ => ⟨ad, hA, fun j c hj => ?_⟩⟩, fun j x c hx hj => ?_⟩
  · obtain ⟨h1, ⟨x, _, h2⟩, h3⟩ := hr j c hj
    exact ⟨c, h1, ⟨rfl, h1, d.K_one h2⟩, h3⟩
  · obtain ⟨_, ⟨y, hy, h2⟩, _⟩ := hr j c hj
    rw [hx] at hy
    cases hy
    exact h2
/-- A row of cells, each element's blocks told: apart. -/
theorem raw_to_S {α : Type} {d : Kd α} {e : Nat} {w : World} {base : Nat} {ok : Nat → Prop} {v : Value} {xs : List α} {rows : List (List Value)} {f : Nat → Nat}
    (hR : (Kd.raw d.sz).R e w base ok v rows) (hl : rows.length = xs.length) (hM : ∀ (j : Nat) (x : α) (c : List Value), xs[j]? = some x → rows[j]? = some c → d.M w base (fun k => (ok k ∧ some k ≠ v.ownBlock) ∧ f k = j) x c) : Kd.S d e w base ok v xs := by
  obtain ⟨h0, inner, ho, hr⟩ := hR
  refine ⟨f, h0, inner, by rw [List.length_zipIdx, ← hl]; exact ho, by rw [List.length_zipIdx, ← hl]; exact hr.1, fun j q hq => ?_⟩
  rw [List.getElem?_zipIdx] at hq
  obtain ⟨x, hx, rfl⟩ := Option.map_eq_some_iff.1 hq
  have hj : j < rows.length := by rw [hl]; exact (List.getElem?_eq_some_iff.1 hx).1
  have h1 := (hr.2 j _ (List.getElem?_eq_getElem hj)).1
  have h2 := hM j x _ hx (List.getElem?_eq_getElem hj)
  show d.M w base _ x ((inner.drop (j * d.sz)).take d.sz)
  rw [show (inner.drop (j * d.sz)).take d.sz = rows[j] from h1]
  refine d.M_mono (fun k hk => ?_) h2
  simpa using hk
set_option maxHeartbeats 1000000 in
theorem CloneL.calls (A0 : Option Addr) (c0 : Nat) (l0 : List (List Int)) (wb w : World) (hwb : Below wb.heap.size wb w) (hr0 : Kd.C (Kd.slice 5 (Kd.int .u8)) wb A0 l0.length l0) (hl : l0.length * 24 ≤ 140737488355328) :
    Calls Try.prog 60 #[.slice A0 l0.length c0] w fun e w' => ∃ (v : Value) (rows : List (List Value)), e = .returned v ∧ rows.length = l0.length ∧ (∀ (j : Nat) (x : List Int) (c : List Value), l0[j]? = some x → rows[j]? = some c → (Kd.slice 5 (Kd.int .u8)).K wb x c) ∧ (Kd.raw (Kd.slice 5 (Kd.int .u8)).sz).R 22 w' w.heap.size (fun _ => True) v rows ∧ Below w.heap.size w w' := by
  have hu := Try.underlying25
  obtain ⟨rows, hrl, hrr, hrk⟩ := C_rows hr0
  have HR := Aside0.mk hr0
  have HL := Aside0.mk hl
  have HWB := Aside0.mk hwb
  have HRR := Aside0.mk hrr
  have HRL := Aside0.mk hrl
  have HRK := Aside0.mk hrk
  have hnn : ∀ (W : World) (a : Option Addr), (binOp .eql 25 (.slice a l0.length c0) (.slice none 0 0)).run Try.prog W = .ok (.bool a.isNone) W := fun W a => run_eql_slice_nil W 25 22 a l0.length c0 Try.underlying25
  clear hr0 hwb hl hrr hrl hrk
  rcases A0 with _ | ad
  · have h0' := Aside0.mk (C_none HR.out)
    go_enter Try.func60, Try.ntmps60
    go_wp2
    go_ret
    have : rows = [] := List.eq_nil_of_length_eq_zero (by rw [HRL.out, h0'.out]; rfl)
    exact ⟨_, [], rfl, by rw [h0'.out]; rfl, by intro j x c _ hc; simp at hc, Kd.R_nil _ _ _ _ _, Below.refl _ _⟩
  · go_enter Try.func60, Try.ntmps60
    go_wp2_with (first | ((with_reducible refine gate_builtin (b := .append) (xs := #[.tmp 5, .tmp 6]) rfl ?_); at_builtin; refine Kd.R_append_rows (Kd.raw 1) (Rr := (Kd.raw 1).K w) (w0 := w) w.heap.size rfl (.tmp 5) (.tmp 6) 25 22 (.slice none 0 0) 24 rfl Try.underlying25 info22 rfl (by decide) (by omega) (.slice (some ⟨w.heap.size, 0, none⟩) 0 0) [] rows (some ad) l0.length c0 (fun _ => True) (fun _ => False) rfl rfl ?aO ?aR ?aK (fun _ hk => hk.elim) (fun _ _ => trivial) ?aB ?aS ?aL ?_; (case aO => exact R_empty (Kd.raw 1) 22 w); (case aR => exact ReadsRow.imp_ HRR.out (below_alloc HWB.out _) (fun _ _ h => h)); (case aK => intro x cs hx; exact hx); (case aB => exact (Below.refl _ _).alloc (Nat.le_refl _) _); (case aS => simp); (case aL => have := HL.out; simp; omega); intro v1 w1 ho hb hg hat; have HO := Aside0.mk ho; have HB := Aside0.mk hb; clear ho hb hg hat))
    go_ret
    exact ⟨_, rows, rfl, HRL.out, HRK.out, HO.out, HB.out⟩
set_option maxHeartbeats 1000000 in
theorem CloneW.calls (A0 : Option Addr) (c0 : Nat) (l0 : List (S69)) (wb w : World) (hwb : Below wb.heap.size wb w) (hr0 : Kd.C k69 wb A0 l0.length l0) (hl : l0.length * 48 ≤ 140737488355328) :
    Calls Try.prog 43 #[.slice A0 l0.length c0] w fun e w' => ∃ (v : Value) (rows : List (List Value)), e = .returned v ∧ rows.length = l0.length ∧ (∀ (j : Nat) (x : S69) (c : List Value), l0[j]? = some x → rows[j]? = some c → k69.K wb x c) ∧ (Kd.raw k69.sz).R 69 w' w.heap.size (fun _ => True) v rows ∧ Below w.heap.size w w' := by
  have hu := Try.underlying27
  obtain ⟨rows, hrl, hrr, hrk⟩ := C_rows hr0
  have HR := Aside0.mk hr0
  have HL := Aside0.mk hl
  have HWB := Aside0.mk hwb
  have HRR := Aside0.mk hrr
  have HRL := Aside0.mk hrl
  have HRK := Aside0.mk hrk
  have hnn : ∀ (W : World) (a : Option Addr), (binOp .eql 27 (.slice a l0.length c0) (.slice none 0 0)).run Try.prog W = .ok (.bool a.isNone) W := fun W a => run_eql_slice_nil W 27 69 a l0.length c0 Try.underlying27
  clear hr0 hwb hl hrr hrl hrk
  rcases A0 with _ | ad
  · have h0' := Aside0.mk (C_none HR.out)
    go_enter Try.func43, Try.ntmps43
    go_wp2
    go_ret
    have : rows = [] := List.eq_nil_of_length_eq_zero (by rw [HRL.out, h0'.out]; rfl)
    exact ⟨_, [], rfl, by rw [h0'.out]; rfl, by intro j x c _ hc; simp at hc, Kd.R_nil _ _ _ _ _, Below.refl _ _⟩
  · go_enter Try.func43, Try.ntmps43
    go_wp2_with (first | ((with_reducible refine gate_builtin (b := .append) (xs := #[.tmp 5, .tmp 6]) rfl ?_); at_builtin; refine Kd.R_append_rows (Kd.raw 4) (Rr := (Kd.raw 4).K w) (w0 := w) w.heap.size rfl (.tmp 5) (.tmp 6) 27 69 (.agg #[(.bool false), (.int .i64 0), (.slice none 0 0), (.int .i64 0)]) 48 rfl Try.underlying27 info69 rfl (by decide) (by omega) (.slice (some ⟨w.heap.size, 0, none⟩) 0 0) [] rows (some ad) l0.length c0 (fun _ => True) (fun _ => False) rfl rfl ?aO ?aR ?aK (fun _ hk => hk.elim) (fun _ _ => trivial) ?aB ?aS ?aL ?_; (case aO => exact R_empty (Kd.raw 4) 69 w); (case aR => exact ReadsRow.imp_ HRR.out (below_alloc HWB.out _) (fun _ _ h => h)); (case aK => intro x cs hx; exact hx); (case aB => exact (Below.refl _ _).alloc (Nat.le_refl _) _); (case aS => simp); (case aL => have := HL.out; simp; omega); intro v1 w1 ho hb hg hat; have HO := Aside0.mk ho; have HB := Aside0.mk hb; clear ho hb hg hat))
    go_ret
    exact ⟨_, rows, rfl, HRL.out, HRK.out, HO.out, HB.out⟩
/-- After i rounds: the row's cells; elements below i lead to rows of the call's own, apart; those from i on are as they came. -/
def InvC {α : Type} (d : Kd α) (e : Nat) (w0 : World) (B N g cap : Nat) (l : List α) (i : Int) (W : World) : Prop :=
  ∃ (rows : List (List Value)) (f : Nat → Nat), rows.length = l.length ∧ (Kd.raw d.sz).R e W B (fun _ => True) (.slice (some ⟨g, 0, none⟩) l.length cap) rows ∧
    ∀ (j : Nat) (x : α) (c : List Value), l[j]? = some x → rows[j]? = some c → (((j : Int) < i → d.M W B (fun k => (N ≤ k ∧ k ≠ g) ∧ f k = j) x c) ∧ (i ≤ (j : Int) → d.K w0 x c))
theorem own_slice_g (g n cap : Nat) : (Value.slice (some ⟨g, 0, none⟩) n cap).ownBlock = some g := rfl
/-- One round: a part of element i's cells is written anew. -/
theorem InvC.step {α : Type} {d : Kd α} {e : Nat} {w0 W W1 W2 : World} {B N g cap : Nat} {l : List α} {i : Int} (h : InvC d e w0 B N g cap l i W) (h0 : 0 ≤ i) (h1 : i < l.length) (hN : N ≤ W.heap.size) (hb : Below W.heap.size W W1) {x' : α} (hx' : l[i.toNat]? = some x')
    {c' : List Value} (hg : W1.grownBy W2 (some g)) (hrow : ∀ rows : List (List Value), (Kd.raw d.sz).R e W1 B (fun _ => True) (.slice (some ⟨g, 0, none⟩) l.length cap) rows → rows.length = l.length → (∀ c, rows[i.toNat]? = some c → ∃ okk, d.K w0 x' c → d.M W2 W.heap.size okk x' c' ∧ (Kd.raw d.sz).R e W2 B (fun _ => True) (.slice (some ⟨g, 0, none⟩) l.length cap) (rows.set i.toNat c')) ) (hB : B ≤ W.heap.size) :
    InvC d e w0 B N g cap l (i + 1) W2 := by
  obtain ⟨rows, f, hl, hR, hM⟩ := h
  have hin : i.toNat < l.length := by omega
  have hrl : i.toNat < rows.length := by omega
  obtain ⟨okk, hk⟩ := hrow rows (Kd.R_below hR hb) hl _ (List.getElem?_eq_getElem hrl)
  obtain ⟨hMn, hRn⟩ := hk ((hM _ _ _ hx' (List.getElem?_eq_getElem hrl)).2 (by omega))
  have hgl : g < W.heap.size := by
    obtain ⟨inner, ho⟩ := Kd.R_own hR
    exact own_lt ho g rfl
  refine ⟨rows.set i.toNat c', fun k => if W.heap.size ≤ k then i.toNat else f k, by rw [List.length_set]; exact hl, hRn, fun j x cx hj hcx => ⟨fun hji => ?_, fun hij => ?_⟩⟩
  · by_cases e : j = i.toNat
    · subst e
      rw [hx'] at hj
      cases hj
      rw [List.getElem?_set_self (by omega)] at hcx
      cases hcx
      exact d.M_mono (fun k hk => ⟨⟨by have := hk.2.1; omega, by have := hk.2.1; omega⟩, if_pos hk.2.1⟩) (d.M_lower hB (d.M_bound hMn))
    · rw [List.getElem?_set_ne (by omega)] at hcx
      have hm := (hM j x cx hj hcx).1 (by omega)
      have hm2 := d.M_mono (ok' := fun k => ((N ≤ k ∧ k ≠ g) ∧ f k = j) ∧ k < W.heap.size) (fun k hk => ⟨hk.1, hk.2.2.1⟩) (d.M_bound hm)
      have hm3 := Kd.M_grown (Kd.M_below hm2 hb) hg (fun k hk e => by cases e; exact hk.1.1.2 rfl)
      exact d.M_mono (fun k hk => ⟨hk.1.1, by dsimp only; rw [if_neg (by omega)]; exact hk.1.2⟩) hm3
  · rw [List.getElem?_set_ne (by omega)] at hcx
    exact (hM j x cx hj hcx).2 (by omega)
theorem InvC.start {α : Type} {d : Kd α} {e : Nat} {w W : World} {B N g cap : Nat} {l : List α} {rows : List (List Value)} (hl : rows.length = l.length) (hR : (Kd.raw d.sz).R e W B (fun _ => True) (.slice (some ⟨g, 0, none⟩) l.length cap) rows)
    (hK : ∀ (j : Nat) (x : α) (c : List Value), l[j]? = some x → rows[j]? = some c → d.K w x c) : InvC d e w B N g cap l 0 W :=
  ⟨rows, fun _ => 0, hl, hR, fun j x c hj hc => ⟨fun h => by omega, fun _ => hK j x c hj hc⟩⟩
theorem InvC.move {α : Type} {d : Kd α} {e : Nat} {w W W1 : World} {B N g cap : Nat} {l : List α} {i : Int} (h : InvC d e w B N g cap l i W) (hm : ∀ k, B ≤ k → k < W.heap.size → (∃ q, q ∈ e :: d.E ∧ ∃ cells, W.heap[k]? = some (.cells cells q (0, 0))) → W1.heap[k]? = W.heap[k]?) : InvC d e w B N g cap l i W1 := by
  obtain ⟨rows, f, hl, hR, hM⟩ := h
  refine ⟨rows, f, hl, Kd.R_mono (Kd.R_step (Kd.R_bound hR) (fun k hk hlt => hm k hk.2.1 hlt (by obtain ⟨_, _, _, q, hq, hc⟩ := hk; exact ⟨q, by rcases List.mem_cons.1 hq with rfl | hq; exact List.mem_cons_self; exact absurd hq (by simp [Kd.raw]), hc⟩))) (fun _ _ => trivial), fun j x c hj hc => ⟨fun hji => ?_, (hM j x c hj hc).2⟩⟩
  exact d.M_mono (fun k hk => hk.1) (Kd.M_step (d.M_bound ((hM j x c hj hc).1 hji)) (fun k hk hlt => hm k hk.2.1 hlt (by obtain ⟨_, _, _, q, hq, hc⟩ := hk; exact ⟨q, List.mem_cons_of_mem _ hq, hc⟩)))
theorem InvC.done {α : Type} {d : Kd α} {e : Nat} {w W : World} {B N g cap : Nat} {l : List α} {i : Int} (h : InvC d e w B N g cap l i W) (hi : (l.length : Int) ≤ i) : Kd.S d e W B (fun k => some k = (Value.slice (some ⟨g, 0, none⟩) l.length cap).ownBlock ∨ N ≤ k) (.slice (some ⟨g, 0, none⟩) l.length cap) l := by
  obtain ⟨rows, f, hl, hR, hM⟩ := h
  refine raw_to_S (f := f) (Kd.R_mono (ok' := fun k => some k = (Value.slice (some ⟨g, 0, none⟩) l.length cap).ownBlock ∨ N ≤ k) ?_ (fun _ hk => hk)) hl (fun j x c hj hc => ?_)
  · obtain ⟨_, inner, ho, hr⟩ := hR
    exact ⟨fun k hk => .inl hk.symm, inner, ho, hr⟩
  · have hj' : j < l.length := (List.getElem?_eq_some_iff.1 hj).1
    refine d.M_mono (fun k hk => ⟨⟨.inr hk.1.1, fun e => hk.1.2 ?_⟩, hk.2⟩) ((hM j x c hj hc).1 (by omega))
    rw [own_slice_g] at e
    exact Option.some.inj e
/-- The list's row between two rounds: nothing is in it, or as InvC says. -/
def InvS {α : Type} (d : Kd α) (e : Nat) (w0 : World) (B N : Nat) (A : Option Addr) (cap : Nat) (l : List α) (i : Int) (W : World) : Prop :=
  (l = [] ∧ (Kd.raw d.sz).R e W B (fun _ => True) (.slice A l.length cap) []) ∨ ∃ g, A = some ⟨g, 0, none⟩ ∧ InvC d e w0 B N g cap l i W
theorem InvS.move {α : Type} {d : Kd α} {e : Nat} {w W W1 : World} {B N cap : Nat} {A : Option Addr} {l : List α} {i : Int} (h : InvS d e w B N A cap l i W) (hm : ∀ k, B ≤ k → k < W.heap.size → (∃ q, q ∈ e :: d.E ∧ ∃ cells, W.heap[k]? = some (.cells cells q (0, 0))) → W1.heap[k]? = W.heap[k]?) : InvS d e w B N A cap l i W1 := by
  rcases h with ⟨h1, h2⟩ | ⟨g, h1, h2⟩
  · exact .inl ⟨h1, Kd.R_mono (Kd.R_step (Kd.R_bound h2) (fun k hk hlt => hm k hk.2.1 hlt (by obtain ⟨_, _, _, q, hq, hc⟩ := hk; exact ⟨q, by rcases List.mem_cons.1 hq with rfl | hq; exact List.mem_cons_self; exact absurd hq (by simp [Kd.raw]), hc⟩))) (fun _ _ => trivial)⟩
  · exact .inr ⟨g, h1, h2.move hm⟩
theorem InvS.done {α : Type} {d : Kd α} {e : Nat} {w W : World} {B N cap : Nat} {A : Option Addr} {l : List α} {i : Int} (h : InvS d e w B N A cap l i W) (hi : (l.length : Int) ≤ i) : Kd.S d e W B (fun k => some k = (Value.slice A l.length cap).ownBlock ∨ N ≤ k) (.slice A l.length cap) l := by
  rcases h with ⟨rfl, h2⟩ | ⟨g, rfl, h2⟩
  · refine raw_to_S (f := fun _ => 0) (rows := []) (Kd.R_mono (ok' := fun k => some k = (Value.slice A ([] : List α).length cap).ownBlock ∨ N ≤ k) ?_ (fun _ hk => hk)) rfl (fun j x c hj => by simp at hj)
    obtain ⟨_, inner, ho, hr⟩ := h2
    exact ⟨fun k hk => .inl hk.symm, inner, ho, hr⟩
  · exact h2.done hi
theorem InvS.start {α : Type} {d : Kd α} {e : Nat} {w W : World} {B N cap : Nat} {A : Option Addr} {l : List α} {rows : List (List Value)} (hl : rows.length = l.length) (hR : (Kd.raw d.sz).R e W B (fun _ => True) (.slice A l.length cap) rows)
    (hK : ∀ (j : Nat) (x : α) (c : List Value), l[j]? = some x → rows[j]? = some c → d.K w x c) : InvS d e w B N A cap l 0 W := by
  rcases Nat.eq_zero_or_pos l.length with h0 | h0
  · obtain rfl := List.eq_nil_of_length_eq_zero h0
    obtain rfl := List.eq_nil_of_length_eq_zero hl
    exact .inl ⟨rfl, hR⟩
  · obtain ⟨g, cap', he, _⟩ := Kd.R_form hR (by omega)
    injection he with h1 h2 h3
    subst h1 h3
    exact .inr ⟨g, rfl, InvC.start hl hR hK⟩
theorem InvL.step {w0 W W1 : World} {B N g cap : Nat} {l : List (List Int)} {i : Int} (h : InvC (Kd.slice 5 (Kd.int .u8)) 22 w0 B N g cap l i W) (h0 : 0 ≤ i) (h1 : i < l.length) (hN : N ≤ W.heap.size) (hB : B ≤ W.heap.size) (hb : Below W.heap.size W W1)
    {v2 : Value} (hv : (Kd.int .u8).R 5 W1 W.heap.size (fun _ => True) v2 (rd_L1 l i)) :
    W1.frozen? ⟨g, i.toNat, none⟩ = false ∧ InvC (Kd.slice 5 (Kd.int .u8)) 22 w0 B N g cap l (i + 1) (W1.setCell ⟨g, i.toNat, none⟩ v2) ∧ W1.grownBy (W1.setCell ⟨g, i.toNat, none⟩ v2) (some g) := by
  have hg0 : g < W.heap.size := by
    obtain ⟨rows, f, hl, hR, hM⟩ := h
    obtain ⟨inner, ho⟩ := Kd.R_own hR
    exact own_lt ho g rfl
  have hgr : W1.grownBy (W1.setCell ⟨g, i.toNat, none⟩ v2) (some g) := ⟨rfl, rfl, rfl, by simp, fun k _ hk => Below.heap_setCell _ _ _ k (fun e => hk (by rw [e]))⟩
  obtain ⟨A, cv, hve, _⟩ := Kd.R_reads hv
  have hone : v2.oneCell' = true := by rw [hve]; rfl
  have hin : i.toNat < l.length := by omega
  have hx : l[i.toNat]? = some (rd_L1 l i) := by unfold rd_L1; rw [List.getD_eq_getElem?_getD, List.getElem?_eq_getElem hin]; rfl
  refine ⟨?_, InvC.step (c' := [v2]) h h0 h1 hN hb hx hgr (fun rows hR hl c hc => ?_) hB, hgr⟩
  · obtain ⟨rows, f, hl, hR, hM⟩ := h
    obtain ⟨c, _, _, _, hfr⟩ := Kd.R_elem (Kd.R_below hR hb) [] i h0 h1
    have := hfr 0
    simpa [Kd.raw, Kd.slice] using this
  · obtain ⟨cc, hcl, hMc, hcc, _⟩ := Kd.R_elem hR [] i h0 h1
    refine ⟨fun k => W.heap.size ≤ k, fun hK => ⟨⟨v2, rfl, ?_⟩, ?_⟩⟩
    · exact Kd.R_mono (Kd.R_grown (Kd.R_mono (ok' := fun k => W.heap.size ≤ k) (Kd.R_bound hv) (fun k hk => hk.2.1)) hgr (fun k hk e => by cases e; omega)) (fun _ hk => hk)
    · have hseg := Kd.R_seg hR i h0 h1 (seg := [v2]) (j := 0) (x' := [v2]) (okp := fun _ => False) hcl hcc (show 1 ≤ 1 from Nat.le_refl _) (by
        have hd : cc.drop 1 = [] := List.drop_eq_nil_of_le (by rw [hcl]; exact Nat.le_refl _)
        rw [show cc.take 0 ++ [v2] ++ cc.drop (0 + [v2].length) = [v2] from by simp [hd]]
        exact ⟨rfl, rfl, fun u hu => by rw [List.mem_singleton.1 hu]; exact hone⟩) (fun _ hk => hk.elim)
      have e : W1.setCells g (i.toNat * (Kd.raw (Kd.slice 5 (Kd.int .u8)).sz).sz + 0) [v2] = W1.setCell ⟨g, i.toNat, none⟩ v2 := by
        show W1.setCell ⟨g, i.toNat * 1 + 0, none⟩ v2 = _
        rw [Nat.mul_one, Nat.add_zero]
      rw [e] at hseg
      exact hseg.1
theorem InvW.step {w0 W W1 : World} {B N g cap : Nat} {l : List S69} {i : Int} (h : InvC k69 69 w0 B N g cap l i W) (h0 : 0 ≤ i) (h1 : i < l.length) (hN : N ≤ W.heap.size) (hB : B ≤ W.heap.size) (hb : Below W.heap.size W W1)
    {v2 : Value} (hv : (Kd.slice 5 (Kd.int .u8)).R 22 W1 W.heap.size (fun _ => True) v2 (rd_T69 l i).f2) :
    W1.frozen? ⟨g, i.toNat * 4 + 2, none⟩ = false ∧ InvC k69 69 w0 B N g cap l (i + 1) (W1.setCell ⟨g, i.toNat * 4 + 2, none⟩ v2) ∧ W1.grownBy (W1.setCell ⟨g, i.toNat * 4 + 2, none⟩ v2) (some g) := by
  have hg0 : g < W.heap.size := by
    obtain ⟨rows, f, hl, hR, hM⟩ := h
    obtain ⟨inner, ho⟩ := Kd.R_own hR
    exact own_lt ho g rfl
  have hgr : W1.grownBy (W1.setCell ⟨g, i.toNat * 4 + 2, none⟩ v2) (some g) := ⟨rfl, rfl, rfl, by simp, fun k _ hk => Below.heap_setCell _ _ _ k (fun e => hk (by rw [e]))⟩
  obtain ⟨A, cv, hve, _⟩ := Kd.R_reads hv
  have hone : v2.oneCell' = true := by rw [hve]; rfl
  have hin : i.toNat < l.length := by omega
  have hx : l[i.toNat]? = some (rd_T69 l i) := by unfold rd_T69; rw [List.getD_eq_getElem?_getD, List.getElem?_eq_getElem hin]; rfl
  refine ⟨?_, InvC.step (c' := [.bool (rd_T69 l i).f0, .int .i64 (rd_T69 l i).f1, v2, .int .i64 (rd_T69 l i).f3]) h h0 h1 hN hb hx hgr (fun rows hR hl c hc => ?_) hB, hgr⟩
  · obtain ⟨rows, f, hl, hR, hM⟩ := h
    obtain ⟨c, _, _, _, hfr⟩ := Kd.R_elem (Kd.R_below hR hb) [] i h0 h1
    exact hfr 2
  · obtain ⟨cc, hcl, hMc, hcc, _⟩ := Kd.R_elem hR [] i h0 h1
    have hcceq : cc = c := by
      have e1 : cc = rows.getD i.toNat [] := hMc.1
      rw [e1, List.getD_eq_getElem?_getD, hc]; rfl
    subst hcceq
    refine ⟨fun k => W.heap.size ≤ k, fun hK => ?_⟩
    obtain ⟨A2, c2, rfl, _, _⟩ := k69_open hK
    refine ⟨k69_mkM _ _ _ _ ?_, ?_⟩
    · exact Kd.R_mono (Kd.R_grown (Kd.R_mono (ok' := fun k => W.heap.size ≤ k) (Kd.R_bound hv) (fun k hk => hk.2.1)) hgr (fun k hk e => by cases e; omega)) (fun _ hk => hk)
    · have hseg := Kd.R_seg hR i h0 h1 (seg := [v2]) (j := 2) (x' := [.bool (rd_T69 l i).f0, .int .i64 (rd_T69 l i).f1, v2, .int .i64 (rd_T69 l i).f3]) (okp := fun _ => False) hcl hcc (show 3 ≤ 4 from by omega) (by
        refine ⟨rfl, rfl, fun u hu => ?_⟩
        have hu' : u ∈ [Value.bool (rd_T69 l i).f0, .int .i64 (rd_T69 l i).f1, v2, .int .i64 (rd_T69 l i).f3] := hu
        simp only [List.mem_cons, List.not_mem_nil, or_false] at hu'
        rcases hu' with rfl | rfl | rfl | rfl
        · rfl
        · rfl
        · exact hone
        · rfl) (fun _ hk => hk.elim)
      exact hseg.1

set_option maxHeartbeats 1000000 in
theorem CloneI.calls (A0 : Option Addr) (c0 : Nat) (l0 : List Int) (w : World) (hr0 : Kd.C (Kd.int .i64) w A0 l0.length l0) (hl : l0.length * 8 < 140737488355328) :
    Calls Try.prog 15 #[.slice A0 l0.length c0] w fun e w' => ∃ v0_ : Value, e = .returned (v0_) ∧ Kd.R (Kd.int .i64) 3 w' w.heap.size (fun _ => True) v0_ l0 ∧ Below w.heap.size w w' := by
  have hu := Try.underlying23
  have HR := Aside0.mk hr0
  have HL := Aside0.mk hl
  have hnn : ∀ (W : World) (a : Option Addr), (binOp .eql 23 (.slice a l0.length c0) (.slice none 0 0)).run Try.prog W = .ok (.bool a.isNone) W := fun W a => run_eql_slice_nil W 23 3 a l0.length c0 Try.underlying23
  clear hr0 hl
  rcases A0 with _ | ad
  · have h0' := Aside0.mk (C_none HR.out)
    go_enter Try.func15, Try.ntmps15
    go_wp2
    go_ret
    exact ⟨_, rfl, by rw [h0'.out]; exact Kd.R_nil _ _ _ _ _, Below.refl _ _⟩
  · go_enter Try.func15, Try.ntmps15
    go_wp2_with (first | ((with_reducible refine gate_builtin (b := .append) (xs := #[.tmp 5, .tmp 6]) rfl ?_); at_builtin; refine Kd.R_append_rows (Kd.int .i64) (Rr := (Kd.int .i64).K w) (w0 := w) w.heap.size rfl (.tmp 5) (.tmp 6) 23 3 (.int .i64 0) 8 rfl Try.underlying23 info3 rfl (by decide) (by omega) (.slice (some ⟨w.heap.size, 0, none⟩) 0 0) [] l0 (some ad) l0.length c0 (fun _ => True) (fun _ => False) rfl rfl ?aO ?aR ?aK (fun _ hk => hk.elim) (fun _ _ => trivial) ?aB ?aS ?aL ?_; (case aO => exact R_empty (Kd.int .i64) 3 w); (case aR => exact Kd.C_alloc HR.out _); (case aK => intro x cs hx; exact hx); (case aB => exact (Below.refl _ _).alloc (Nat.le_refl _) _); (case aS => simp); (case aL => have := HL.out; simp; omega); intro v1 w1 ho hb hg hat; have HO := Aside0.mk ho; have HB := Aside0.mk hb; clear ho hb hg hat))
    go_ret
    exact ⟨_, rfl, HO.out, HB.out⟩
set_option maxHeartbeats 1000000 in
theorem CloneB.calls (A0 : Option Addr) (c0 : Nat) (l0 : List Bool) (w : World) (hr0 : Kd.C Kd.bool w A0 l0.length l0) (hl : l0.length < 140737488355328) :
    Calls Try.prog 42 #[.slice A0 l0.length c0] w fun e w' => ∃ v0_ : Value, e = .returned (v0_) ∧ Kd.R Kd.bool 4 w' w.heap.size (fun _ => True) v0_ l0 ∧ Below w.heap.size w w' := by
  have hu := Try.underlying26
  have HR := Aside0.mk hr0
  have HL := Aside0.mk hl
  have hnn : ∀ (W : World) (a : Option Addr), (binOp .eql 26 (.slice a l0.length c0) (.slice none 0 0)).run Try.prog W = .ok (.bool a.isNone) W := fun W a => run_eql_slice_nil W 26 4 a l0.length c0 Try.underlying26
  clear hr0 hl
  rcases A0 with _ | ad
  · have h0' := Aside0.mk (C_none HR.out)
    go_enter Try.func42, Try.ntmps42
    go_wp2
    go_ret
    exact ⟨_, rfl, by rw [h0'.out]; exact Kd.R_nil _ _ _ _ _, Below.refl _ _⟩
  · go_enter Try.func42, Try.ntmps42
    go_wp2_with (first | ((with_reducible refine gate_builtin (b := .append) (xs := #[.tmp 5, .tmp 6]) rfl ?_); at_builtin; refine Kd.R_append_rows Kd.bool (Rr := Kd.bool.K w) (w0 := w) w.heap.size rfl (.tmp 5) (.tmp 6) 26 4 (.bool false) 1 rfl Try.underlying26 info4 rfl (by decide) (by omega) (.slice (some ⟨w.heap.size, 0, none⟩) 0 0) [] l0 (some ad) l0.length c0 (fun _ => True) (fun _ => False) rfl rfl ?aO ?aR ?aK (fun _ hk => hk.elim) (fun _ _ => trivial) ?aB ?aS ?aL ?_; (case aO => exact R_empty Kd.bool 4 w); (case aR => exact Kd.C_alloc HR.out _); (case aK => intro x cs hx; exact hx); (case aB => exact (Below.refl _ _).alloc (Nat.le_refl _) _); (case aS => simp); (case aL => have := HL.out; simp; omega); intro v1 w1 ho hb hg hat; have HO := Aside0.mk ho; have HB := Aside0.mk hb; clear ho hb hg hat))
    go_ret
    exact ⟨_, rfl, HO.out, HB.out⟩
set_option maxHeartbeats 4000000 in
theorem cloneLog.calls (A0 : Option Addr) (c0 : Nat) (l0 : List (List Int)) (w : World) (hr0 : Kd.C (Kd.slice 5 (Kd.int .u8)) w A0 l0.length l0) (hl : l0.length * 24 ≤ 140737488355328) (hd : ∀ x ∈ l0, x.length < 140737488355328) :
    Calls Try.prog 41 #[.slice A0 l0.length c0] w fun e w' => ∃ v : Value, e = .returned v ∧ (Kd.slice 5 (Kd.int .u8)).R 22 w' w.heap.size (fun _ => True) v l0 ∧ Below w.heap.size w w' := by
  have hu := Try.underlying25
  have hu2 := Try.underlying22
  have HR := Aside0.mk hr0
  have HL := Aside0.mk hl
  have HD := Aside0.mk hd
  have BIG := Aside0.mk (show l0.length ≤ 9223372036854775807 from hr0.2.1)
  clear hr0 hl hd
  go_enter Try.func41, Try.ntmps41
  go_wp2_with (first | (go_at_call 60; refine (CloneL.calls A0 c0 l0 w w (Below.refl _ _) HR.out HL.out).mono ?_; rintro e w1 ⟨v, rows, rfl, hrl, hrk, hR, hb⟩; obtain ⟨A3, c3, hv⟩ := Kd.R_slice hR; rw [hrl] at hv; subst hv; have I0 := Aside0.mk (InvS.start (d := Kd.slice 5 (Kd.int .u8)) (e := 22) (w := w) (B := w.heap.size) (N := w1.heap.size) hrl hR hrk); have HB := Aside0.mk hb; clear hR hrk hb))
  go_loopg [4, 5, 10] (l0.length + 1) (fun gg _ _ s10 wr => ∃ i : Int, s10 = .int .i64 i ∧ Aside0 (0 ≤ i ∧ i ≤ l0.length ∧ l0.length - i < gg ∧ w1.heap.size ≤ wr.heap.size ∧ Below w.heap.size w wr ∧ InvS (Kd.slice 5 (Kd.int .u8)) 22 w w.heap.size w1.heap.size A3 c3 l0 i wr))
  case atStart => exact ⟨0, rfl, ⟨by omega, by omega, by omega, Nat.le_refl _, HB.out, I0.out⟩⟩
  case round =>
    obtain ⟨i, rfl, Z⟩ := hrel
    clear I0
    by_cases hlt : i < l0.length
    · have d1 : decide (i < (l0.length : Int)) = true := decide_eq_true hlt
      obtain ⟨h0, hle, hgk, hcs, hBW, hS⟩ := Z.out
      rcases hS with ⟨h1, _⟩ | ⟨g, rfl, hC⟩
      · rw [h1] at hlt; simp at hlt; omega
      have hin : i.toNat < l0.length := by omega
      have hx : l0[i.toNat]? = some (rd_L1 l0 i) := by unfold rd_L1; rw [List.getD_eq_getElem?_getD, List.getElem?_eq_getElem hin]; rfl
      have HIC := Aside0.mk hC
      obtain ⟨rows2, f, hl, hR, hM⟩ := hC
      obtain ⟨cx, hcl, hMc, hcc, _⟩ := Kd.R_elem hR [] i h0 hlt
      have hrow : rows2[i.toNat]? = some cx := by
        rw [show cx = rows2.getD i.toNat [] from hMc.1, List.getD_eq_getElem?_getD, List.getElem?_eq_getElem (by omega)]; rfl
      obtain ⟨A2, c2, rfl, hl2, hC2⟩ := (hM _ _ _ hx hrow).2 (by omega)
      have hx0 : wr.cell? ⟨g, i.toNat, none⟩ = some (.slice A2 (rd_L1 l0 i).length c2) := by
        have := hcc 0 _ rfl
        simpa [Kd.raw, Kd.slice] using this
      have HC2 := Aside0.mk (And.intro (Kd.C_below hC2 hBW) (show (rd_L1 l0 i).length < 140737488355328 from HD.out _ (List.mem_of_getElem? hx)))
      have p1 := eq_true h0
      have p2 := eq_true hlt
      have KK := Aside0.mk (And.intro hBW (And.intro hcs (And.intro hgk (And.intro h0 hlt))))
      clear hlt hrow hl2 hC2 hR hM hMc hl hx hcc hcl hBW hcs hgk hle h0 Z
      go_wp2_with (go_at_call 54; refine (bytes_Clone.calls A2 c2 (rd_L1 l0 i) _ (by repeat (first | exact HC2.out.1 | (with_reducible refine Kd.C_alloc ?_ _) | (with_reducible refine Kd.C_drewN ?_ _) | (with_reducible refine Kd.C_drew ?_))) HC2.out.2).mono ?_; rintro e w2 ⟨v2, rfl, hR2, hb2⟩; have hbw : Below wr.heap.size wr w2 := below_then (by repeat (first | exact Below.refl _ _ | apply pw_below_drewN | apply below_drew)) (by simp) hb2; obtain ⟨Av, cv, hve, _⟩ := Kd.R_reads hR2; subst hve; have hst := InvL.step HIC.out (of_eq_true p1) (of_eq_true p2) KK.out.2.1 KK.out.1.size hbw (Kd.R_lower hR2 (by simp)); have q0 := (hbw.cell (World.block_lt_of_cell? _ _ hx0)).trans hx0; obtain ⟨f0, hst2⟩ := hst; have HST := Aside0.mk hst2; have HBW := Aside0.mk hbw; clear hst2 hbw hR2 hb2)
      all_goals
        have h2 := of_eq_true p2
        have h1 := of_eq_true p1
        have hw : wrap64 (i + 1) = i + 1 := by have := BIG.out; unfold wrap64; omega
        obtain ⟨hBW0, hcs, hgk, _, _⟩ := KK.out
        obtain ⟨gg, rfl⟩ : ∃ m, gk = m + 1 := ⟨gk - 1, by omega⟩
        have hgB : w.heap.size ≤ g := by
          obtain ⟨rows, f, _, hR, _⟩ := HIC.out
          obtain ⟨inner, ho⟩ := Kd.R_own hR
          exact own_base ho g rfl
        (try rw [hw])
        go_roundg gg
        case measure => omega
        case rel =>
          have hsz := HBW.out.size
          have hsz2 := HST.out.2.size
          exact ⟨i + 1, rfl, ⟨by omega, by omega, by omega, by omega, (hBW0.trans (HBW.out.mono hBW0.size)).grown HST.out.2 (by have := hBW0.size; omega) (fun j hj => by cases hj; omega), .inr ⟨g, rfl, HST.out.1⟩⟩⟩
    · have d1 : decide (i < (l0.length : Int)) = false := decide_eq_false hlt
      obtain ⟨h0, hle, hgk, hcs, hBW, hS⟩ := Z.out
      have hF := Aside0.mk (Kd.R_mono (ok' := fun _ => True) (Kd.S_R (hS.done (by omega))) (fun _ _ => trivial))
      have hBW2 := Aside0.mk hBW
      clear hS hBW hcs hgk hle h0 Z hlt
      go_wp2
      go_ret
      exact ⟨_, rfl, hF.out, hBW2.out⟩
end Go.Proofs.Ytojjnifbnppliaa.T
