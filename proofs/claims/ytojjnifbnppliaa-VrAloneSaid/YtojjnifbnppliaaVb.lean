/- Check and what it asks; who leads; how long the lists have to be. -/
import Derived.Test.YtojjnifbnppliaaVa
namespace Go.Proofs.Ytojjnifbnppliaa.T
open Go.RowKit Go.Proofs.YtojjnifbnppliaaW.PrintWords Go.Proofs.YtojjnifbnppliaaW.PrintLast Go.Proofs.YtojjnifbnppliaaW.PrintMore
attribute [local go_sem] max2_int min2_int max_two min_two max_three min_three max_four min_four
set_option linter.unusedVariables false
set_option linter.unusedSimpArgs false
/-- A replica's state, as a value. -/
structure St where
  id : Int
  n : Int
  view : Int
  last : Int
  status : Int
  log : List (List Int)
  commit : Int
  mat : List Int
  marks : List Bool
  sent : Bool
  bals : List S69
  elapsed : Int
  timeout : Int
  draws : List Int
/-- Its lists are read. -/
def Rd (w : World) (s : St) (AL : Option Addr) (cL : Nat) (AM : Option Addr) (cM : Nat) (AK : Option Addr) (cK : Nat) (AB : Option Addr) (cB : Nat) (AD : Option Addr) (cD : Nat) : Prop :=
  (Kd.C (Kd.slice 5 (Kd.int .u8)) w AL s.log.length s.log ∧ s.log.length ≤ cL) ∧ (Kd.C (Kd.int .i64) w AM s.mat.length s.mat ∧ s.mat.length ≤ cM) ∧ (Kd.C Kd.bool w AK s.marks.length s.marks ∧ s.marks.length ≤ cK) ∧ (Kd.C k69 w AB s.bals.length s.bals ∧ s.bals.length ≤ cB) ∧ (Kd.C (Kd.int .i64) w AD s.draws.length s.draws ∧ s.draws.length ≤ cD)
theorem Rd.below {w W : World} {s : St} {AL AM AK AB AD : Option Addr} {cL cM cK cB cD : Nat} (h : Rd w s AL cL AM cM AK cK AB cB AD cD) (hb : Below w.heap.size w W) : Rd W s AL cL AM cM AK cK AB cB AD cD :=
  ⟨⟨Kd.C_below h.1.1 hb, h.1.2⟩, ⟨Kd.C_below h.2.1.1 hb, h.2.1.2⟩, ⟨Kd.C_below h.2.2.1.1 hb, h.2.2.1.2⟩, ⟨Kd.C_below h.2.2.2.1.1 hb, h.2.2.2.1.2⟩, ⟨Kd.C_below h.2.2.2.2.1 hb, h.2.2.2.2.2⟩⟩
def wi (a lo hi : Int) : Bool := decide (lo ≤ a) && decide (a ≤ hi)
theorem wi_iff {a lo hi : Int} : wi a lo hi = true ↔ lo ≤ a ∧ a ≤ hi := by simp [wi]
set_option maxHeartbeats 1000000 in
theorem within.calls (a lo hi : Int) (w : World) : Calls Try.prog 14 #[.int .i64 a, .int .i64 lo, .int .i64 hi] w fun e w' => e = .returned (.bool (wi a lo hi)) ∧ w' = w := by
  by_cases h : lo ≤ a
  · have d1 : decide (lo ≤ a) = true := decide_eq_true h
    clear h
    unfold wi
    rw [d1, Bool.true_and]
    go_enter Try.func14, Try.ntmps14
    go_wp2
    go_ret
    exact ⟨rfl, rfl⟩
  · have d1 : decide (lo ≤ a) = false := decide_eq_false h
    clear h
    unfold wi
    rw [d1, Bool.false_and]
    go_enter Try.func14, Try.ntmps14
    go_wp2
    go_ret
    exact ⟨rfl, rfl⟩
def long (b : List Int) : Bool := decide (256 < (b.length : Int))
set_option maxHeartbeats 1000000 in
theorem Long.calls (b : List Int) (A : Option Addr) (c : Nat) (w : World) : Calls Try.prog 57 #[.slice A b.length c] w fun e w' => e = .returned (.bool (long b)) ∧ w = w' := by
  go_enter Try.func57, Try.ntmps57
  go_wp2
  go_ret
  exact ⟨rfl, rfl⟩
def idxP {α : Type} (p : α → Bool) (l : List α) : Int := if l.findIdx p < l.length then (l.findIdx p : Int) else -1
theorem idxP_hit {α : Type} (p : α → Bool) (l : List α) (d : α) (i : Int) (h0 : 0 ≤ i) (h1 : i < l.length) (h : p (l.getD i.toNat d) = true) (hf : ∀ j : Nat, j < i → p (l.getD j d) = false) : idxP p l = i := by
  have hn : i.toNat < l.length := by omega
  have : l.findIdx p = i.toNat := by
    rw [List.findIdx_eq hn]
    refine ⟨by rw [List.getD_eq_getElem?_getD, List.getElem?_eq_getElem hn] at h; exact h, fun j hj => ?_⟩
    have := hf j (by omega)
    rw [List.getD_eq_getElem?_getD, List.getElem?_eq_getElem (by omega)] at this
    simpa using this
  unfold idxP
  rw [this, if_pos hn]
  omega
theorem idxP_miss {α : Type} (p : α → Bool) (l : List α) (d : α) (hf : ∀ j : Nat, j < l.length → p (l.getD j d) = false) : idxP p l = -1 := by
  unfold idxP
  rw [if_neg]
  intro h
  have h1 := List.findIdx_getElem (p := p) (xs := l) (w := h)
  have := hf _ h
  rw [List.getD_eq_getElem?_getD, List.getElem?_eq_getElem h] at this
  simp at this
  rw [this] at h1
  exact absurd h1 (by simp)
theorem idxP_any {α : Type} (p : α → Bool) (l : List α) : decide (0 ≤ idxP p l) = l.any p := by
  unfold idxP
  split
  · rename_i h
    rw [decide_eq_true (by omega)]
    exact (List.any_eq_true.2 ⟨_, List.getElem_mem h, List.findIdx_getElem⟩).symm
  · rename_i h
    rw [decide_eq_false (by omega)]
    have h2 : l.findIdx p = l.length := by have := List.findIdx_le_length (p := p) (xs := l); omega
    symm
    rw [List.any_eq_false]
    intro x hx
    simpa using List.findIdx_eq_length.1 h2 x hx

set_option maxHeartbeats 1000000 in
theorem IdxL.calls (A0 : Option Addr) (c0 : Nat) (l0 : List (List Int)) (p : (List Int) → Bool) (g : Nat) (lb : Array Value) (eg : ∀ args w, (callFunc g args).run Try.prog w = .ok (.enter g args) w) (w : World)
    (hr0 : Kd.C (Kd.slice 5 (Kd.int .u8)) w A0 l0.length l0)
    (hp : ∀ W (x : List Int) A c, Below w.heap.size w W → x ∈ l0 → Kd.C (Kd.int .u8) W A x.length x → x.length ≤ c → Calls Try.prog g (#[.slice A x.length c] ++ lb) W fun e w' => e = .returned (.bool (p x)) ∧ Below w.heap.size w w') :
    Calls Try.prog 72 #[.slice A0 l0.length c0, .func (.func g) #[] lb] w fun e w' => e = .returned (.int .i64 (idxP p l0)) ∧ Below w.heap.size w w' := by
  have HR := Aside0.mk hr0
  have hbig : l0.length ≤ 9223372036854775807 := hr0.2.1
  clear hr0
  go_enter Try.func72, Try.ntmps72
  go_wp2
  go_loopg [5, 8] (l0.length + 1) (fun gg _ s8 wr => ∃ kk : Int, s8 = .int .i64 kk ∧ Aside0 (0 ≤ kk ∧ kk ≤ l0.length ∧ l0.length - kk < gg ∧ Below w.heap.size w wr ∧ (∀ j : Nat, j < kk → p (rd_L1 l0 j) = false)))
  case atStart => exact ⟨0, rfl, ⟨by omega, by omega, by omega, Below.refl _ w, fun j hj => by omega⟩⟩
  case round =>
    obtain ⟨kk, rfl, A⟩ := hrel
    by_cases hlt : kk < l0.length
    · have c2b0 : decide (kk < (l0.length : Int)) = true := decide_eq_true hlt
      obtain ⟨ad, A2, c2, e, hx0, hl2, hC2⟩ := at_L1 HR.out kk A.out.1 hlt
      cases e
      have BW := Aside0.mk A.out.2.2.2.1
      replace hx0 := (BW.out.cell (World.block_lt_of_cell? w _ hx0)).trans hx0
      have hmem : rd_L1 l0 kk ∈ l0 := by
        have hn : kk.toNat < l0.length := by have := A.out.1; omega
        unfold rd_L1; rw [List.getD_eq_getElem?_getD, List.getElem?_eq_getElem hn]; exact List.getElem_mem hn
      have hcall := hp wr (rd_L1 l0 kk) A2 c2 BW.out hmem (Kd.C_below hC2 BW.out) hl2
      have p1 := eq_true A.out.1
      have p2 := eq_true hlt
      clear hp hlt hC2 hl2 hmem
      cases hq : p (rd_L1 l0 kk) with
      | true =>
        rw [hq] at hcall
        have HQ := Aside0.mk hq
        clear hq
        go_wp2_with (go_at_fn g; refine hcall.mono ?_; rintro e w' ⟨rfl, hb'⟩)
        go_ret
        refine ⟨?_, hb'⟩
        rw [idxP_hit p l0 ([] : List Int) kk A.out.1 (of_eq_true p2) HQ.out A.out.2.2.2.2]
        rfl
      | false =>
        rw [hq] at hcall
        have HQ := Aside0.mk hq
        clear hq
        go_wp2_with (go_at_fn g; refine hcall.mono ?_; rintro e w' ⟨rfl, hb'⟩)
        have hw : wrap64 (kk + 1) = kk + 1 := by
          have h1 := A.out.1
          have h2 := of_eq_true p2
          unfold wrap64
          omega
        have h2 := of_eq_true p2
        have hA := A.out
        rw [hw]
        have hb2 := Aside0.mk hb'
        clear hb'
        obtain ⟨gg, rfl⟩ : ∃ m, gk = m + 1 := ⟨gk - 1, by omega⟩
        go_roundg gg
        case measure => omega
        case rel =>
          refine ⟨kk + 1, rfl, ⟨by omega, by omega, by omega, hb2.out, fun j hj => ?_⟩⟩
          by_cases e : (j : Int) = kk
          · rw [e]; exact HQ.out
          · exact hA.2.2.2.2 j (by omega)
    · have c2b0 : decide (kk < (l0.length : Int)) = false := decide_eq_false hlt
      go_wp2
      go_ret
      refine ⟨?_, A.out.2.2.2.1⟩
      rw [idxP_miss p l0 ([] : List Int) (fun j hj => A.out.2.2.2.2 j (by have := A.out.2.1; omega))]
      rfl
set_option maxHeartbeats 1000000 in
theorem IdxW.calls (A0 : Option Addr) (c0 : Nat) (l0 : List (S69)) (p : (S69) → Bool) (g : Nat) (lb : Array Value) (eg : ∀ args w, (callFunc g args).run Try.prog w = .ok (.enter g args) w) (w : World)
    (hr0 : Kd.C k69 w A0 l0.length l0)
    (hp : ∀ W (x : S69) A c, Below w.heap.size w W → x ∈ l0 → Kd.C (Kd.slice 5 (Kd.int .u8)) W A x.f2.length x.f2 → x.f2.length ≤ c → Calls Try.prog g (#[.agg #[.bool x.f0, .int .i64 x.f1, .slice A x.f2.length c, .int .i64 x.f3]] ++ lb) W fun e w' => e = .returned (.bool (p x)) ∧ Below w.heap.size w w') :
    Calls Try.prog 59 #[.slice A0 l0.length c0, .func (.func g) #[] lb] w fun e w' => e = .returned (.int .i64 (idxP p l0)) ∧ Below w.heap.size w w' := by
  have hu69 := Try.underlying69
  have HR := Aside0.mk hr0
  have hbig : l0.length ≤ 9223372036854775807 := hr0.2.1
  clear hr0
  go_enter Try.func59, Try.ntmps59
  go_wp2
  go_loopg [5, 8] (l0.length + 1) (fun gg _ s8 wr => ∃ kk : Int, s8 = .int .i64 kk ∧ Aside0 (0 ≤ kk ∧ kk ≤ l0.length ∧ l0.length - kk < gg ∧ Below w.heap.size w wr ∧ (∀ j : Nat, j < kk → p (rd_T69 l0 j) = false)))
  case atStart => exact ⟨0, rfl, ⟨by omega, by omega, by omega, Below.refl _ w, fun j hj => by omega⟩⟩
  case round =>
    obtain ⟨kk, rfl, A⟩ := hrel
    by_cases hlt : kk < l0.length
    · have c2b0 : decide (kk < (l0.length : Int)) = true := decide_eq_true hlt
      obtain ⟨ad, A2, c2, e, hx0, hx1, hx2, hx3, hl2, hC2⟩ := at_T69 HR.out kk A.out.1 hlt
      cases e
      have BW := Aside0.mk A.out.2.2.2.1
      replace hx0 := (BW.out.cell (World.block_lt_of_cell? w _ hx0)).trans hx0
      replace hx1 := (BW.out.cell (World.block_lt_of_cell? w _ hx1)).trans hx1
      replace hx2 := (BW.out.cell (World.block_lt_of_cell? w _ hx2)).trans hx2
      replace hx3 := (BW.out.cell (World.block_lt_of_cell? w _ hx3)).trans hx3
      have hmem : rd_T69 l0 kk ∈ l0 := by
        have hn : kk.toNat < l0.length := by have := A.out.1; omega
        unfold rd_T69; rw [List.getD_eq_getElem?_getD, List.getElem?_eq_getElem hn]; exact List.getElem_mem hn
      have hcall := hp wr (rd_T69 l0 kk) A2 c2 BW.out hmem (Kd.C_below hC2 BW.out) hl2
      have p1 := eq_true A.out.1
      have p2 := eq_true hlt
      clear hp hlt hC2 hl2 hmem
      cases hq : p (rd_T69 l0 kk) with
      | true =>
        rw [hq] at hcall
        have HQ := Aside0.mk hq
        clear hq
        go_wp2_with (go_at_fn g; refine hcall.mono ?_; rintro e w' ⟨rfl, hb'⟩)
        go_ret
        refine ⟨?_, hb'⟩
        rw [idxP_hit p l0 z69 kk A.out.1 (of_eq_true p2) HQ.out A.out.2.2.2.2]
        rfl
      | false =>
        rw [hq] at hcall
        have HQ := Aside0.mk hq
        clear hq
        go_wp2_with (go_at_fn g; refine hcall.mono ?_; rintro e w' ⟨rfl, hb'⟩)
        have hw : wrap64 (kk + 1) = kk + 1 := by
          have h1 := A.out.1
          have h2 := of_eq_true p2
          unfold wrap64
          omega
        have h2 := of_eq_true p2
        have hA := A.out
        rw [hw]
        have hb2 := Aside0.mk hb'
        clear hb'
        obtain ⟨gg, rfl⟩ : ∃ m, gk = m + 1 := ⟨gk - 1, by omega⟩
        go_roundg gg
        case measure => omega
        case rel =>
          refine ⟨kk + 1, rfl, ⟨by omega, by omega, by omega, hb2.out, fun j hj => ?_⟩⟩
          by_cases e : (j : Int) = kk
          · rw [e]; exact HQ.out
          · exact hA.2.2.2.2 j (by omega)
    · have c2b0 : decide (kk < (l0.length : Int)) = false := decide_eq_false hlt
      go_wp2
      go_ret
      refine ⟨?_, A.out.2.2.2.1⟩
      rw [idxP_miss p l0 z69 (fun j hj => A.out.2.2.2.2 j (by have := A.out.2.1; omega))]
      rfl

set_option maxHeartbeats 1000000 in
theorem IdxI.calls (A0 : Option Addr) (c0 : Nat) (l0 : List Int) (p : Int → Bool) (g : Nat) (lb : Array Value) (eg : ∀ args w, (callFunc g args).run Try.prog w = .ok (.enter g args) w) (w : World)
    (hr0 : Kd.C (Kd.int .i64) w A0 l0.length l0)
    (hp : ∀ W (x : Int), Below w.heap.size w W → x ∈ l0 → Calls Try.prog g (#[.int .i64 x] ++ lb) W fun e w' => e = .returned (.bool (p x)) ∧ Below w.heap.size w w') :
    Calls Try.prog 58 #[.slice A0 l0.length c0, .func (.func g) #[] lb] w fun e w' => e = .returned (.int .i64 (idxP p l0)) ∧ Below w.heap.size w w' := by
  have HR := Aside0.mk hr0
  have hbig : l0.length ≤ 9223372036854775807 := hr0.2.1
  clear hr0
  go_enter Try.func58, Try.ntmps58
  go_wp2
  go_loopg [5, 8] (l0.length + 1) (fun gg _ s8 wr => ∃ kk : Int, s8 = .int .i64 kk ∧ Aside0 (0 ≤ kk ∧ kk ≤ l0.length ∧ l0.length - kk < gg ∧ Below w.heap.size w wr ∧ (∀ j : Nat, j < kk → p (rd l0 j) = false)))
  case atStart => exact ⟨0, rfl, ⟨by omega, by omega, by omega, Below.refl _ w, fun j hj => by omega⟩⟩
  case round =>
    obtain ⟨kk, rfl, A⟩ := hrel
    by_cases hlt : kk < l0.length
    · have c2b0 : decide (kk < (l0.length : Int)) = true := decide_eq_true hlt
      obtain ⟨ad, e, hx0⟩ := Kd.at_int HR.out kk A.out.1 hlt
      cases e
      have BW := Aside0.mk A.out.2.2.2.1
      replace hx0 := (BW.out.cell (World.block_lt_of_cell? w _ hx0)).trans hx0
      have hmem : rd l0 kk ∈ l0 := by
        have hn : kk.toNat < l0.length := by have := A.out.1; omega
        show l0.getD kk.toNat 0 ∈ l0; rw [List.getD_eq_getElem?_getD, List.getElem?_eq_getElem hn]; exact List.getElem_mem hn
      have hcall := hp wr (rd l0 kk) BW.out hmem
      have p1 := eq_true A.out.1
      have p2 := eq_true hlt
      clear hp hlt hmem
      cases hq : p (rd l0 kk) with
      | true =>
        rw [hq] at hcall
        have HQ := Aside0.mk hq
        clear hq
        go_wp2_with (go_at_fn g; refine hcall.mono ?_; rintro e w' ⟨rfl, hb'⟩)
        go_ret
        refine ⟨?_, hb'⟩
        rw [idxP_hit p l0 (0 : Int) kk A.out.1 (of_eq_true p2) HQ.out A.out.2.2.2.2]
        rfl
      | false =>
        rw [hq] at hcall
        have HQ := Aside0.mk hq
        clear hq
        go_wp2_with (go_at_fn g; refine hcall.mono ?_; rintro e w' ⟨rfl, hb'⟩)
        have hw : wrap64 (kk + 1) = kk + 1 := by
          have h1 := A.out.1
          have h2 := of_eq_true p2
          unfold wrap64
          omega
        have h2 := of_eq_true p2
        have hA := A.out
        rw [hw]
        have hb2 := Aside0.mk hb'
        clear hb'
        obtain ⟨gg, rfl⟩ : ∃ m, gk = m + 1 := ⟨gk - 1, by omega⟩
        go_roundg gg
        case measure => omega
        case rel =>
          refine ⟨kk + 1, rfl, ⟨by omega, by omega, by omega, hb2.out, fun j hj => ?_⟩⟩
          by_cases e : (j : Int) = kk
          · rw [e]; exact HQ.out
          · exact hA.2.2.2.2 j (by omega)
    · have c2b0 : decide (kk < (l0.length : Int)) = false := decide_eq_false hlt
      go_wp2
      go_ret
      refine ⟨?_, A.out.2.2.2.1⟩
      rw [idxP_miss p l0 (0 : Int) (fun j hj => A.out.2.2.2.2 j (by have := A.out.2.1; omega))]
      rfl

set_option maxHeartbeats 1000000 in
theorem ContL.calls (A0 : Option Addr) (c0 : Nat) (l0 : List (List Int)) (w : World) (hr0 : Kd.C (Kd.slice 5 (Kd.int .u8)) w A0 l0.length l0) :
    Calls Try.prog 56 #[.slice A0 l0.length c0, .func (.func 57) #[] #[]] w fun e w' => e = .returned (.bool (l0.any long)) ∧ Below w.heap.size w w' := by
  have HR := Aside0.mk hr0
  rw [← idxP_any]
  clear hr0
  go_enter Try.func56, Try.ntmps56
  go_wp2_with (first | (go_at_call 72; refine (IdxL.calls A0 c0 l0 long 57 #[] (enters_of Try.func57 (by kernel_rfl) rfl) _ HR.out (fun W x A c hB _ hC hl => (Long.calls x A c W).mono fun e w' he => ⟨he.1, he.2 ▸ hB⟩)).mono ?_; rintro e w' ⟨rfl, hb'⟩))
  go_ret
  exact ⟨rfl, hb'⟩
def mayLogV (l : List (List Int)) : Bool := decide ((l.length : Int) ≤ 512) && !(l.any long)
theorem mayLogV_iff {l : List (List Int)} : mayLogV l = true ↔ l.length ≤ 512 ∧ ∀ x ∈ l, x.length ≤ 256 := by
  unfold mayLogV long
  simp
  exact and_congr (by omega) ⟨fun h x hx => by have := h x hx; omega, fun h x hx => by have := h x hx; omega⟩
set_option maxHeartbeats 1000000 in
theorem mayLog.calls (A0 : Option Addr) (c0 : Nat) (l0 : List (List Int)) (w : World) (hr0 : Kd.C (Kd.slice 5 (Kd.int .u8)) w A0 l0.length l0) :
    Calls Try.prog 34 #[.slice A0 l0.length c0] w fun e w' => e = .returned (.bool (mayLogV l0)) ∧ Below w.heap.size w w' := by
  have HR := Aside0.mk hr0
  clear hr0
  by_cases h : (l0.length : Int) ≤ 512
  · have d1 : decide ((l0.length : Int) ≤ 512) = true := decide_eq_true h
    clear h
    unfold mayLogV
    rw [d1, Bool.true_and]
    go_enter Try.func34, Try.ntmps34
    go_wp2_with (first | (go_at_call 56; refine (ContL.calls A0 c0 l0 _ HR.out).mono ?_; rintro e w' ⟨rfl, hb'⟩))
    go_ret
    exact ⟨rfl, hb'⟩
  · have d1 : decide ((l0.length : Int) ≤ 512) = false := decide_eq_false h
    clear h
    unfold mayLogV
    rw [d1, Bool.false_and]
    go_enter Try.func34, Try.ntmps34
    go_wp2
    go_ret
    exact ⟨rfl, Below.refl _ _⟩
def badN (n : Int) : Bool := !(wi n 0 512)
set_option maxHeartbeats 1000000 in
theorem BadN.calls (n : Int) (w : World) : Calls Try.prog 36 #[.int .i64 n] w fun e w' => e = .returned (.bool (badN n)) ∧ w = w' := by
  go_enter Try.func36, Try.ntmps36
  go_wp2_with (first | (go_at_call 14; refine (within.calls _ _ _ _).mono ?_; rintro e w' ⟨rfl, rfl⟩))
  go_ret
  exact ⟨rfl, rfl⟩
set_option maxHeartbeats 1000000 in
theorem ContI.calls (A0 : Option Addr) (c0 : Nat) (l0 : List Int) (w : World) (hr0 : Kd.C (Kd.int .i64) w A0 l0.length l0) :
    Calls Try.prog 37 #[.slice A0 l0.length c0, .func (.func 36) #[] #[]] w fun e w' => e = .returned (.bool (l0.any badN)) ∧ Below w.heap.size w w' := by
  have HR := Aside0.mk hr0
  rw [← idxP_any]
  clear hr0
  go_enter Try.func37, Try.ntmps37
  go_wp2_with (first | (go_at_call 58; refine (IdxI.calls A0 c0 l0 badN 36 #[] (enters_of Try.func36 (by kernel_rfl) rfl) _ HR.out (fun W x hB _ => (BadN.calls x W).mono fun e w' he => ⟨he.1, he.2 ▸ hB⟩)).mono ?_; rintro e w' ⟨rfl, hb'⟩))
  go_ret
  exact ⟨rfl, hb'⟩
def mayV (b : S69) : Bool := if b.f0 = true then mayLogV b.f2 && (wi b.f1 0 1099511627776 && wi b.f3 0 b.f2.length) else (b.f1 == 0 && ((b.f2.length : Int) == 0 && b.f3 == 0))
set_option maxHeartbeats 2000000 in
theorem may.calls (b : S69) (A : Option Addr) (c : Nat) (w : World) (hr : Kd.C (Kd.slice 5 (Kd.int .u8)) w A b.f2.length b.f2) :
    Calls Try.prog 40 #[.agg #[.bool b.f0, .int .i64 b.f1, .slice A b.f2.length c, .int .i64 b.f3]] w fun e w' => e = .returned (.bool (mayV b)) ∧ Below w.heap.size w w' := by
  have hu := Try.underlying69
  have HR := Aside0.mk hr
  have HB := Aside0.mk (below_alloc (Below.refl w.heap.size w) (.cells #[.bool b.f0, .int .i64 b.f1, .slice A b.f2.length c, .int .i64 b.f3] 69))
  have hk := heap_alloc_new w (.cells #[.bool b.f0, .int .i64 b.f1, .slice A b.f2.length c, .int .i64 b.f3] 69)
  have HK := Aside0.mk hk
  clear hr hk
  obtain ⟨b0, b1, b2, b3⟩ := b
  dsimp only at *
  cases b0 with
  | false =>
    have e : mayV ⟨false, b1, b2, b3⟩ = (b1 == 0 && ((b2.length : Int) == 0 && b3 == 0)) := rfl
    rw [e]
    by_cases h1 : b1 = 0
    · have d1 : (b1 == 0) = true := beq_iff_eq.mpr h1
      by_cases h2 : (b2.length : Int) = 0
      · have d2 : ((b2.length : Int) == 0) = true := beq_iff_eq.mpr h2
        clear h1 h2 e
        rw [d1, d2, Bool.true_and, Bool.true_and]
        go_enter Try.func40, Try.ntmps40
        go_wp2
        go_ret
        exact ⟨rfl, HB.out⟩
      · have d2 : ((b2.length : Int) == 0) = false := beq_eq_false_iff_ne.mpr h2
        clear h1 h2 e
        rw [d1, d2, Bool.true_and, Bool.false_and]
        go_enter Try.func40, Try.ntmps40
        go_wp2
        go_ret
        exact ⟨rfl, HB.out⟩
    · have d1 : (b1 == 0) = false := beq_eq_false_iff_ne.mpr h1
      clear h1 e
      rw [d1, Bool.false_and]
      go_enter Try.func40, Try.ntmps40
      go_wp2
      go_ret
      exact ⟨rfl, HB.out⟩
  | true =>
    have e : mayV ⟨true, b1, b2, b3⟩ = (mayLogV b2 && (wi b1 0 1099511627776 && wi b3 0 b2.length)) := rfl
    rw [e]
    clear e
    cases d1 : mayLogV b2 with
    | false =>
      rw [Bool.false_and]
      go_enter Try.func40, Try.ntmps40
      go_wp2_with (first | (go_at_call 34; refine (mayLog.calls A c b2 _ (Kd.C_below HR.out HB.out)).mono ?_; rw [d1]; rintro e w1 ⟨rfl, hb1⟩; have HB1 := Aside0.mk hb1; clear hb1))
      go_ret
      exact ⟨rfl, HB.out.trans (HB1.out.mono HB.out.size)⟩
    | true =>
      cases d2 : wi b1 0 1099511627776 with
      | false =>
        rw [Bool.true_and, Bool.false_and]
        go_enter Try.func40, Try.ntmps40
        go_wp2_with (first | (go_at_call 34; refine (mayLog.calls A c b2 _ (Kd.C_below HR.out HB.out)).mono ?_; rw [d1]; rintro e w1 ⟨rfl, hb1⟩; have HB1 := Aside0.mk hb1; have x1 := (blk_cell (blk_below HK.out hb1) 1).trans rfl; clear hb1) | (go_at_call 14; refine (within.calls _ _ _ _).mono ?_; rw [d2]; rintro e w' ⟨rfl, rfl⟩))
        go_ret
        exact ⟨rfl, HB.out.trans (HB1.out.mono HB.out.size)⟩
      | true =>
        rw [Bool.true_and, Bool.true_and]
        go_enter Try.func40, Try.ntmps40
        go_wp2_with (first | (go_at_call 34; refine (mayLog.calls A c b2 _ (Kd.C_below HR.out HB.out)).mono ?_; rw [d1]; rintro e w1 ⟨rfl, hb1⟩; have HB1 := Aside0.mk hb1; have x1 := (blk_cell (blk_below HK.out hb1) 1).trans rfl; have x2 := (blk_cell (blk_below HK.out hb1) 2).trans rfl; have x3 := (blk_cell (blk_below HK.out hb1) 3).trans rfl; clear hb1) | (go_at_call 14; refine (within.calls _ _ _ _).mono ?_; (try rw [d2]); rintro e w' ⟨rfl, rfl⟩))
        go_ret
        exact ⟨rfl, HB.out.trans (HB1.out.mono HB.out.size)⟩
def mayNot (b : S69) : Bool := !(mayV b)
set_option maxHeartbeats 1000000 in
theorem MayNot.calls (b : S69) (A : Option Addr) (c : Nat) (w : World) (hr : Kd.C (Kd.slice 5 (Kd.int .u8)) w A b.f2.length b.f2) :
    Calls Try.prog 39 #[.agg #[.bool b.f0, .int .i64 b.f1, .slice A b.f2.length c, .int .i64 b.f3]] w fun e w' => e = .returned (.bool (mayNot b)) ∧ Below w.heap.size w w' := by
  have hu := Try.underlying69
  have HR := Aside0.mk hr
  have HB := Aside0.mk (below_alloc (Below.refl w.heap.size w) (.cells #[.bool b.f0, .int .i64 b.f1, .slice A b.f2.length c, .int .i64 b.f3] 69))
  clear hr
  go_enter Try.func39, Try.ntmps39
  go_wp2_with (first | (go_at_call 40; refine (may.calls b A c _ (Kd.C_below HR.out HB.out)).mono ?_; rintro e w1 ⟨rfl, hb1⟩; have HB1 := Aside0.mk hb1; clear hb1))
  go_ret
  exact ⟨rfl, HB.out.trans (HB1.out.mono HB.out.size)⟩
set_option maxHeartbeats 1000000 in
theorem ContB.calls (A0 : Option Addr) (c0 : Nat) (l0 : List S69) (w : World) (hr0 : Kd.C k69 w A0 l0.length l0) :
    Calls Try.prog 38 #[.slice A0 l0.length c0, .func (.func 39) #[] #[]] w fun e w' => e = .returned (.bool (l0.any mayNot)) ∧ Below w.heap.size w w' := by
  have HR := Aside0.mk hr0
  rw [← idxP_any]
  clear hr0
  go_enter Try.func38, Try.ntmps38
  go_wp2_with (first | (go_at_call 59; refine (IdxW.calls A0 c0 l0 mayNot 39 #[] (enters_of Try.func39 (by kernel_rfl) rfl) _ HR.out (fun W x A c hB _ hC hl => (MayNot.calls x A c W hC).mono fun e w' he => ⟨he.1, hB.trans (he.2.mono hB.size)⟩)).mono ?_; rintro e w' ⟨rfl, hb'⟩))
  go_ret
  exact ⟨rfl, hb'⟩
def primaryV (id n view : Int) : Bool := view.tmod n == id
set_option maxHeartbeats 1000000 in
theorem primary.calls (b : Nat) (id n view : Int) (hn : n ≠ 0) (w : World) (x0 : w.cell? ⟨b, 0, none⟩ = some (.int .i64 id)) (x1 : w.cell? ⟨b, 1, none⟩ = some (.int .i64 n)) (x2 : w.cell? ⟨b, 2, none⟩ = some (.int .i64 view)) :
    Calls Try.prog 33 #[.pointer (some ⟨b, 0, none⟩)] w fun e w' => e = .returned (.bool (primaryV id n view)) ∧ Drawn0 w w' := by
  have c2b0 : (n == 0) = false := beq_eq_false_iff_ne.mpr hn
  have c2b1 : (n != 0) = true := bne_iff_ne.mpr hn
  go_enter Try.func33, Try.ntmps33
  go_wp2
  repeat (go_quiet (fail); try go_wp2)
  go_ret
  exact ⟨by rfl, by repeat (first | exact Drawn0.refl _ | apply Drawn0.step)⟩
def leadsV (id n view status : Int) : Bool := status == 0 && primaryV id n view
set_option maxHeartbeats 1000000 in
theorem leads.calls (b : Nat) (id n view status : Int) (hn : n ≠ 0) (w : World) (x0 : w.cell? ⟨b, 0, none⟩ = some (.int .i64 id)) (x1 : w.cell? ⟨b, 1, none⟩ = some (.int .i64 n)) (x2 : w.cell? ⟨b, 2, none⟩ = some (.int .i64 view)) (x4 : w.cell? ⟨b, 4, none⟩ = some (.int .i64 status)) :
    Calls Try.prog 16 #[.pointer (some ⟨b, 0, none⟩)] w fun e w' => e = .returned (.bool (leadsV id n view status)) ∧ Drawn0 w w' := by
  by_cases h : status = 0
  · have d1 : (status == 0) = true := beq_iff_eq.mpr h
    unfold leadsV
    rw [d1, Bool.true_and]
    clear h
    go_enter Try.func16, Try.ntmps16
    go_wp2_with (first | (go_at_call 33; refine (primary.calls b id n view hn _ x0 x1 x2).mono ?_; rintro e w' ⟨rfl, hd⟩))
    go_ret
    exact ⟨rfl, hd⟩
  · have d1 : (status == 0) = false := beq_eq_false_iff_ne.mpr h
    unfold leadsV
    rw [d1, Bool.false_and]
    clear h
    go_enter Try.func16, Try.ntmps16
    go_wp2
    go_ret
    exact ⟨rfl, Drawn0.refl _⟩
end Go.Proofs.Ytojjnifbnppliaa.T
