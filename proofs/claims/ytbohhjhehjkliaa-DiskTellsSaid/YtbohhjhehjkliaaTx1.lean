/- This text tells functions of the seat as plain functions, with their contracts, as the machine's calls meet them. -/
import Derived.Test.YtbohhjhehjkliaaTx0
namespace Go.Proofs.Ytbohhjhehjkliaa.T
open Go.RowKit Go.Proofs.YtbohhjhehjkliaaW.PrintWords Go.Proofs.YtbohhjhehjkliaaW.PrintLast Go.Proofs.YtbohhjhehjkliaaW.PrintMore
attribute [local go_sem] max2_int min2_int max_two min_two max_three min_three max_four min_four   -- for this text's walks alone
set_option linter.unusedVariables false
set_option linter.unusedSimpArgs false

-- NOT PRINTED: function 47 (slices_IndexFunc_byte_byte)

-- NOT PRINTED: function 42 (slices_ContainsFunc_byte_byte)

-- NOT PRINTED: function 48 (disk_Write_48)

-- NOT PRINTED: function 43 (disk_Write_43)

/-! ### disk_Check: function 22 -/
def idxP {α : Type} (p : α → Bool) (l : List α) : Int := if l.findIdx p < l.length then (l.findIdx p : Int) else -1
theorem idxP_hit {α : Type} (p : α → Bool) (l : List α) (d : α) (i : Int) (h0 : 0 ≤ i) (h1 : i < l.length) (h : p (l.getD i.toNat d) = true) (hf : ∀ j : Nat, j < i → p (l.getD j d) = false) : idxP p l = i := by
  have hn : i.toNat < l.length := by omega
  have : l.findIdx p = i.toNat := by
    rw [List.findIdx_eq hn]
    refine ⟨by rw [List.getD_eq_getElem?_getD, List.getElem?_eq_getElem hn] at h; exact h, fun j hj => ?_⟩
    have := hf j (by omega)
    rw [List.getD_eq_getElem?_getD, List.getElem?_eq_getElem (by omega)] at this
    simpa using this
  unfold idxP
  rw [this, if_pos hn]
  omega
theorem idxP_miss {α : Type} (p : α → Bool) (l : List α) (d : α) (hf : ∀ j : Nat, j < l.length → p (l.getD j d) = false) : idxP p l = -1 := by
  unfold idxP
  rw [if_neg]
  intro h
  have h1 := List.findIdx_getElem (p := p) (xs := l) (w := h)
  have := hf _ h
  rw [List.getD_eq_getElem?_getD, List.getElem?_eq_getElem h] at this
  simp at this
  rw [this] at h1
  exact absurd h1 (by simp)
theorem idxP_any {α : Type} (p : α → Bool) (l : List α) : decide (0 ≤ idxP p l) = l.any p := by
  unfold idxP
  split
  · rename_i h
    rw [decide_eq_true (by omega)]
    exact (List.any_eq_true.2 ⟨_, List.getElem_mem h, List.findIdx_getElem⟩).symm
  · rename_i h
    rw [decide_eq_false (by omega)]
    have h2 : l.findIdx p = l.length := by have := List.findIdx_le_length (p := p) (xs := l); omega
    symm
    rw [List.any_eq_false]
    intro x hx
    simpa using List.findIdx_eq_length.1 h2 x hx

set_option maxHeartbeats 1000000 in
theorem IdxL.calls (A0 : Option Addr) (c0 : Nat) (l0 : List (List Int)) (p : (List Int) → Bool) (g : Nat) (lb : Array Value) (eg : ∀ args w, (callFunc g args).run Try.prog w = .ok (.enter g args) w) (w : World)
    (hr0 : Kd.C (Kd.slice 5 (Kd.int .u8)) w A0 l0.length l0)
    (hp : ∀ W (x : List Int) A c, Below w.heap.size w W → x ∈ l0 → Kd.C (Kd.int .u8) W A x.length x → x.length ≤ c → Calls Try.prog g (#[.slice A x.length c] ++ lb) W fun e w' => e = .returned (.bool (p x)) ∧ Below w.heap.size w w') :
    Calls Try.prog 47 #[.slice A0 l0.length c0, .func (.func g) #[] lb] w fun e w' => e = .returned (.int .i64 (idxP p l0)) ∧ Below w.heap.size w w' := by
  have hu62 := Try.underlying62
  have HR := Aside0.mk hr0
  have hbig : l0.length ≤ 9223372036854775807 := hr0.2.1
  clear hr0
  go_enter Try.func47, Try.ntmps47
  go_wp2
  go_loopg [5, 8] (l0.length + 1) (fun gg _ s8 wr => ∃ kk : Int, s8 = .int .i64 kk ∧ Aside0 (0 ≤ kk ∧ kk ≤ l0.length ∧ l0.length - kk < gg ∧ Below w.heap.size w wr ∧ (∀ j : Nat, j < kk → p (rd_L1 l0 j) = false)))
  case atStart => exact ⟨0, rfl, ⟨by omega, by omega, by omega, Below.refl _ w, fun j hj => by omega⟩⟩
  case round =>
    obtain ⟨kk, rfl, A⟩ := hrel
    by_cases hlt : kk < l0.length
    · have c2b0 : decide (kk < (l0.length : Int)) = true := decide_eq_true hlt
      obtain ⟨ad, A2, c2, e, hx0, hl2, hC2⟩ := at_L1 HR.out kk A.out.1 hlt
      cases e
      have BW := Aside0.mk A.out.2.2.2.1
      replace hx0 := (BW.out.cell (World.block_lt_of_cell? w _ hx0)).trans hx0
      have hmem : rd_L1 l0 kk ∈ l0 := by
        have hn : kk.toNat < l0.length := by have := A.out.1; omega
        unfold rd_L1; rw [List.getD_eq_getElem?_getD, List.getElem?_eq_getElem hn]; exact List.getElem_mem hn
      have hcall := hp wr (rd_L1 l0 kk) A2 c2 BW.out hmem (Kd.C_below hC2 BW.out) hl2
      have p1 := eq_true A.out.1
      have p2 := eq_true hlt
      clear hp hlt hC2 hl2 hmem
      cases hq : p (rd_L1 l0 kk) with
      | true =>
        rw [hq] at hcall
        have HQ := Aside0.mk hq
        clear hq
        go_wp2_with (go_at_fn g; refine hcall.mono ?_; rintro e w' ⟨rfl, hb'⟩)
        go_ret
        refine ⟨?_, hb'⟩
        rw [idxP_hit p l0 ([] : List Int) kk A.out.1 (of_eq_true p2) HQ.out A.out.2.2.2.2]
        rfl
      | false =>
        rw [hq] at hcall
        have HQ := Aside0.mk hq
        clear hq
        go_wp2_with (go_at_fn g; refine hcall.mono ?_; rintro e w' ⟨rfl, hb'⟩)
        have hw : wrap64 (kk + 1) = kk + 1 := by
          have h1 := A.out.1
          have h2 := of_eq_true p2
          unfold wrap64
          omega
        have h2 := of_eq_true p2
        have hA := A.out
        rw [hw]
        have hb2 := Aside0.mk hb'
        clear hb'
        obtain ⟨gg, rfl⟩ : ∃ m, gk = m + 1 := ⟨gk - 1, by omega⟩
        go_roundg gg
        case measure => omega
        case rel =>
          refine ⟨kk + 1, rfl, ⟨by omega, by omega, by omega, hb2.out, fun j hj => ?_⟩⟩
          by_cases e : (j : Int) = kk
          · rw [e]; exact HQ.out
          · exact hA.2.2.2.2 j (by omega)
    · have c2b0 : decide (kk < (l0.length : Int)) = false := decide_eq_false hlt
      go_wp2
      go_ret
      refine ⟨?_, A.out.2.2.2.1⟩
      rw [idxP_miss p l0 ([] : List Int) (fun j hj => A.out.2.2.2.2 j (by have := A.out.2.1; omega))]
      rfl
set_option maxHeartbeats 1000000 in
theorem IdxW.calls (A0 : Option Addr) (c0 : Nat) (l0 : List (S62)) (p : (S62) → Bool) (g : Nat) (lb : Array Value) (eg : ∀ args w, (callFunc g args).run Try.prog w = .ok (.enter g args) w) (w : World)
    (hr0 : Kd.C k62 w A0 l0.length l0)
    (hp : ∀ W (x : S62) A c, Below w.heap.size w W → x ∈ l0 → Kd.C (Kd.int .u8) W A x.f1.length x.f1 → x.f1.length ≤ c → Calls Try.prog g (#[.agg #[.int .i64 x.f0, .slice A x.f1.length c]] ++ lb) W fun e w' => e = .returned (.bool (p x)) ∧ Below w.heap.size w w') :
    Calls Try.prog 48 #[.slice A0 l0.length c0, .func (.func g) #[] lb] w fun e w' => e = .returned (.int .i64 (idxP p l0)) ∧ Below w.heap.size w w' := by
  have hu62 := Try.underlying62
  have HR := Aside0.mk hr0
  have hbig : l0.length ≤ 9223372036854775807 := hr0.2.1
  clear hr0
  go_enter Try.func48, Try.ntmps48
  go_wp2
  go_loopg [5, 8] (l0.length + 1) (fun gg _ s8 wr => ∃ kk : Int, s8 = .int .i64 kk ∧ Aside0 (0 ≤ kk ∧ kk ≤ l0.length ∧ l0.length - kk < gg ∧ Below w.heap.size w wr ∧ (∀ j : Nat, j < kk → p (rd_T62 l0 j) = false)))
  case atStart => exact ⟨0, rfl, ⟨by omega, by omega, by omega, Below.refl _ w, fun j hj => by omega⟩⟩
  case round =>
    obtain ⟨kk, rfl, A⟩ := hrel
    by_cases hlt : kk < l0.length
    · have c2b0 : decide (kk < (l0.length : Int)) = true := decide_eq_true hlt
      obtain ⟨ad, A2, c2, e, hx0, hx1, hl2, hC2⟩ := at_T62 HR.out kk A.out.1 hlt
      cases e
      have BW := Aside0.mk A.out.2.2.2.1
      replace hx0 := (BW.out.cell (World.block_lt_of_cell? w _ hx0)).trans hx0
      replace hx1 := (BW.out.cell (World.block_lt_of_cell? w _ hx1)).trans hx1
      have hmem : rd_T62 l0 kk ∈ l0 := by
        have hn : kk.toNat < l0.length := by have := A.out.1; omega
        unfold rd_T62; rw [List.getD_eq_getElem?_getD, List.getElem?_eq_getElem hn]; exact List.getElem_mem hn
      have hcall := hp wr (rd_T62 l0 kk) A2 c2 BW.out hmem (Kd.C_below hC2 BW.out) hl2
      have p1 := eq_true A.out.1
      have p2 := eq_true hlt
      clear hp hlt hC2 hl2 hmem
      cases hq : p (rd_T62 l0 kk) with
      | true =>
        rw [hq] at hcall
        have HQ := Aside0.mk hq
        clear hq
        go_wp2_with (go_at_fn g; refine hcall.mono ?_; rintro e w' ⟨rfl, hb'⟩)
        go_ret
        refine ⟨?_, hb'⟩
        rw [idxP_hit p l0 z62 kk A.out.1 (of_eq_true p2) HQ.out A.out.2.2.2.2]
        rfl
      | false =>
        rw [hq] at hcall
        have HQ := Aside0.mk hq
        clear hq
        go_wp2_with (go_at_fn g; refine hcall.mono ?_; rintro e w' ⟨rfl, hb'⟩)
        have hw : wrap64 (kk + 1) = kk + 1 := by
          have h1 := A.out.1
          have h2 := of_eq_true p2
          unfold wrap64
          omega
        have h2 := of_eq_true p2
        have hA := A.out
        rw [hw]
        have hb2 := Aside0.mk hb'
        clear hb'
        obtain ⟨gg, rfl⟩ : ∃ m, gk = m + 1 := ⟨gk - 1, by omega⟩
        go_roundg gg
        case measure => omega
        case rel =>
          refine ⟨kk + 1, rfl, ⟨by omega, by omega, by omega, hb2.out, fun j hj => ?_⟩⟩
          by_cases e : (j : Int) = kk
          · rw [e]; exact HQ.out
          · exact hA.2.2.2.2 j (by omega)
    · have c2b0 : decide (kk < (l0.length : Int)) = false := decide_eq_false hlt
      go_wp2
      go_ret
      refine ⟨?_, A.out.2.2.2.1⟩
      rw [idxP_miss p l0 z62 (fun j hj => A.out.2.2.2.2 j (by have := A.out.2.1; omega))]
      rfl

def odd (b : List Int) : Bool := (b.length : Int) != 64
def wbad (n : Nat) (x : S62) : Bool := decide (x.f0 < 0) || decide (x.f0 ≥ n) || odd x.f1
set_option maxHeartbeats 1000000 in
theorem Odd.calls (b : List Int) (A : Option Addr) (c : Nat) (w : World) : Calls Try.prog 40 #[.slice A b.length c] w fun e w' => e = .returned (.bool (odd b)) ∧ w = w' := by
  go_enter Try.func40, Try.ntmps40
  go_wp2
  go_ret
  exact ⟨rfl, rfl⟩

set_option maxHeartbeats 1000000 in
theorem Bad.calls (x : S62) (A : Option Addr) (c : Nat) (bs bo : Nat) (A0 A1 : Option Addr) (c0 c1 n m : Nat) (w : World)
    (hs : w.heap[bs]? = some (.cells #[.slice A0 n c0, .slice A1 m c1] 30 (0, 0))) (ho : w.heap[bo]? = some (.cells #[.func (.func 40) #[] #[]] 72 (0, 0))) :
    Calls Try.prog 41 #[.agg #[.int .i64 x.f0, .slice A x.f1.length c], .pointer (some ⟨bs, 0, none⟩), .pointer (some ⟨bo, 0, none⟩)] w fun e w' => e = .returned (.bool (wbad n x)) ∧ Below w.heap.size w w' := by
  have hu62 := Try.underlying62
  have hu30 := Try.underlying30
  have HB := Aside0.mk (below_alloc (Below.refl w.heap.size w) (.cells #[.int .i64 x.f0, .slice A x.f1.length c] 62))
  have s0 := (blk_cell (blk_alloc hs (.cells #[.int .i64 x.f0, .slice A x.f1.length c] 62)) 0).trans rfl
  have o0 := (blk_cell (blk_alloc ho (.cells #[.int .i64 x.f0, .slice A x.f1.length c] 62)) 0).trans rfl
  clear hs ho
  by_cases h1 : x.f0 < 0
  · have d1 : decide (x.f0 < 0) = true := decide_eq_true h1
    have e : wbad n x = true := by unfold wbad; rw [d1]; rfl
    rw [e]
    clear h1 e
    go_enter Try.func41, Try.ntmps41
    go_wp2
    go_ret
    exact ⟨rfl, HB.out⟩
  · have d1 : decide (x.f0 < 0) = false := decide_eq_false h1
    by_cases h2 : x.f0 ≥ n
    · have d2 : decide ((n : Int) ≤ x.f0) = true := decide_eq_true h2
      have e : wbad n x = true := by unfold wbad; rw [d1, decide_eq_true h2]; rfl
      rw [e]
      clear h1 h2 e
      go_enter Try.func41, Try.ntmps41
      go_wp2
      go_ret
      exact ⟨rfl, HB.out⟩
    · have d2 : decide ((n : Int) ≤ x.f0) = false := decide_eq_false h2
      have e : wbad n x = odd x.f1 := by unfold wbad; rw [d1, decide_eq_false h2]; rfl
      rw [e]
      clear h1 h2 e
      go_enter Try.func41, Try.ntmps41
      go_wp2_with (go_at_call 40; refine (Odd.calls x.f1 A c _).mono ?_; rintro e w' ⟨rfl, rfl⟩)
      go_ret
      exact ⟨rfl, HB.out⟩
set_option maxHeartbeats 1000000 in
theorem ContL.calls (A0 : Option Addr) (c0 : Nat) (l0 : List (List Int)) (w : World) (hr0 : Kd.C (Kd.slice 5 (Kd.int .u8)) w A0 l0.length l0) :
    Calls Try.prog 42 #[.slice A0 l0.length c0, .func (.func 40) #[] #[]] w fun e w' => e = .returned (.bool (l0.any odd)) ∧ Below w.heap.size w w' := by
  have HR := Aside0.mk hr0
  rw [← idxP_any]
  clear hr0
  go_enter Try.func42, Try.ntmps42
  go_wp2_with (first | (go_at_call 47; refine (IdxL.calls A0 c0 l0 odd 40 #[] (enters_of Try.func40 (by kernel_rfl) rfl) _ HR.out (fun W x A c hB _ hC hl => (Odd.calls x A c W).mono fun e w' he => ⟨he.1, he.2 ▸ hB⟩)).mono ?_; rintro e w' ⟨rfl, hb'⟩))
  go_ret
  exact ⟨rfl, hb'⟩
set_option maxHeartbeats 1000000 in
theorem ContW.calls (A0 : Option Addr) (c0 : Nat) (l0 : List S62) (w : World) (hr0 : Kd.C k62 w A0 l0.length l0) (bs bo : Nat) (B0 B1 : Option Addr) (d0 d1 n m : Nat)
    (hs : w.heap[bs]? = some (.cells #[.slice B0 n d0, .slice B1 m d1] 30 (0, 0))) (ho : w.heap[bo]? = some (.cells #[.func (.func 40) #[] #[]] 72 (0, 0))) :
    Calls Try.prog 43 #[.slice A0 l0.length c0, .func (.func 41) #[] #[.pointer (some ⟨bs, 0, none⟩), .pointer (some ⟨bo, 0, none⟩)]] w fun e w' => e = .returned (.bool (l0.any (wbad n))) ∧ Below w.heap.size w w' := by
  have HR := Aside0.mk hr0
  have HS := Aside0.mk hs
  have HO := Aside0.mk ho
  rw [← idxP_any]
  clear hr0 hs ho
  go_enter Try.func43, Try.ntmps43
  go_wp2_with (first | (go_at_call 48; refine (IdxW.calls A0 c0 l0 (wbad n) 41 #[.pointer (some ⟨bs, 0, none⟩), .pointer (some ⟨bo, 0, none⟩)] (enters_of Try.func41 (by kernel_rfl) rfl) _ HR.out (fun W x A c hB _ hC hl => (Bad.calls x A c bs bo B0 B1 d0 d1 n m W (blk_below HS.out hB) (blk_below HO.out hB)).mono fun e w' he => ⟨he.1, hB.trans (he.2.mono hB.size)⟩)).mono ?_; rintro e w' ⟨rfl, hb'⟩))
  go_ret
  exact ⟨rfl, hb'⟩

def disk_Check.v (l0 : List (List Int)) (l1 : List S62) : Int := if (l0.length : Int) < 1 ∨ (l0.length : Int) > 2048 ∨ (l1.length : Int) > 4096 ∨ l0.any odd = true ∨ l1.any (wbad l0.length) = true then 9 else 0
def disk_Check.f (l0 : List (List Int)) (l1 : List S62) : Option Int := some (disk_Check.v l0 l1)
set_option maxHeartbeats 2000000 in
theorem disk_Check.calls (A0_0 : Option Addr) (c0_0 : Nat) (l0_0 : List (List Int)) (A0_1 : Option Addr) (c0_1 : Nat) (l0_1 : List S62) (r : Int) (w : World) (hr0_0 : Kd.C (Kd.slice 5 (Kd.int .u8)) w A0_0 l0_0.length l0_0) (hc0_0 : l0_0.length ≤ c0_0) (hr0_1 : Kd.C k62 w A0_1 l0_1.length l0_1) (hc0_1 : l0_1.length ≤ c0_1) (h : disk_Check.f l0_0 l0_1 = some r) :
    Calls Try.prog 22 #[.agg #[.slice A0_0 l0_0.length c0_0, .slice A0_1 l0_1.length c0_1]] w fun e w' => e = .returned (.int .i64 r) ∧ Below w.heap.size w w' := by
  have hu30 := Try.underlying30
  have HR0 := Aside0.mk hr0_0
  have HR1 := Aside0.mk hr0_1
  have H := Aside0.mk (Option.some.inj h)
  have hmf : ∀ (fn : Fn) (first cap : Array Value) (w : World), (Instr.makeFunc fn first cap).run Try.prog w = .ok (.func fn first cap) w := fun _ _ _ _ => rfl
  have HB := Aside0.mk (below_alloc (below_alloc (Below.refl w.heap.size w) (.cells #[.slice A0_0 l0_0.length c0_0, .slice A0_1 l0_1.length c0_1] 30)) (.cells #[.func (.func 40) #[] #[]] 72))
  clear hr0_0 hr0_1 h hc0_0 hc0_1
  by_cases h1 : (l0_0.length : Int) < 1
  · have c1 : decide ((l0_0.length : Int) < 1) = true := decide_eq_true h1
    have H1 := Aside0.mk h1
    clear h1
    go_enter Try.func22, Try.ntmps22
    go_wp2
    go_ret
    exact ⟨by rw [← H.out, disk_Check.v, if_pos (.inl H1.out)]; rfl, HB.out⟩
  have c1 : decide ((l0_0.length : Int) < 1) = false := decide_eq_false h1
  by_cases h2 : (l0_0.length : Int) > 2048
  · have c2 : decide (2048 < (l0_0.length : Int)) = true := decide_eq_true h2
    have H1 := Aside0.mk h2
    clear h1 h2
    go_enter Try.func22, Try.ntmps22
    go_wp2
    go_ret
    exact ⟨by rw [← H.out, disk_Check.v, if_pos (.inr (.inl H1.out))]; rfl, HB.out⟩
  have c2 : decide (2048 < (l0_0.length : Int)) = false := decide_eq_false h2
  by_cases h3 : (l0_1.length : Int) > 4096
  · have c3 : decide (4096 < (l0_1.length : Int)) = true := decide_eq_true h3
    have H1 := Aside0.mk h3
    clear h1 h2 h3
    go_enter Try.func22, Try.ntmps22
    go_wp2
    go_ret
    exact ⟨by rw [← H.out, disk_Check.v, if_pos (.inr (.inr (.inl H1.out)))]; rfl, HB.out⟩
  have c3 : decide (4096 < (l0_1.length : Int)) = false := decide_eq_false h3
  have H1 := Aside0.mk (And.intro h1 (And.intro h2 h3))
  clear h1 h2 h3
  have ks : ((w.alloc (.cells #[.slice A0_0 l0_0.length c0_0, .slice A0_1 l0_1.length c0_1] 30)).alloc (.cells #[.func (.func 40) #[] #[]] 72)).heap[w.heap.size]? = some (.cells #[.slice A0_0 l0_0.length c0_0, .slice A0_1 l0_1.length c0_1] 30 (0, 0)) := blk_alloc (heap_alloc_new w _) _
  have ko : ((w.alloc (.cells #[.slice A0_0 l0_0.length c0_0, .slice A0_1 l0_1.length c0_1] 30)).alloc (.cells #[.func (.func 40) #[] #[]] 72)).heap[w.heap.size + 1]? = some (.cells #[.func (.func 40) #[] #[]] 72 (0, 0)) := by have := heap_alloc_new (w.alloc (.cells #[.slice A0_0 l0_0.length c0_0, .slice A0_1 l0_1.length c0_1] 30)) (.cells #[.func (.func 40) #[] #[]] 72); simpa using this
  have KS := Aside0.mk ks
  have KO := Aside0.mk ko
  clear ks ko
  cases ha : l0_0.any odd with
  | true =>
    have HA := Aside0.mk ha
    go_enter Try.func22, Try.ntmps22
    go_wp2_with (first | (go_at_call 42; refine (ContL.calls A0_0 c0_0 l0_0 _ (Kd.C_below HR0.out HB.out)).mono ?_; rw [ha]; rintro e w' ⟨rfl, hb'⟩))
    go_ret
    exact ⟨by rw [← H.out, disk_Check.v, if_pos (.inr (.inr (.inr (.inl HA.out))))]; rfl, HB.out.trans (hb'.mono HB.out.size)⟩
  | false =>
    have HA := Aside0.mk ha
    cases hb : l0_1.any (wbad l0_0.length) with
    | true =>
      have HBB := Aside0.mk hb
      go_enter Try.func22, Try.ntmps22
      go_wp2_with (first | (go_at_call 42; refine (ContL.calls A0_0 c0_0 l0_0 _ (Kd.C_below HR0.out HB.out)).mono ?_; rw [ha]; rintro e w1 ⟨rfl, hb1⟩; have HB1 := Aside0.mk hb1; have s1 := (blk_cell (blk_below KS.out hb1) 1).trans rfl; clear hb1) | (go_at_call 43; refine (ContW.calls A0_1 c0_1 l0_1 _ (Kd.C_below HR1.out (HB.out.trans (HB1.out.mono HB.out.size))) _ _ _ _ _ _ _ _ (blk_below KS.out HB1.out) (blk_below KO.out HB1.out)).mono ?_; rw [hb]; rintro e w2 ⟨rfl, hb2⟩; have HB2 := Aside0.mk hb2; clear hb2))
      go_ret
      exact ⟨by rw [← H.out, disk_Check.v, if_pos (.inr (.inr (.inr (.inr HBB.out))))]; rfl, (HB.out.trans (HB1.out.mono HB.out.size)).trans (HB2.out.mono (by have := HB.out.size; have := HB1.out.size; omega))⟩
    | false =>
      have HBB := Aside0.mk hb
      go_enter Try.func22, Try.ntmps22
      go_wp2_with (first | (go_at_call 42; refine (ContL.calls A0_0 c0_0 l0_0 _ (Kd.C_below HR0.out HB.out)).mono ?_; rw [ha]; rintro e w1 ⟨rfl, hb1⟩; have HB1 := Aside0.mk hb1; have s1 := (blk_cell (blk_below KS.out hb1) 1).trans rfl; clear hb1) | (go_at_call 43; refine (ContW.calls A0_1 c0_1 l0_1 _ (Kd.C_below HR1.out (HB.out.trans (HB1.out.mono HB.out.size))) _ _ _ _ _ _ _ _ (blk_below KS.out HB1.out) (blk_below KO.out HB1.out)).mono ?_; rw [hb]; rintro e w2 ⟨rfl, hb2⟩; have HB2 := Aside0.mk hb2; clear hb2))
      go_ret
      exact ⟨by rw [← H.out, disk_Check.v, if_neg (by have := H1.out; have := HA.out; have := HBB.out; simp_all)]; rfl, (HB.out.trans (HB1.out.mono HB.out.size)).trans (HB2.out.mono (by have := HB.out.size; have := HB1.out.size; omega))⟩

-- NOT PRINTED: function 50 (slices_Clone_byte_byte)

-- NOT PRINTED: function 51 (disk_Write_51)

-- NOT PRINTED: function 52 (bytes_Clone)

end Go.Proofs.Ytbohhjhehjkliaa.T
