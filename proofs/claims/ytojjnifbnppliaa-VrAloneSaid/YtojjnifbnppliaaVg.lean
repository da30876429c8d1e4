/- The machine: what it holds; fail, here, most, count, agree. -/
import Derived.Test.YtojjnifbnppliaaV0
namespace Go.Proofs.Ytojjnifbnppliaa.T
open Go.RowKit Go.Proofs.YtojjnifbnppliaaW.PrintWords Go.Proofs.YtojjnifbnppliaaW.PrintLast Go.Proofs.YtojjnifbnppliaaW.PrintMore
attribute [local go_sem] max2_int min2_int max_two min_two max_three min_three max_four min_four
set_option linter.unusedVariables false
set_option linter.unusedSimpArgs false
/-- A message, as a value. -/
structure Ms where
  kind : Int
  fro : Int
  dst : Int
  view : Int
  last : Int
  prev : Int
  log : List (List Int)
  commit : Int
  mat : Int
def kMs : Kd Ms := Kd.iso (Kd.pair (Kd.int .i64) (Kd.pair (Kd.int .i64) (Kd.pair (Kd.int .i64) (Kd.pair (Kd.int .i64) (Kd.pair (Kd.int .i64) (Kd.pair (Kd.int .i64) (Kd.pair (Kd.slice 22 (Kd.slice 5 (Kd.int .u8))) (Kd.pair (Kd.int .i64) (Kd.int .i64))))))))) (fun x : Ms => (x.kind, x.fro, x.dst, x.view, x.last, x.prev, x.log, x.commit, x.mat))
set_option maxHeartbeats 1000000 in
theorem fail_ok.calls (p : Value) (x : Int) (w : World) : Calls Try.prog 44 #[p, .bool false, .int .i64 x] w fun e w' => e = .returned (.tuple #[]) ∧ w' = w := by
  go_enter Try.func44, Try.ntmps44
  go_wp2
  go_end0
  exact ⟨rfl, rfl⟩
set_option maxHeartbeats 1000000 in
theorem fail_bad.calls (p : Value) (x : Int) (w : World) : Calls Try.prog 44 #[p, .bool true, .int .i64 x] w fun e w' => e = .panicked [{ v := .iface 30 (.int .i64 x), recovered := false }] ∧ w' = w := by
  have hpn : ∀ (t : TypeId) (v : Value) (w : World), (Instr.panic (.iface t v)).run Try.prog w = .halt (.panic (.iface t v)) w := fun _ _ _ => rfl
  go_enter Try.func44, Try.ntmps44
  go_wp2
  exact ⟨rfl, ⟨rfl, rfl⟩⟩
def mostV (n k : Int) : Bool := decide (n / 2 < k)
set_option maxHeartbeats 1000000 in
theorem most.calls (b : Nat) (n k : Int) (hn : 1 ≤ n ∧ n ≤ 9) (w : World) (x1 : w.cell? ⟨b, 1, none⟩ = some (.int .i64 n)) :
    Calls Try.prog 69 #[.pointer (some ⟨b, 0, none⟩), .int .i64 k] w fun e w' => e = .returned (.bool (mostV n k)) ∧ w' = w := by
  go_enter Try.func69, Try.ntmps69
  go_wp2
  go_ret
  exact ⟨rfl, rfl⟩
def hereV (status view v : Int) : Bool := status == 0 && view == v
set_option maxHeartbeats 1000000 in
theorem here.calls (b : Nat) (status view : Int) (x : Ms) (v6 : Value) (w : World) (x2 : w.cell? ⟨b, 2, none⟩ = some (.int .i64 view)) (x4 : w.cell? ⟨b, 4, none⟩ = some (.int .i64 status)) (A : Option Addr) (c : Nat) :
    Calls Try.prog 64 #[.pointer (some ⟨b, 0, none⟩), .agg #[.int .i64 x.kind, .int .i64 x.fro, .int .i64 x.dst, .int .i64 x.view, .int .i64 x.last, .int .i64 x.prev, .slice A x.log.length c, .int .i64 x.commit, .int .i64 x.mat]] w fun e w' => e = .returned (.bool (hereV status view x.view)) ∧ Below w.heap.size w w' := by
  have hu := Try.underlying37
  have hlt : b < w.heap.size := World.block_lt_of_cell? _ _ x2
  have hne : ¬ (b = w.heap.size) := by omega
  by_cases h : status = 0
  · have d1 : (status == 0) = true := beq_iff_eq.mpr h
    unfold hereV
    rw [d1, Bool.true_and]
    clear h
    go_enter Try.func64, Try.ntmps64
    go_wp2
    repeat (go_quiet (fail); try go_wp2)
    go_ret
    exact ⟨rfl, by repeat (first | exact below_alloc (Below.refl _ _) _ | apply pw_below_drewN | apply below_drew)⟩
  · have d1 : (status == 0) = false := beq_eq_false_iff_ne.mpr h
    unfold hereV
    rw [d1, Bool.false_and]
    clear h
    go_enter Try.func64, Try.ntmps64
    go_wp2
    repeat (go_quiet (fail); try go_wp2)
    go_ret
    exact ⟨rfl, by repeat (first | exact below_alloc (Below.refl _ _) _ | apply pw_below_drewN | apply below_drew)⟩
def cnt {α : Type} (p : α → Bool) (l : List α) : Int := ((l.filter p).length : Int)
theorem cnt_le {α : Type} (p : α → Bool) (l : List α) : 0 ≤ cnt p l ∧ cnt p l ≤ l.length := ⟨by unfold cnt; omega, by unfold cnt; have := List.length_filter_le p l; omega⟩
theorem cnt_take {α : Type} (p : α → Bool) (l : List α) (i : Nat) (hi : i < l.length) : cnt p (l.take (i + 1)) = cnt p (l.take i) + (if p l[i] = true then 1 else 0) := by
  rw [List.take_add_one, List.getElem?_eq_getElem hi]
  unfold cnt
  rw [List.filter_append, List.length_append]
  simp only [Option.toList_some, List.filter_cons, List.filter_nil]
  split <;> simp
set_option maxHeartbeats 2000000 in
theorem CountI.calls (A0 : Option Addr) (c0 : Nat) (l0 : List Int) (p : Int → Bool) (g : Nat) (lb : Array Value) (eg : ∀ args w, (callFunc g args).run Try.prog w = .ok (.enter g args) w) (w : World) (hr0 : Kd.C (Kd.int .i64) w A0 l0.length l0)
    (hp : ∀ (x : Int), Calls Try.prog g (#[.int .i64 x] ++ lb) w fun e w' => e = .returned (.bool (p x)) ∧ w' = w) :
    Calls Try.prog 70 #[.slice A0 l0.length c0, .func (.func g) #[] lb] w fun e w' => e = .returned (.int .i64 (cnt p l0)) ∧ w' = w := by
  have HR := Aside0.mk hr0
  have hbig : l0.length ≤ 9223372036854775807 := hr0.2.1
  clear hr0
  go_enter Try.func70, Try.ntmps70
  go_wp2
  go_loopg [5, 7, 10] (l0.length + 1) (fun gg s5 _ s10 wr => ∃ kk : Int, s10 = .int .i64 kk ∧ s5 = .int .i64 (cnt p (l0.take kk.toNat)) ∧ wr = w ∧ Aside0 (0 ≤ kk ∧ kk ≤ l0.length ∧ l0.length - kk < gg))
  case atStart => exact ⟨0, rfl, by simp [cnt], rfl, ⟨by omega, by omega, by omega⟩⟩
  case round =>
    obtain ⟨kk, rfl, rfl, rfl, A⟩ := hrel
    by_cases hlt : kk < l0.length
    · have c2b0 : decide (kk < (l0.length : Int)) = true := decide_eq_true hlt
      obtain ⟨ad, e, hx0⟩ := Kd.at_int HR.out kk A.out.1 hlt
      cases e
      have hcall := hp (rd l0 kk)
      have p1 := eq_true A.out.1
      have p2 := eq_true hlt
      have hn : kk.toNat < l0.length := by have := A.out.1; omega
      have hct := cnt_take p l0 kk.toNat hn
      have hle := (cnt_le p (l0.take kk.toNat))
      have hle2 : (l0.take kk.toNat).length < l0.length := by rw [List.length_take]; omega
      have hrd : rd l0 kk = l0[kk.toNat] := by show l0.getD kk.toNat 0 = _; rw [List.getD_eq_getElem?_getD, List.getElem?_eq_getElem hn]; rfl
      rw [← hrd] at hct
      have hk1 : (kk + 1).toNat = kk.toNat + 1 := by have := A.out.1; omega
      generalize hcc : cnt p (l0.take kk.toNat) = cc at *
      have hwc : wrap64 (cc + 1) = cc + 1 := by unfold wrap64; omega
      have HCT := Aside0.mk (And.intro hct hk1)
      clear hle hle2 hct hk1 hn hrd hlt hcc
      cases hq : p (rd l0 kk) with
      | true =>
        rw [hq] at hcall
        have HQ := Aside0.mk hq
        clear hq hp
        go_wp2_with (go_at_fn g; refine hcall.mono ?_; rintro e w' ⟨rfl, rfl⟩)
        have hw : wrap64 (kk + 1) = kk + 1 := by
          have h1 := A.out.1
          have h2 := of_eq_true p2
          unfold wrap64
          omega
        have h2 := of_eq_true p2
        have hA := A.out
        rw [hw]
        obtain ⟨gg, rfl⟩ : ∃ m, gk = m + 1 := ⟨gk - 1, by omega⟩
        go_roundg gg
        case measure => omega
        case rel => exact ⟨kk + 1, rfl, by rw [HCT.out.2, HCT.out.1, HQ.out, if_pos rfl]; first | rfl | rw [hwc], rfl, ⟨by omega, by omega, by omega⟩⟩
      | false =>
        rw [hq] at hcall
        have HQ := Aside0.mk hq
        clear hq hp
        go_wp2_with (go_at_fn g; refine hcall.mono ?_; rintro e w' ⟨rfl, rfl⟩)
        have hw : wrap64 (kk + 1) = kk + 1 := by
          have h1 := A.out.1
          have h2 := of_eq_true p2
          unfold wrap64
          omega
        have h2 := of_eq_true p2
        have hA := A.out
        rw [hw]
        obtain ⟨gg, rfl⟩ : ∃ m, gk = m + 1 := ⟨gk - 1, by omega⟩
        go_roundg gg
        case measure => omega
        case rel => exact ⟨kk + 1, rfl, by rw [HCT.out.2, HCT.out.1, HQ.out]; simp, rfl, ⟨by omega, by omega, by omega⟩⟩
    · have c2b0 : decide (kk < (l0.length : Int)) = false := decide_eq_false hlt
      have hfull : l0.take kk.toNat = l0 := List.take_of_length_le (by have := A.out.1; omega)
      rw [hfull]
      go_wp2
      go_ret
      exact ⟨rfl, rfl⟩
/-! the machine's block -/
def geK (k : Int) (n : Int) : Bool := decide (k ≤ n)
set_option maxHeartbeats 1000000 in
theorem GeK.calls (x k : Int) (g : Nat) (w : World) (hk : w.heap[g]? = some (.cells #[.int .i64 k] 3 (0, 0))) : Calls Try.prog 71 #[.int .i64 x, .pointer (some ⟨g, 0, none⟩)] w fun e w' => e = .returned (.bool (geK k x)) ∧ w' = w := by
  have x0 : w.cell? ⟨g, 0, none⟩ = some (.int .i64 k) := (blk_cell hk 0).trans rfl
  clear hk
  go_enter Try.func71, Try.ntmps71
  go_wp2
  go_ret
  exact ⟨rfl, rfl⟩
/-- How far a majority is: one step after the other. -/
def agreeF (n : Int) (mat : List Int) (L : Int) : Nat → Int → Int
  | 0, c => c
  | f + 1, c => if c + 1 ≤ L ∧ mostV n (cnt (geK (c + 1)) mat) = true then agreeF n mat L f (c + 1) else c
theorem agreeF_ge (n : Int) (mat : List Int) (L : Int) : ∀ (f : Nat) (c : Int), c ≤ agreeF n mat L f c ∧ (c ≤ L → agreeF n mat L f c ≤ L)
  | 0, c => ⟨Int.le_refl _, fun h => h⟩
  | f + 1, c => by
    unfold agreeF
    split
    · rename_i h
      have := agreeF_ge n mat L f (c + 1)
      exact ⟨by omega, fun _ => this.2 h.1⟩
    · exact ⟨Int.le_refl _, fun h => h⟩
def agreeV (n : Int) (mat : List Int) (L : Nat) (c : Int) : Int := agreeF n mat L (L + 1) c
set_option maxHeartbeats 8000000 in
set_option maxRecDepth 100000 in
theorem agree.calls (b t : Nat) (cs : Array Value) (n c : Int) (AL : Option Addr) (cL : Nat) (L : List (List Int)) (AM : Option Addr) (cM : Nat) (mat : List Int) (w : World) (hb : w.heap[b]? = some (.cells cs t (0, 0))) (e1 : cs[1]? = some (.int .i64 n)) (e5 : cs[5]? = some (.slice AL L.length cL)) (e6 : cs[6]? = some (.int .i64 c)) (e7 : cs[7]? = some (.slice AM mat.length cM)) (hn : 1 ≤ n ∧ n ≤ 9) (hc : 0 ≤ c ∧ c ≤ L.length) (hL : L.length ≤ 1000000)
    (hM : ∀ W, Keeps w W (fun k => k = b) → Kd.C (Kd.int .i64) W AM mat.length mat) :
    Calls Try.prog 55 #[.pointer (some ⟨b, 0, none⟩)] w fun e w' => e = .returned (.tuple #[]) ∧ w'.heap[b]? = some (.cells (cs.setIfInBounds 6 (.int .i64 (agreeV n mat L.length c))) t (0, 0)) ∧ Keeps w w' (fun k => k = b) := by
  have hu3 := Try.underlying61
  have hmf : ∀ (fn : Fn) (first cap : Array Value) (w : World), (Instr.makeFunc fn first cap).run Try.prog w = .ok (.func fn first cap) w := fun _ _ _ _ => rfl
  have x6 : w.cell? ⟨b, 6, none⟩ = some (.int .i64 c) := (blk_cell hb 6).trans e6
  have hw1 : wrap64 (c + 1) = c + 1 := by unfold wrap64; omega
  have hlt : b < w.heap.size := blk_lt hb
  have HQ := Aside0.mk (And.intro hb (And.intro e1 (And.intro e5 (And.intro e6 (And.intro e7 (And.intro hn (And.intro hc (And.intro hL hlt))))))))
  have HM := Aside0.mk hM
  clear hb e1 e5 e6 e7 hn hc hL hM
  go_enter Try.func55, Try.ntmps55
  go_wp2
  have hst : (w.alloc (.cells #[.int .i64 (c + 1)] 3)).heap[w.heap.size]? = some (.cells #[.int .i64 (c + 1)] 3 (0, 0)) := heap_alloc_new w _
  have HST := Aside0.mk (And.intro hst (blk_alloc HQ.out.1 (.cells #[.int .i64 (c + 1)] 3)))
  have HKS := Aside0.mk (Keeps.alloc (Keeps.refl w (fun k => k = b)) (.cells #[.int .i64 (c + 1)] 3))
  clear hst x6 hw1
  go_loopg [2] (L.length + 1) (fun gg s2 wr => ∃ (d : Int) (g : Nat), s2 = .pointer (some ⟨g, 0, none⟩) ∧ Aside0 (c ≤ d ∧ d ≤ L.length ∧ L.length - d < gg ∧ agreeF n mat L.length gg d = agreeV n mat L.length c ∧ wr.heap[b]? = some (.cells (cs.setIfInBounds 6 (.int .i64 d)) t (0, 0)) ∧ wr.heap[g]? = some (.cells #[.int .i64 (d + 1)] 3 (0, 0)) ∧ w.heap.size ≤ g ∧ Keeps w wr (fun k => k = b)))
  case atStart =>
    refine ⟨c, w.heap.size, rfl, ⟨Int.le_refl _, HQ.out.2.2.2.2.2.2.1.2, by have := HQ.out.2.2.2.2.2.2.1.1; omega, rfl, ?_, HST.out.1, Nat.le_refl _, HKS.out⟩⟩
    have h6 : cs.setIfInBounds 6 (.int .i64 c) = cs := by
      apply Array.ext_getElem?
      intro j
      by_cases hj : j = 6
      · subst hj
        rw [Array.getElem?_setIfInBounds_self, if_pos (Array.getElem?_eq_some_iff.1 HQ.out.2.2.2.1).1]
        exact HQ.out.2.2.2.1.symm
      · rw [Array.getElem?_setIfInBounds_ne (by omega)]
    rw [h6]
    exact HST.out.2
  case round =>
    obtain ⟨d, g, rfl, Z⟩ := hrel
    clear HST HKS
    obtain ⟨gg, rfl⟩ : ∃ m, gk = m + 1 := ⟨gk - 1, by have := Z.out; omega⟩
    obtain ⟨z1, z2, z3, z4, z5, z6, z7, z8⟩ := Z.out
    have hne : ∀ i : Nat, i ≠ 6 → (cs.setIfInBounds 6 (.int .i64 d))[i]? = cs[i]? := fun i hi => Array.getElem?_setIfInBounds_ne (by omega)
    have y1 : wr.cell? ⟨b, 1, none⟩ = some (.int .i64 n) := (blk_cell z5 1).trans ((hne 1 (by decide)).trans HQ.out.2.1)
    have y5 : wr.cell? ⟨b, 5, none⟩ = some (.slice AL L.length cL) := (blk_cell z5 5).trans ((hne 5 (by decide)).trans HQ.out.2.2.1)
    have y7 : wr.cell? ⟨b, 7, none⟩ = some (.slice AM mat.length cM) := (blk_cell z5 7).trans ((hne 7 (by decide)).trans HQ.out.2.2.2.2.1)
    have y6 : wr.cell? ⟨b, 6, none⟩ = some (.int .i64 d) := (blk_cell z5 6).trans (by rw [Array.getElem?_setIfInBounds_self, if_pos (Array.getElem?_eq_some_iff.1 HQ.out.2.2.2.1).1])
    have f6 := blk_frozen z5 6
    have yg : wr.cell? ⟨g, 0, none⟩ = some (.int .i64 (d + 1)) := (blk_cell z6 0).trans rfl
    have hnm := HQ.out.2.2.2.2.2.1
    have hgb : ¬ (b = g) := fun e => by have := HQ.out.2.2.2.2.2.2.2.2; omega
    have hgb' : ¬ (g = b) := fun e => by have := HQ.out.2.2.2.2.2.2.2.2; omega
    have hw2 : wrap64 (d + 1 + 1) = d + 1 + 1 := by have := HQ.out.2.2.2.2.2.2.2.1; have := HQ.out.2.2.2.2.2.2.1.1; unfold wrap64; omega
    have HC := Aside0.mk (HM.out wr z8)
    have KG := Aside0.mk z6
    by_cases h1 : d + 1 ≤ (L.length : Int)
    · have d1 : decide (d + 1 ≤ (L.length : Int)) = true := decide_eq_true h1
      cases h2 : mostV n (cnt (geK (d + 1)) mat) with
      | true =>
        have e4 : agreeF n mat L.length gg (d + 1) = agreeV n mat L.length c := by rw [← z4]; show _ = agreeF n mat L.length (gg + 1) d; conv => rhs; unfold agreeF; rw [if_pos ⟨h1, h2⟩]
        have ZZ := Aside0.mk (And.intro z1 (And.intro h1 (And.intro z3 (And.intro e4 (And.intro z5 (And.intro z6 (And.intro z7 z8)))))))
        clear z1 z2 z3 z4 z5 z6 z7 z8 h1 Z e4 hne
        go_upto_region 1 with fail
        go_quiet (first | (go_at_call 70; refine (CountI.calls AM cM mat (geK (d + 1)) 71 #[.pointer (some ⟨g, 0, none⟩)] (enters_of Try.func71 (by kernel_rfl) rfl) _ (by repeat (first | exact HC.out | (with_reducible refine Kd.C_drewN ?_ _) | (with_reducible refine Kd.C_drew ?_))) (fun x => GeK.calls x (d + 1) g _ (by repeat (first | exact KG.out | (with_reducible refine blk_drewN ?_ _) | (with_reducible refine blk_drew ?_))))).mono ?_; rintro e w' ⟨rfl, rfl⟩; (try first | exact ⟨rfl, _, rfl⟩)) | (go_at_call 69; refine (most.calls b n _ hnm _ (by first | exact y1 | (simp; exact y1))).mono ?_; rw [h2]; rintro e w' ⟨rfl, rfl⟩; (try first | exact ⟨rfl, _, rfl⟩)))
        go_wp2
        obtain ⟨z1, z2, z3, z4, z5, z6, z7, z8⟩ := ZZ.out
        go_roundg gg
        case measure => omega
        case rel =>
          refine ⟨d + 1, wr.heap.size, rfl, ⟨by omega, z2, by omega, z4, ?_, ?_, Nat.le_trans (Nat.le_refl _) z8.size, ?_⟩⟩
          · (with_reducible repeat (first | refine blk_drewN ?_ _ | refine blk_drew ?_ | refine blk_alloc ?_ _))
            have h := blk_set z5 6 (.int .i64 (d + 1))
            rw [Array.setIfInBounds_setIfInBounds] at h
            exact h
          · (with_reducible repeat (first | refine blk_drewN ?_ _ | refine blk_drew ?_))
            have h := heap_alloc_new ((wr.drewN nq).setCell ⟨b, 6, none⟩ (.int .i64 (d + 1))) (.cells #[.int .i64 (d + 1 + 1)] 3)
            simpa using h
          · (with_reducible repeat (first | apply Keeps.drewN | apply Keeps.drew))
            exact Keeps.alloc (Keeps.set_ (Keeps.drewN z8 _) 6 _) _
      | false =>
        have e4 : d = agreeV n mat L.length c := by rw [← z4]; show _ = agreeF n mat L.length (gg + 1) d; unfold agreeF; rw [if_neg (fun h => by rw [h2] at h; exact absurd h.2 (by simp))]
        have ZZ := Aside0.mk (And.intro z5 z8)
        have E4 := Aside0.mk e4
        clear z1 z2 z3 z4 z5 z6 z7 z8 Z hne e4
        go_upto_region 1 with fail
        go_quiet (first | (go_at_call 70; refine (CountI.calls AM cM mat (geK (d + 1)) 71 #[.pointer (some ⟨g, 0, none⟩)] (enters_of Try.func71 (by kernel_rfl) rfl) _ (by repeat (first | exact HC.out | (with_reducible refine Kd.C_drewN ?_ _) | (with_reducible refine Kd.C_drew ?_))) (fun x => GeK.calls x (d + 1) g _ (by repeat (first | exact KG.out | (with_reducible refine blk_drewN ?_ _) | (with_reducible refine blk_drew ?_))))).mono ?_; rintro e w' ⟨rfl, rfl⟩; (try first | exact ⟨rfl, _, rfl⟩)) | (go_at_call 69; refine (most.calls b n _ hnm _ (by first | exact y1 | (simp; exact y1))).mono ?_; rw [h2]; rintro e w' ⟨rfl, rfl⟩; (try first | exact ⟨rfl, _, rfl⟩)))
        go_wp2
        go_end0
        obtain ⟨z5, z8⟩ := ZZ.out
        rw [← E4.out]
        refine ⟨rfl, ?_, ?_⟩
        · (with_reducible repeat (first | refine blk_drewN ?_ _ | refine blk_drew ?_ | refine blk_alloc ?_ _))
          exact z5
        · (with_reducible repeat (first | apply Keeps.drewN | apply Keeps.drew))
          exact z8
    · have d1 : decide (d + 1 ≤ (L.length : Int)) = false := decide_eq_false h1
      have e4 : d = agreeV n mat L.length c := by rw [← z4]; show _ = agreeF n mat L.length (gg + 1) d; unfold agreeF; rw [if_neg (fun h => h1 h.1)]
      have ZZ := Aside0.mk (And.intro z5 z8)
      have E4 := Aside0.mk e4
      clear z1 z2 z3 z4 z5 z6 z7 z8 Z hne e4 h1
      go_upto_region 1 with fail
      go_quiet (fail)
      all_goals
        go_wp2
        go_end0
        obtain ⟨z5, z8⟩ := ZZ.out
        rw [← E4.out]
        refine ⟨rfl, ?_, ?_⟩
        · (with_reducible repeat (first | refine blk_drewN ?_ _ | refine blk_drew ?_ | refine blk_alloc ?_ _))
          exact z5
        · (with_reducible repeat (first | apply Keeps.drewN | apply Keeps.drew))
          exact z8
end Go.Proofs.Ytojjnifbnppliaa.T
