/- Step, by its handler's contract. -/
import Derived.Test.YtojjnifbnppliaaVl
import Derived.Test.YtojjnifbnppliaaVc
import Derived.Test.YtojjnifbnppliaaV1
namespace Go.Proofs.Ytojjnifbnppliaa.T
open Go.RowKit Go.Proofs.YtojjnifbnppliaaW.PrintWords Go.Proofs.YtojjnifbnppliaaW.PrintLast Go.Proofs.YtojjnifbnppliaaW.PrintMore
attribute [local go_sem] max2_int min2_int max_two min_two max_three min_three max_four min_four
set_option linter.unusedVariables false
set_option linter.unusedSimpArgs false
/-- What Step gives: the state and the messages, or the error. -/
def StepRes (w0 : World) (r : Option Int) (s : St) (out : List Ms) (e : Ending) (w : World) : Prop := Below w0.heap.size w0 w ∧ match r with
  | some x => e = .returned (.tuple #[.agg #[.int .i64 0, .int .i64 0, .int .i64 0, .int .i64 0, .int .i64 0, .slice none 0 0, .int .i64 0, .slice none 0 0, .slice none 0 0, .bool false, .slice none 0 0, .int .i64 0, .int .i64 0, .slice none 0 0], .slice none 0 0, .int .i64 x])
  | none => ∃ (AL : Option Addr) (cL : Nat) (AM : Option Addr) (cM : Nat) (AK : Option Addr) (cK : Nat) (AB : Option Addr) (cB : Nat) (AD : Option Addr) (cD : Nat) (AO : Option Addr) (cO : Nat), e = .returned (.tuple #[.agg #[.int .i64 s.id, .int .i64 s.n, .int .i64 s.view, .int .i64 s.last, .int .i64 s.status, .slice AL s.log.length cL, .int .i64 s.commit, .slice AM s.mat.length cM, .slice AK s.marks.length cK, .bool s.sent, .slice AB s.bals.length cB, .int .i64 s.elapsed, .int .i64 s.timeout, .slice AD s.draws.length cD], .slice AO out.length cO, .int .i64 0]) ∧ ∀ W, Keeps w W (fun k => k < w0.heap.size) → Rd W s AL cL AM cM AK cK AB cB AD cD ∧ kMs.C W AO out.length out
/-- The method expressions, by kind. -/
def mexs : Value := .agg #[.nilFunc, .func (.func 22) #[] #[], .func (.func 23) #[] #[], .func (.func 24) #[] #[]]
theorem five_blocks (w : World) (a b c d e : Obj) : ((((((w.alloc a).alloc b).alloc c).alloc d).alloc e).heap[w.heap.size]? = some a) ∧ ((((((w.alloc a).alloc b).alloc c).alloc d).alloc e).heap[w.heap.size + 1]? = some b) ∧ ((((((w.alloc a).alloc b).alloc c).alloc d).alloc e).heap[w.heap.size + 1 + 1]? = some c) ∧ ((((((w.alloc a).alloc b).alloc c).alloc d).alloc e).heap[w.heap.size + 1 + 1 + 1]? = some d) ∧ ((((((w.alloc a).alloc b).alloc c).alloc d).alloc e).heap[w.heap.size + 1 + 1 + 1 + 1]? = some e) ∧ (((((w.alloc a).alloc b).alloc c).alloc d).alloc e).heap.size = w.heap.size + 1 + 1 + 1 + 1 + 1 ∧ Below w.heap.size w (((((w.alloc a).alloc b).alloc c).alloc d).alloc e) := by
  have h1 := heap_alloc_new w a
  have h2 : ((w.alloc a).alloc b).heap[w.heap.size + 1]? = some b := by have := heap_alloc_new (w.alloc a) b; simpa using this
  have h3 : (((w.alloc a).alloc b).alloc c).heap[w.heap.size + 1 + 1]? = some c := by have := heap_alloc_new ((w.alloc a).alloc b) c; simpa using this
  have h4 : ((((w.alloc a).alloc b).alloc c).alloc d).heap[w.heap.size + 1 + 1 + 1]? = some d := by have := heap_alloc_new (((w.alloc a).alloc b).alloc c) d; simpa using this
  have h5 : (((((w.alloc a).alloc b).alloc c).alloc d).alloc e).heap[w.heap.size + 1 + 1 + 1 + 1]? = some e := by have := heap_alloc_new ((((w.alloc a).alloc b).alloc c).alloc d) e; simpa using this
  exact ⟨blk_alloc (blk_alloc (blk_alloc (blk_alloc h1 b) c) d) e, blk_alloc (blk_alloc (blk_alloc h2 c) d) e, blk_alloc (blk_alloc h3 d) e, blk_alloc h4 e, h5, by simp, below_alloc (below_alloc (below_alloc (below_alloc (below_alloc (Below.refl _ _) a) b) c) d) e⟩
structure Fits (s : St) : Prop where
  log : s.log.length * 24 ≤ 140737488355328
  mat : s.mat.length * 8 < 140737488355328
  marks : s.marks.length < 140737488355328
  draws : s.draws.length * 8 < 140737488355328
  bals : s.bals.length * 48 ≤ 140737488355328
  logs : ∀ x ∈ s.log, x.length < 140737488355328
  ballogs : ∀ b ∈ s.bals, b.f2.length * 24 ≤ 140737488355328 ∧ ∀ x ∈ b.f2, x.length < 140737488355328
theorem step_results {tmps : Array Value} {w : World} (p q r : Nat) (cs : Array Value) (v : Value) (y : Int) (h4 : tmps.getD 4 undef = .pointer (some ⟨p, 0, none⟩)) (h5 : tmps.getD 5 undef = .pointer (some ⟨q, 0, none⟩)) (h6 : tmps.getD 6 undef = .pointer (some ⟨r, 0, none⟩)) (k4 : w.heap[p]? = some (.cells cs 29 (0, 0))) (hs : cs.size = 14) (k5 : w.heap[q]? = some (.cells #[v] 33 (0, 0))) (k6 : w.heap[r]? = some (.cells #[.int .i64 y] 30 (0, 0))) :
    (results Try.f8 tmps).run Try.prog w = .ok (.tuple #[.agg cs, v, .int .i64 y]) w := by
  have x5 : w.cell? ⟨q, 0, none⟩ = some v := (blk_cell k5 0).trans rfl
  have x6 : w.cell? ⟨r, 0, none⟩ = some (.int .i64 y) := (blk_cell k6 0).trans rfl
  have hi : (Try.prog.info? 29).map (·.size) = some cs.size := by rw [hs]; kernel_rfl
  have l4 := run_loadVar_row (P := Try.prog) w p 29 29 cs (0, 0) _ k4 Try.underlying29 rfl hi
  have l5 : (loadVar 33 ⟨q, 0, none⟩).run Try.prog w = .ok v w := by simp [go_sem, x5]
  have l6 : (loadVar 30 ⟨r, 0, none⟩).run Try.prog w = .ok (.int .i64 y) w := by simp [go_sem, x6]
  unfold results
  rw [show Try.f8.results = [ResultVar.cell 4 29, .cell 5 33, .cell 6 30].toArray from rfl, List.mapM_toArray]
  rw [Array.getD_eq_getD_getElem?] at h4 h5 h6
  simp [List.mapM_cons, h4, h5, h6, asAddr, l4, l5, l6]
/-- What holds of the world while Step's results are laid. -/
def G9 (W : World) (b p q r : Nat) (CB CS : Array Value) (vO : Value) (l : Nat → Bool) (w : World) : Prop :=
  w.heap[b]? = some (.cells CB 61 (0, 0)) ∧ Keeps W w (fun k => k = p ∨ k = q ∨ k = r) ∧ w.heap[p]? = some (.cells (if l 8 = true then CS else #[.int .i64 0, .int .i64 0, .int .i64 0, .int .i64 0, .int .i64 0, .slice none 0 0, .int .i64 0, .slice none 0 0, .slice none 0 0, .bool false, .slice none 0 0, .int .i64 0, .int .i64 0, .slice none 0 0]) 29 (0, 0)) ∧ w.heap[q]? = some (.cells #[if l 9 = true then vO else .slice none 0 0] 33 (0, 0)) ∧ w.heap[r]? = some (.cells #[.int .i64 0] 30 (0, 0))
section
variable {W w : World} {b p q r : Nat} {CB CS : Array Value} {vO : Value} {l : Nat → Bool}
theorem G9.upd {i : Nat} (h8 : 8 ≠ i) (h9 : 9 ≠ i) (h : G9 W b p q r CB CS vO l w) : G9 W b p q r CB CS vO (fun j => l j || j == i) w := by
  unfold G9 at h ⊢
  simp only [or_ne h8, or_ne h9]
  exact h
theorem G9.s8 (h : G9 W b p q r CB CS vO l w) (n1 : b ≠ p) (n2 : q ≠ p) (n3 : r ≠ p) : G9 W b p q r CB CS vO (fun j => l j || j == 8) (w.setRow p CS) := by
  obtain ⟨h1, h2, h3, h4, h5⟩ := h
  unfold G9
  simp only [or_ne (show (9 : Nat) ≠ 8 by decide), or_at, if_true]
  exact ⟨(setRow_other w p b _ n1).trans h1, h2.trans ⟨rfl, rfl, rfl, by simp, fun k _ hk => setRow_other w p k _ (fun e => hk (.inl e))⟩, setRow_heap w p _ CS 29 (0, 0) h3, (setRow_other w p q _ n2).trans h4, (setRow_other w p r _ n3).trans h5⟩
theorem G9.s9 (h : G9 W b p q r CB CS vO l w) (n1 : b ≠ q) (n2 : p ≠ q) (n3 : r ≠ q) : G9 W b p q r CB CS vO (fun j => l j || j == 9) (w.setCell ⟨q, 0, none⟩ vO) := by
  obtain ⟨h1, h2, h3, h4, h5⟩ := h
  unfold G9
  simp only [or_ne (show (8 : Nat) ≠ 9 by decide), or_at, if_true]
  exact ⟨blk_far h1 (p := ⟨q, 0, none⟩) n1 _, h2.setCell (p := ⟨q, 0, none⟩) (.inl (.inr (.inl rfl))) _, blk_far h3 (p := ⟨q, 0, none⟩) n2 _, blk_put h4 0 vO rfl, blk_far h5 (p := ⟨q, 0, none⟩) n3 _⟩
theorem G9.s10 (h : G9 W b p q r CB CS vO l w) (n1 : b ≠ r) (n2 : p ≠ r) (n3 : q ≠ r) : G9 W b p q r CB CS vO (fun j => l j || j == 10) (w.setCell ⟨r, 0, none⟩ (.int .i64 0)) := by
  obtain ⟨h1, h2, h3, h4, h5⟩ := h
  unfold G9
  simp only [or_ne (show (8 : Nat) ≠ 10 by decide), or_ne (show (9 : Nat) ≠ 10 by decide)]
  exact ⟨blk_far h1 (p := ⟨r, 0, none⟩) n1 _, h2.setCell (p := ⟨r, 0, none⟩) (.inl (.inr (.inr rfl))) _, blk_far h3 (p := ⟨r, 0, none⟩) n2 _, blk_far h4 (p := ⟨r, 0, none⟩) n3 _, blk_put h5 0 (.int .i64 0) rfl⟩
end
theorem R_put {α : Type} {d : Kd α} {e B : Nat} {w2 w3 : World} {ok : Nat → Prop} {v : Value} {xs : List α} (r : d.R e w2 B ok v xs) (hb : Below w2.heap.size w2 w3) : d.R e w3 0 (fun k => ok k ∧ B ≤ k ∧ k < w2.heap.size) v xs := Kd.R_mono (Kd.R_lower (Kd.R_below (Kd.R_bound r) hb) (Nat.zero_le _)) (fun k hk => ⟨hk.1, hk.2.1, hk.2.2.1⟩)
theorem Mac_clone {w2 : World} {B N : Nat} {s : St} {AL : Option Addr} {cL : Nat} {AM : Option Addr} {cM : Nat} {AK : Option Addr} {cK : Nat} {AB : Option Addr} {cB : Nat} {AD : Option Addr} {cD : Nat} {gd0 : Nat} (hB : gd0 < B) (hB2 : B ≤ w2.heap.size) (r1 : (Kd.slice 5 (Kd.int .u8)).R 22 w2 B (fun _ => True) (.slice AL s.log.length cL) s.log) (r2 : (Kd.int .i64).R 3 w2 B (fun k => k < N) (.slice AM s.mat.length cM) s.mat) (r3 : Kd.bool.R 4 w2 B (fun _ => True) (.slice AK s.marks.length cK) s.marks) (r4 : k69.R 69 w2 B (fun _ => True) (.slice AB s.bals.length cB) s.bals) (r5 : (Kd.int .i64).R 3 w2 B (fun k => N ≤ k) (.slice AD s.draws.length cD) s.draws) :
    ∃ gd, (gd ≠ w2.heap.size ∧ (gd = gd0 ∨ B ≤ gd)) ∧ Mac (w2.alloc (.cells #[.int .i64 s.id, .int .i64 s.n, .int .i64 s.view, .int .i64 s.last, .int .i64 s.status, .slice AL s.log.length cL, .int .i64 s.commit, .slice AM s.mat.length cM, .slice AK s.marks.length cK, .bool s.sent, .slice AB s.bals.length cB, .int .i64 s.elapsed, .int .i64 s.timeout, .slice AD s.draws.length cD, .slice none 0 0] 61)) w2.heap.size gd (fun k => B ≤ k ∧ k ≠ w2.heap.size ∧ k ≠ gd) s [] := by
  have hb : (w2.alloc (.cells #[.int .i64 s.id, .int .i64 s.n, .int .i64 s.view, .int .i64 s.last, .int .i64 s.status, .slice AL s.log.length cL, .int .i64 s.commit, .slice AM s.mat.length cM, .slice AK s.marks.length cK, .bool s.sent, .slice AB s.bals.length cB, .int .i64 s.elapsed, .int .i64 s.timeout, .slice AD s.draws.length cD, .slice none 0 0] 61)).heap[w2.heap.size]? = some (.cells #[.int .i64 s.id, .int .i64 s.n, .int .i64 s.view, .int .i64 s.last, .int .i64 s.status, .slice AL s.log.length cL, .int .i64 s.commit, .slice AM s.mat.length cM, .slice AK s.marks.length cK, .bool s.sent, .slice AB s.bals.length cB, .int .i64 s.elapsed, .int .i64 s.timeout, .slice AD s.draws.length cD, .slice none 0 0] 61 (0, 0)) := heap_alloc_new w2 _
  have hbel : Below w2.heap.size w2 (w2.alloc (.cells #[.int .i64 s.id, .int .i64 s.n, .int .i64 s.view, .int .i64 s.last, .int .i64 s.status, .slice AL s.log.length cL, .int .i64 s.commit, .slice AM s.mat.length cM, .slice AK s.marks.length cK, .bool s.sent, .slice AB s.bals.length cB, .int .i64 s.elapsed, .int .i64 s.timeout, .slice AD s.draws.length cD, .slice none 0 0] 61)) := below_alloc (Below.refl _ _) _
  have hcD : s.draws.length ≤ cD := (Kd.R_reads' r5).2.1
  by_cases hd : s.draws = []
  · refine ⟨gd0, ⟨by omega, .inl rfl⟩, by simp; omega, AL, cL, AM, cM, AK, cK, AB, cB, AD, cD, none, 0, hb, ?_, ?_, ?_, ?_, Kd.R_nil _ _ _ _ _, hcD, ?_⟩
    · exact Kd.R_mono (R_put r1 hbel) (fun k hk => ⟨hk.2.1, by have := hk.2.2; omega, by have := hk.2.1; omega⟩)
    · exact Kd.R_mono (R_put r2 hbel) (fun k hk => ⟨hk.2.1, by have := hk.2.2; omega, by have := hk.2.1; omega⟩)
    · exact Kd.R_mono (R_put r3 hbel) (fun k hk => ⟨hk.2.1, by have := hk.2.2; omega, by have := hk.2.1; omega⟩)
    · exact Kd.R_mono (R_put r4 hbel) (fun k hk => ⟨hk.2.1, by have := hk.2.2; omega, by have := hk.2.1; omega⟩)
    · rw [hd]
      exact fun W' _ => ⟨rfl, by simp, fun h => absurd h (by simp)⟩
  · obtain ⟨g, cap, hv, hBg, hgl, cells, hcg⟩ := Kd.R_form r5 (List.length_pos_iff.2 hd)
    have hN : N ≤ g := r5.1 g (by rw [hv]; rfl)
    refine ⟨g, ⟨by omega, .inr hBg⟩, by simp; omega, AL, cL, AM, cM, AK, cK, AB, cB, AD, cD, none, 0, hb, ?_, ?_, ?_, ?_, Kd.R_nil _ _ _ _ _, hcD, ?_⟩
    · exact Kd.R_mono (R_put (Kd.R_types r1 hcg (by decide)) hbel) (fun k hk => ⟨hk.2.1, by have := hk.2.2; omega, hk.1.2⟩)
    · exact Kd.R_mono (R_put r2 hbel) (fun k hk => ⟨hk.2.1, by have := hk.2.2; omega, by have := hk.1; omega⟩)
    · exact Kd.R_mono (R_put (Kd.R_types r3 hcg (by decide)) hbel) (fun k hk => ⟨hk.2.1, by have := hk.2.2; omega, hk.1.2⟩)
    · exact Kd.R_mono (R_put (Kd.R_types r4 hcg (by decide)) hbel) (fun k hk => ⟨hk.2.1, by have := hk.2.2; omega, hk.1.2⟩)
    · obtain ⟨A, c, hv2, _, hF⟩ := Kd.R_V (base' := 0) (Kd.R_tight rfl r5)
      have hA : AD = A := by injection hv2
      subst hA
      refine Kd.F_below (Kd.F_mono hF (fun k hk => ?_)) hbel
      rw [hv] at hk
      have : some k = some g := hk
      injection this
set_option maxHeartbeats 8000000 in
set_option maxRecDepth 100000 in
theorem Step_go.calls (s s' : St) (out : List Ms) (AL : Option Addr) (cL : Nat) (AM : Option Addr) (cM : Nat) (AK : Option Addr) (cK : Nat) (AB : Option Addr) (cB : Nat) (AD : Option Addr) (cD : Nat) (k : Int) (x : Ms) (AX : Option Addr) (cX : Nat) (A : Option Addr) (c : Nat) (data : List Int) (hf : Nat) (r : Option Int) (w : World) (hr : Rd w s AL cL AM cM AK cK AB cB AD cD) (hz : Fits s) (hc : checkV s = true) (hk : wi k 1 3 = true) (eg : ∀ args w, (callFunc hf args).run Try.prog w = .ok (.enter hf args) w)
    (ix : ∀ w, (Instr.index 64 mexs (.int .i64 k)).run Try.prog w = .ok (.func (.func hf) #[] #[]) w)
    (H : ∀ w1 b gd P, Below w.heap.size w w1 → Mac w1 b gd P s [] → (∀ k, w1.heap.size ≤ k → P k) → (¬ P gd ∧ gd ≠ b) → (∀ k, P k ∨ k = b → w.heap.size ≤ k) → Calls Try.prog hf #[.pointer (some ⟨b, 0, none⟩), .agg #[.int .i64 k, .int .i64 x.kind, .int .i64 x.fro, .int .i64 x.dst, .int .i64 x.view, .int .i64 x.last, .int .i64 x.prev, .slice AX x.log.length cX, .int .i64 x.commit, .int .i64 x.mat, .slice A data.length c]] w1 fun e w' => Keeps w1 w' (fun k => k = b ∨ P k) ∧ Ends r e (Mac w' b gd P s' out)) :
    Calls Try.prog 8 #[.agg #[.int .i64 s.id, .int .i64 s.n, .int .i64 s.view, .int .i64 s.last, .int .i64 s.status, .slice AL s.log.length cL, .int .i64 s.commit, .slice AM s.mat.length cM, .slice AK s.marks.length cK, .bool s.sent, .slice AB s.bals.length cB, .int .i64 s.elapsed, .int .i64 s.timeout, .slice AD s.draws.length cD], .agg #[.int .i64 k, .int .i64 x.kind, .int .i64 x.fro, .int .i64 x.dst, .int .i64 x.view, .int .i64 x.last, .int .i64 x.prev, .slice AX x.log.length cX, .int .i64 x.commit, .int .i64 x.mat, .slice A data.length c]] w (StepRes w r s' out) := by
  have hu29 := Try.underlying29
  have hu33 := Try.underlying33
  have hu30 := Try.underlying30
  have hu39 := Try.underlying39
  have hu61 := Try.underlying61
  have hu64 := Try.underlying64
  have hmf : ∀ (fn : Fn) (first cap : Array Value) (w : World), (Instr.makeFunc fn first cap).run Try.prog w = .ok (.func fn first cap) w := fun _ _ _ _ => rfl
  unfold mexs at ix
  have HH := Aside0.mk H
  have HZ := Aside0.mk hz
  have HR := Aside0.mk hr
  have HC := Aside0.mk hc
  obtain ⟨k2, k3, k4, k5, k6, hsz, hb0⟩ := five_blocks w (.cells #[.int .i64 s.id, .int .i64 s.n, .int .i64 s.view, .int .i64 s.last, .int .i64 s.status, .slice AL s.log.length cL, .int .i64 s.commit, .slice AM s.mat.length cM, .slice AK s.marks.length cK, .bool s.sent, .slice AB s.bals.length cB, .int .i64 s.elapsed, .int .i64 s.timeout, .slice AD s.draws.length cD] 29) (.cells #[.int .i64 k, .int .i64 x.kind, .int .i64 x.fro, .int .i64 x.dst, .int .i64 x.view, .int .i64 x.last, .int .i64 x.prev, .slice AX x.log.length cX, .int .i64 x.commit, .int .i64 x.mat, .slice A data.length c] 39) (.cells #[.int .i64 0, .int .i64 0, .int .i64 0, .int .i64 0, .int .i64 0, .slice none 0 0, .int .i64 0, .slice none 0 0, .slice none 0 0, .bool false, .slice none 0 0, .int .i64 0, .int .i64 0, .slice none 0 0] 29) (.cells #[.slice none 0 0] 33) (.cells #[.int .i64 0] 30)
  have HK := Aside0.mk (And.intro k2 (And.intro k3 (And.intro k4 (And.intro k5 k6))))
  have HB0 := Aside0.mk hb0
  have HSZ := Aside0.mk hsz
  clear k2 k3 k4 k5 k6 hsz
  clear H hz hr hc hb0
  go_enter_defers Try.func8, Try.ntmps8
  go_upto_region 2 with (go_at_call 19; refine (Check.calls s AL cL AM cM AK cK AB cB AD cD _ (Rd.below HR.out HB0.out)).mono ?_; rw [if_pos HC.out]; rintro e w1 ⟨rfl, hb1⟩; have HB1 := Aside0.mk (HB0.out.trans (hb1.mono HB0.out.size)); have HS1 := Aside0.mk (Nat.le_trans (Nat.le_of_eq HSZ.out.symm) hb1.size); have k2 := blk_below HK.out.1 hb1; have k3 := blk_below HK.out.2.1 hb1; have k4 := blk_below HK.out.2.2.1 hb1; have k5 := blk_below HK.out.2.2.2.1 hb1; have k6 := blk_below HK.out.2.2.2.2 hb1; have q6 : w1.cell? ⟨w.heap.size + 1 + 1 + 1 + 1, 0, none⟩ = some (.int .i64 0) := (blk_cell k6 0).trans rfl; have g6 := blk_frozen k6 0; have KK := Aside0.mk (And.intro k2 (And.intro k3 (And.intro k4 (And.intro k5 k6)))); clear hb1 HK HB0 k2 k3 k4 k5 k6)
  have HW := Aside0.mk (show Below w.heap.size w (w1.setCell ⟨w.heap.size + 1 + 1 + 1 + 1, 0, none⟩ (.int .i64 0)) ∧ w.heap.size + 1 + 1 + 1 + 1 + 1 ≤ (w1.setCell ⟨w.heap.size + 1 + 1 + 1 + 1, 0, none⟩ (.int .i64 0)).heap.size from ⟨HB1.out.setCell (by show w.heap.size ≤ w.heap.size + 1 + 1 + 1 + 1; omega) _, by simpa using HS1.out⟩)
  have k2 := (Below.heap_setCell w1 ⟨w.heap.size + 1 + 1 + 1 + 1, 0, none⟩ (.int .i64 0) w.heap.size (by show w.heap.size ≠ w.heap.size + 1 + 1 + 1 + 1; omega)).trans KK.out.1
  have k3 := (Below.heap_setCell w1 ⟨w.heap.size + 1 + 1 + 1 + 1, 0, none⟩ (.int .i64 0) (w.heap.size + 1) (by show w.heap.size + 1 ≠ w.heap.size + 1 + 1 + 1 + 1; omega)).trans KK.out.2.1
  have k4 := (Below.heap_setCell w1 ⟨w.heap.size + 1 + 1 + 1 + 1, 0, none⟩ (.int .i64 0) (w.heap.size + 1 + 1) (by show w.heap.size + 1 + 1 ≠ w.heap.size + 1 + 1 + 1 + 1; omega)).trans KK.out.2.2.1
  have k5 := (Below.heap_setCell w1 ⟨w.heap.size + 1 + 1 + 1 + 1, 0, none⟩ (.int .i64 0) (w.heap.size + 1 + 1 + 1) (by show w.heap.size + 1 + 1 + 1 ≠ w.heap.size + 1 + 1 + 1 + 1; omega)).trans KK.out.2.2.2.1
  have k6 : (w1.setCell ⟨w.heap.size + 1 + 1 + 1 + 1, 0, none⟩ (.int .i64 0)).heap[w.heap.size + 1 + 1 + 1 + 1]? = some (.cells #[.int .i64 0] 30 (0, 0)) := blk_set KK.out.2.2.2.2 0 (.int .i64 0)
  clear q6 g6 HB1 HS1 KK HSZ
  generalize w1.setCell ⟨w.heap.size + 1 + 1 + 1 + 1, 0, none⟩ (.int .i64 0) = W at *
  have y6 : W.cell? ⟨w.heap.size + 1 + 1 + 1 + 1, 0, none⟩ = some (.int .i64 0) := (blk_cell k6 0).trans rfl
  have x0 : W.cell? ⟨w.heap.size, 0, none⟩ = some (.int .i64 s.id) := (blk_cell k2 0).trans rfl
  have x1 : W.cell? ⟨w.heap.size, 1, none⟩ = some (.int .i64 s.n) := (blk_cell k2 1).trans rfl
  have x2 : W.cell? ⟨w.heap.size, 2, none⟩ = some (.int .i64 s.view) := (blk_cell k2 2).trans rfl
  have x3 : W.cell? ⟨w.heap.size, 3, none⟩ = some (.int .i64 s.last) := (blk_cell k2 3).trans rfl
  have x4 : W.cell? ⟨w.heap.size, 4, none⟩ = some (.int .i64 s.status) := (blk_cell k2 4).trans rfl
  have x5 : W.cell? ⟨w.heap.size, 5, none⟩ = some (.slice AL s.log.length cL) := (blk_cell k2 5).trans rfl
  have x6 : W.cell? ⟨w.heap.size, 6, none⟩ = some (.int .i64 s.commit) := (blk_cell k2 6).trans rfl
  have x7 : W.cell? ⟨w.heap.size, 7, none⟩ = some (.slice AM s.mat.length cM) := (blk_cell k2 7).trans rfl
  have x8 : W.cell? ⟨w.heap.size, 8, none⟩ = some (.slice AK s.marks.length cK) := (blk_cell k2 8).trans rfl
  have x9 : W.cell? ⟨w.heap.size, 9, none⟩ = some (.bool s.sent) := (blk_cell k2 9).trans rfl
  have x10 : W.cell? ⟨w.heap.size, 10, none⟩ = some (.slice AB s.bals.length cB) := (blk_cell k2 10).trans rfl
  have x11 : W.cell? ⟨w.heap.size, 11, none⟩ = some (.int .i64 s.elapsed) := (blk_cell k2 11).trans rfl
  have x12 : W.cell? ⟨w.heap.size, 12, none⟩ = some (.int .i64 s.timeout) := (blk_cell k2 12).trans rfl
  have x13 : W.cell? ⟨w.heap.size, 13, none⟩ = some (.slice AD s.draws.length cD) := (blk_cell k2 13).trans rfl
  have e0 : W.cell? ⟨w.heap.size + 1, 0, none⟩ = some (.int .i64 k) := (blk_cell k3 0).trans rfl
  have KK := Aside0.mk (And.intro k2 (And.intro k3 (And.intro k4 (And.intro k5 k6))))
  clear k2 k3 k4 k5 k6
  go_upto_region 8 with (first | (go_at_call 14; refine (within.calls _ _ _ _).mono ?_; rw [hk]; rintro e w' ⟨rfl, rfl⟩) | (go_at_call 21; refine (State_clone.calls s AL cL AM cM AK cK AB cB AD cD _ (Rd.below HR.out HW.out.1) ⟨HZ.out.log, HZ.out.mat, HZ.out.marks, HZ.out.draws, HZ.out.bals, HZ.out.logs, HZ.out.ballogs⟩).mono ?_; rintro e w2 ⟨vL, vM, vK, vB, vD, N, rfl, r1, r2, r3, r4, r5, hb2⟩; obtain ⟨BL, dL, rfl⟩ := Kd.R_slice r1; obtain ⟨BM, dM, rfl⟩ := Kd.R_slice r2; obtain ⟨BK, dK, rfl⟩ := Kd.R_slice r3; obtain ⟨BB, dB, rfl⟩ := Kd.R_slice r4; obtain ⟨BD, dD, rfl⟩ := Kd.R_slice r5; have RR := Aside0.mk (And.intro r1 (And.intro r2 (And.intro r3 (And.intro r4 (And.intro r5 hb2))))); clear r1 r2 r3 r4 r5 hb2))
  obtain ⟨r1, r2, r3, r4, r5, hb2⟩ := RR.out
  obtain ⟨gd, hgd, hM⟩ := Mac_clone (gd0 := w.heap.size) (by have := HW.out.2; omega) hb2.size r1 r2 r3 r4 r5
  have HB3 := Aside0.mk (HW.out.1.trans ((below_alloc hb2 (.cells #[.int .i64 s.id, .int .i64 s.n, .int .i64 s.view, .int .i64 s.last, .int .i64 s.status, .slice BL s.log.length dL, .int .i64 s.commit, .slice BM s.mat.length dM, .slice BK s.marks.length dK, .bool s.sent, .slice BB s.bals.length dB, .int .i64 s.elapsed, .int .i64 s.timeout, .slice BD s.draws.length dD, .slice none 0 0] 61)).mono (by have := HW.out.2; omega)))
  have HS3 := Aside0.mk (And.intro HW.out.2 hb2.size)
  have k3 := blk_alloc (blk_below KK.out.2.1 hb2) (.cells #[.int .i64 s.id, .int .i64 s.n, .int .i64 s.view, .int .i64 s.last, .int .i64 s.status, .slice BL s.log.length dL, .int .i64 s.commit, .slice BM s.mat.length dM, .slice BK s.marks.length dK, .bool s.sent, .slice BB s.bals.length dB, .int .i64 s.elapsed, .int .i64 s.timeout, .slice BD s.draws.length dD, .slice none 0 0] 61)
  have KR := Aside0.mk (And.intro (blk_alloc (blk_below KK.out.2.2.1 hb2) (.cells #[.int .i64 s.id, .int .i64 s.n, .int .i64 s.view, .int .i64 s.last, .int .i64 s.status, .slice BL s.log.length dL, .int .i64 s.commit, .slice BM s.mat.length dM, .slice BK s.marks.length dK, .bool s.sent, .slice BB s.bals.length dB, .int .i64 s.elapsed, .int .i64 s.timeout, .slice BD s.draws.length dD, .slice none 0 0] 61)) (And.intro (blk_alloc (blk_below KK.out.2.2.2.1 hb2) (.cells #[.int .i64 s.id, .int .i64 s.n, .int .i64 s.view, .int .i64 s.last, .int .i64 s.status, .slice BL s.log.length dL, .int .i64 s.commit, .slice BM s.mat.length dM, .slice BK s.marks.length dK, .bool s.sent, .slice BB s.bals.length dB, .int .i64 s.elapsed, .int .i64 s.timeout, .slice BD s.draws.length dD, .slice none 0 0] 61)) (blk_alloc (blk_below KK.out.2.2.2.2 hb2) (.cells #[.int .i64 s.id, .int .i64 s.n, .int .i64 s.view, .int .i64 s.last, .int .i64 s.status, .slice BL s.log.length dL, .int .i64 s.commit, .slice BM s.mat.length dM, .slice BK s.marks.length dK, .bool s.sent, .slice BB s.bals.length dB, .int .i64 s.elapsed, .int .i64 s.timeout, .slice BD s.draws.length dD, .slice none 0 0] 61))))
  have HM := Aside0.mk hM
  have HD := Aside0.mk hgd
  have HSW : Aside0 ((w2.alloc (.cells #[.int .i64 s.id, .int .i64 s.n, .int .i64 s.view, .int .i64 s.last, .int .i64 s.status, .slice BL s.log.length dL, .int .i64 s.commit, .slice BM s.mat.length dM, .slice BK s.marks.length dK, .bool s.sent, .slice BB s.bals.length dB, .int .i64 s.elapsed, .int .i64 s.timeout, .slice BD s.draws.length dD, .slice none 0 0] 61)).heap.size = w2.heap.size + 1) := ⟨by simp⟩
  clear RR r1 r2 r3 r4 r5 hb2 hM hgd KK x0 x1 x2 x3 x4 x5 x6 x7 x8 x9 x10 x11 x12 x13 e0 y6
  obtain ⟨b, hbe⟩ : ∃ b, b = w2.heap.size := ⟨_, rfl⟩
  simp only [← hbe] at *
  have HBE := Aside0.mk hbe
  clear hbe
  generalize w2.alloc (.cells #[.int .i64 s.id, .int .i64 s.n, .int .i64 s.view, .int .i64 s.last, .int .i64 s.status, .slice BL s.log.length dL, .int .i64 s.commit, .slice BM s.mat.length dM, .slice BK s.marks.length dK, .bool s.sent, .slice BB s.bals.length dB, .int .i64 s.elapsed, .int .i64 s.timeout, .slice BD s.draws.length dD, .slice none 0 0] 61) = V at *
  have e0 : V.cell? ⟨w.heap.size + 1, 0, none⟩ = some (.int .i64 k) := (blk_cell k3 0).trans rfl
  have e1 : V.cell? ⟨w.heap.size + 1, 1, none⟩ = some (.int .i64 x.kind) := (blk_cell k3 1).trans rfl
  have e2 : V.cell? ⟨w.heap.size + 1, 2, none⟩ = some (.int .i64 x.fro) := (blk_cell k3 2).trans rfl
  have e3 : V.cell? ⟨w.heap.size + 1, 3, none⟩ = some (.int .i64 x.dst) := (blk_cell k3 3).trans rfl
  have e4 : V.cell? ⟨w.heap.size + 1, 4, none⟩ = some (.int .i64 x.view) := (blk_cell k3 4).trans rfl
  have e5 : V.cell? ⟨w.heap.size + 1, 5, none⟩ = some (.int .i64 x.last) := (blk_cell k3 5).trans rfl
  have e6 : V.cell? ⟨w.heap.size + 1, 6, none⟩ = some (.int .i64 x.prev) := (blk_cell k3 6).trans rfl
  have e7 : V.cell? ⟨w.heap.size + 1, 7, none⟩ = some (.slice AX x.log.length cX) := (blk_cell k3 7).trans rfl
  have e8 : V.cell? ⟨w.heap.size + 1, 8, none⟩ = some (.int .i64 x.commit) := (blk_cell k3 8).trans rfl
  have e9 : V.cell? ⟨w.heap.size + 1, 9, none⟩ = some (.int .i64 x.mat) := (blk_cell k3 9).trans rfl
  have e10 : V.cell? ⟨w.heap.size + 1, 10, none⟩ = some (.slice A data.length c) := (blk_cell k3 10).trans rfl
  go_still_tail 6, (by kernel_rfl)
  change wpList _ _ _ _ _ V.drew
  have HP : ∀ k, V.drew.heap.size ≤ k → w'.heap.size ≤ k ∧ k ≠ b ∧ k ≠ gd := fun k hk2 => by
    have h1 : V.heap.size ≤ k := hk2
    have h2 := HSW.out
    have h3 := HM.out.1
    have h4 := HS3.out.2
    exact ⟨by omega, by omega, by omega⟩
  have HHH := Aside0.mk (HH.out V.drew b gd _ (below_drew HB3.out) (HM.out.below (below_drew (Below.refl _ _))) HP ⟨fun h => h.2.2 rfl, HD.out.1⟩ (fun k hk2 => by have h1 := HS3.out; rcases hk2 with h | h; exact Nat.le_trans (by omega) h.1; omega))
  have HBD := Aside0.mk (below_drew HB3.out)
  have KD : Aside0 (V.drew.heap[w.heap.size + 1 + 1]? = some (.cells #[.int .i64 0, .int .i64 0, .int .i64 0, .int .i64 0, .int .i64 0, .slice none 0 0, .int .i64 0, .slice none 0 0, .slice none 0 0, .bool false, .slice none 0 0, .int .i64 0, .int .i64 0, .slice none 0 0] 29 (0, 0)) ∧ V.drew.heap[w.heap.size + 1 + 1 + 1]? = some (.cells #[.slice none 0 0] 33 (0, 0)) ∧ V.drew.heap[w.heap.size + 1 + 1 + 1 + 1]? = some (.cells #[.int .i64 0] 30 (0, 0))) := ⟨KR.out⟩
  clear HP HH HB3 KR k3 HM HSW HZ HR HC
  cases r with
  | some ec =>
    go_wp2_with (go_at_fn hf; refine (HHH.out).mono ?_; rintro e w9 ⟨hkp, rfl⟩)
    have hn : ∀ k, k < w'.heap.size → ¬ (k = b ∨ w'.heap.size ≤ k ∧ k ≠ b ∧ k ≠ gd) := fun k hk2 h => by
      have h1 := HS3.out
      rcases h with h | h <;> omega
    have h5 := HS3.out.1
    refine leaves_cons (f := 20) (args := #[.pointer (some ⟨w.heap.size + 1 + 1, 0, none⟩), .pointer (some ⟨w.heap.size + 1 + 1 + 1, 0, none⟩), .pointer (some ⟨w.heap.size + 1 + 1 + 1 + 1, 0, none⟩)]) (by simp) (by simp [go_sem]) ?_
    refine (Catch.bad (w.heap.size + 1 + 1) (w.heap.size + 1 + 1 + 1) (w.heap.size + 1 + 1 + 1 + 1) _ _ _ ec [] w9 (blk_keeps KD.out.1 hkp (hn _ (by omega))) (blk_keeps KD.out.2.1 hkp (hn _ (by omega))) (blk_keeps KD.out.2.2 hkp (hn _ (by omega))) rfl (by omega) (by omega) (by omega)).mono ?_
    rintro e u' w10 ⟨rfl, rfl, k4, k5, k6, hk10⟩
    have hres := fun t h4 h5 h6 => step_results (tmps := t) _ _ _ _ _ ec h4 h5 h6 k4 rfl k5 k6
    refine ⟨_, hres _ rfl rfl rfl, ?_, rfl⟩
    exact Below.keeps (Below.keeps HBD.out hkp HBD.out.size (fun k hk2 => by have h1 := HS3.out; rcases hk2 with h | h <;> omega)) hk10 (Nat.le_trans HBD.out.size hkp.size) (fun k hk2 => by rcases hk2 with h | h | h <;> omega)
  | none =>
    go_upto_region 9 with (go_at_fn hf; refine (HHH.out).mono ?_; rintro e w9 ⟨hkp, rfl, hm⟩; have HKP := Aside0.mk hkp; have HM9 := Aside0.mk hm; clear hkp hm)
    obtain ⟨_, CL, dL', CM, dM', CK, dK', CB, dB', CD, dD', CO, dO', hb9, h1, h2, h3, h4, h5, h6, h7⟩ := HM9.out
    have hn : ∀ k, k < w'.heap.size → ¬ (k = b ∨ w'.heap.size ≤ k ∧ k ≠ b ∧ k ≠ gd) := fun k hk2 h => by
      have h1 := HS3.out
      rcases h with h | h <;> omega
    have s5 := HS3.out.1
    have k4 := blk_keeps KD.out.1 HKP.out (hn _ (by omega))
    have k5 := blk_keeps KD.out.2.1 HKP.out (hn _ (by omega))
    have k6 := blk_keeps KD.out.2.2 HKP.out (hn _ (by omega))
    have HROW := Aside0.mk (And.intro h1 (And.intro h2 (And.intro h3 (And.intro h4 (And.intro h5 (And.intro h6 h7))))))
    have HBB := Aside0.mk (Below.keeps HBD.out HKP.out HBD.out.size (fun k hk2 => by have h1 := HS3.out; rcases hk2 with h | h <;> omega))
    clear h1 h2 h3 h4 h5 h6 h7 hn HKP HM9 KD HHH ix eg hk hmf
    have hbz := blk_lt hb9
    have HNE := Aside0.mk (show b ≠ w.heap.size + 1 + 1 ∧ b ≠ w.heap.size + 1 + 1 + 1 ∧ b ≠ w.heap.size + 1 + 1 + 1 + 1 from by have h1 := HS3.out; exact ⟨by omega, by omega, by omega⟩)
    refine region_tab (fun u => ⟨#[.agg #[.int .i64 s.id, .int .i64 s.n, .int .i64 s.view, .int .i64 s.last, .int .i64 s.status, .slice AL s.log.length cL, .int .i64 s.commit, .slice AM s.mat.length cM, .slice AK s.marks.length cK, .bool s.sent, .slice AB s.bals.length cB, .int .i64 s.elapsed, .int .i64 s.timeout, .slice AD s.draws.length cD], .agg #[.int .i64 k, .int .i64 x.kind, .int .i64 x.fro, .int .i64 x.dst, .int .i64 x.view, .int .i64 x.last, .int .i64 x.prev, .slice AX x.log.length cX, .int .i64 x.commit, .int .i64 x.mat, .slice A data.length c], .pointer (some ⟨w.heap.size, 0, none⟩), .pointer (some ⟨w.heap.size + 1, 0, none⟩), .pointer (some ⟨w.heap.size + 1 + 1, 0, none⟩), .pointer (some ⟨w.heap.size + 1 + 1 + 1, 0, none⟩), .pointer (some ⟨w.heap.size + 1 + 1 + 1 + 1, 0, none⟩), .pointer (some ⟨b, 0, none⟩), .agg #[.int .i64 s.id, .int .i64 s.n, .int .i64 s.view, .int .i64 s.last, .int .i64 s.status, .slice AL s.log.length cL, .int .i64 s.commit, .slice AM s.mat.length cM, .slice AK s.marks.length cK, .bool s.sent, .slice AB s.bals.length cB, .int .i64 s.elapsed, .int .i64 s.timeout, .slice AD s.draws.length cD], .int .i64 0, .int .i64 0, .bool false, undef, undef, .pointer (some ⟨w.heap.size + 1, 0, none⟩), .int .i64 k, .bool true, .bool false, undef, .func (.func 20) #[] #[.pointer (some ⟨w.heap.size + 1 + 1, 0, none⟩), .pointer (some ⟨w.heap.size + 1 + 1 + 1, 0, none⟩), .pointer (some ⟨w.heap.size + 1 + 1 + 1 + 1, 0, none⟩)], .agg #[.int .i64 s.id, .int .i64 s.n, .int .i64 s.view, .int .i64 s.last, .int .i64 s.status, .slice AL s.log.length cL, .int .i64 s.commit, .slice AM s.mat.length cM, .slice AK s.marks.length cK, .bool s.sent, .slice AB s.bals.length cB, .int .i64 s.elapsed, .int .i64 s.timeout, .slice AD s.draws.length cD], .agg #[.int .i64 s.id, .int .i64 s.n, .int .i64 s.view, .int .i64 s.last, .int .i64 s.status, .slice BL s.log.length dL, .int .i64 s.commit, .slice BM s.mat.length dM, .slice BK s.marks.length dK, .bool s.sent, .slice BB s.bals.length dB, .int .i64 s.elapsed, .int .i64 s.timeout, .slice BD s.draws.length dD], .agg #[.int .i64 s.id, .int .i64 s.n, .int .i64 s.view, .int .i64 s.last, .int .i64 s.status, .slice BL s.log.length dL, .int .i64 s.commit, .slice BM s.mat.length dM, .slice BK s.marks.length dK, .bool s.sent, .slice BB s.bals.length dB, .int .i64 s.elapsed, .int .i64 s.timeout, .slice BD s.draws.length dD, .slice none 0 0], .pointer (some ⟨b, 0, none⟩), .agg #[.nilFunc, .func (.func 22) #[] #[], .func (.func 23) #[] #[], .func (.func 24) #[] #[]], .pointer (some ⟨w.heap.size + 1, 0, none⟩), .int .i64 k, .func (.func hf) #[] #[], .pointer (some ⟨b, 0, none⟩), .agg #[.int .i64 k, .int .i64 x.kind, .int .i64 x.fro, .int .i64 x.dst, .int .i64 x.view, .int .i64 x.last, .int .i64 x.prev, .slice AX x.log.length cX, .int .i64 x.commit, .int .i64 x.mat, .slice A data.length c], .tuple #[], u 31, u 32, u 33, u 34, u 35, u 36, u 37, u 38], [{ target := .fn (.func 20) #[.pointer (some ⟨w.heap.size + 1 + 1, 0, none⟩), .pointer (some ⟨w.heap.size + 1 + 1 + 1, 0, none⟩), .pointer (some ⟨w.heap.size + 1 + 1 + 1 + 1, 0, none⟩)], args := #[] }]⟩) (fun _ => undef) (fun i v => match i with | 0 => v = .pointer (some ⟨b, 0, none⟩) | 1 => v = .pointer (some ⟨b, 0, none⟩) | 2 => v = .pointer (some ⟨b, 0, none⟩) | 3 => v = .agg #[.int .i64 s'.id, .int .i64 s'.n, .int .i64 s'.view, .int .i64 s'.last, .int .i64 s'.status, .slice CL s'.log.length dL', .int .i64 s'.commit, .slice CM s'.mat.length dM', .slice CK s'.marks.length dK', .bool s'.sent, .slice CB s'.bals.length dB', .int .i64 s'.elapsed, .int .i64 s'.timeout, .slice CD s'.draws.length dD'] | 4 => v = .pointer (some ⟨b, 0, none⟩) | 5 => v = .pointer (some ⟨b, 0, none⟩) | 6 => v = .pointer (some ⟨b, 14, none⟩) | 7 => v = .slice CO out.length dO' | _ => True) (fun l _ wx => G9 w9 b (w.heap.size + 1 + 1) (w.heap.size + 1 + 1 + 1) (w.heap.size + 1 + 1 + 1 + 1) #[.int .i64 s'.id, .int .i64 s'.n, .int .i64 s'.view, .int .i64 s'.last, .int .i64 s'.status, .slice CL s'.log.length dL', .int .i64 s'.commit, .slice CM s'.mat.length dM', .slice CK s'.marks.length dK', .bool s'.sent, .slice CB s'.bals.length dB', .int .i64 s'.elapsed, .int .i64 s'.timeout, .slice CD s'.draws.length dD', .slice CO out.length dO'] #[.int .i64 s'.id, .int .i64 s'.n, .int .i64 s'.view, .int .i64 s'.last, .int .i64 s'.status, .slice CL s'.log.length dL', .int .i64 s'.commit, .slice CM s'.mat.length dM', .slice CK s'.marks.length dK', .bool s'.sent, .slice CB s'.bals.length dB', .int .i64 s'.elapsed, .int .i64 s'.timeout, .slice CD s'.draws.length dD'] (.slice CO out.length dO') l wx) (by first | rfl | kernel_rfl) (by kernel_rfl) (by kernel_rfl) rfl ?tg0 ?tput ?tg ?tstep ?tdone
    case tg0 => exact ⟨hb9, Keeps.drew (Keeps.refl _ _), k4, k5, k6⟩
    case tput =>
      intro i o ho u v
      rcases i with _ | _ | _ | _ | _ | _ | _ | _ | _ | _ | _ | i
      all_goals first | (obtain rfl := Option.some.inj (show some _ = some o from ho); rfl) | exact absurd ho (by simp)
    case tg =>
      intro i o ho
      rcases i with _ | _ | _ | _ | _ | _ | _ | _ | _ | _ | _ | i
      all_goals first | (obtain rfl := Option.some.inj (show some _ = some o from ho); rfl) | exact absurd ho (by simp)
    case tstep =>
      intro l u wx i o hx hG hF ho hl hn
      rcases i with _ | _ | _ | _ | _ | _ | _ | _ | _ | _ | _ | i
      · obtain rfl := Option.some.inj (show some _ = some o from ho)
        refine wv_ (v := .pointer (some ⟨b, 0, none⟩)) (by go_simp; with_reducible rfl) ?_
        exact ⟨_, rfl, rfl, G9.upd (by decide) (by decide) hG⟩
      · obtain rfl := Option.some.inj (show some _ = some o from ho)
        have e31 : u 31 = _ := hF 0 (by decide) (hn 0 (by decide)) 31 rfl
        refine wv_ (v := .pointer (some ⟨b, 0, none⟩)) (by go_simp; with_reducible rfl) ?_
        exact ⟨_, rfl, rfl, G9.upd (by decide) (by decide) hG⟩
      · obtain rfl := Option.some.inj (show some _ = some o from ho)
        have e32 : u 32 = _ := hF 1 (by decide) (hn 1 (by decide)) 32 rfl
        refine wv_ (v := .pointer (some ⟨b, 0, none⟩)) (by go_simp; with_reducible rfl) ?_
        exact ⟨_, rfl, rfl, G9.upd (by decide) (by decide) hG⟩
      · obtain rfl := Option.some.inj (show some _ = some o from ho)
        have e33 : u 33 = _ := hF 2 (by decide) (hn 2 (by decide)) 33 rfl
        have g0 : wx.cell? ⟨b, 0, none⟩ = some (.int .i64 s'.id) := (blk_cell hG.1 0).trans rfl
        have g1 : wx.cell? ⟨b, 1, none⟩ = some (.int .i64 s'.n) := (blk_cell hG.1 1).trans rfl
        have g2 : wx.cell? ⟨b, 2, none⟩ = some (.int .i64 s'.view) := (blk_cell hG.1 2).trans rfl
        have g3 : wx.cell? ⟨b, 3, none⟩ = some (.int .i64 s'.last) := (blk_cell hG.1 3).trans rfl
        have g4 : wx.cell? ⟨b, 4, none⟩ = some (.int .i64 s'.status) := (blk_cell hG.1 4).trans rfl
        have g5 : wx.cell? ⟨b, 5, none⟩ = some (.slice CL s'.log.length dL') := (blk_cell hG.1 5).trans rfl
        have g6 : wx.cell? ⟨b, 6, none⟩ = some (.int .i64 s'.commit) := (blk_cell hG.1 6).trans rfl
        have g7 : wx.cell? ⟨b, 7, none⟩ = some (.slice CM s'.mat.length dM') := (blk_cell hG.1 7).trans rfl
        have g8 : wx.cell? ⟨b, 8, none⟩ = some (.slice CK s'.marks.length dK') := (blk_cell hG.1 8).trans rfl
        have g9 : wx.cell? ⟨b, 9, none⟩ = some (.bool s'.sent) := (blk_cell hG.1 9).trans rfl
        have g10 : wx.cell? ⟨b, 10, none⟩ = some (.slice CB s'.bals.length dB') := (blk_cell hG.1 10).trans rfl
        have g11 : wx.cell? ⟨b, 11, none⟩ = some (.int .i64 s'.elapsed) := (blk_cell hG.1 11).trans rfl
        have g12 : wx.cell? ⟨b, 12, none⟩ = some (.int .i64 s'.timeout) := (blk_cell hG.1 12).trans rfl
        have g13 : wx.cell? ⟨b, 13, none⟩ = some (.slice CD s'.draws.length dD') := (blk_cell hG.1 13).trans rfl
        refine wv_ (v := .agg #[.int .i64 s'.id, .int .i64 s'.n, .int .i64 s'.view, .int .i64 s'.last, .int .i64 s'.status, .slice CL s'.log.length dL', .int .i64 s'.commit, .slice CM s'.mat.length dM', .slice CK s'.marks.length dK', .bool s'.sent, .slice CB s'.bals.length dB', .int .i64 s'.elapsed, .int .i64 s'.timeout, .slice CD s'.draws.length dD']) (by go_simp; with_reducible rfl) ?_
        exact ⟨_, rfl, rfl, G9.upd (by decide) (by decide) hG⟩
      · obtain rfl := Option.some.inj (show some _ = some o from ho)
        refine wv_ (v := .pointer (some ⟨b, 0, none⟩)) (by go_simp; with_reducible rfl) ?_
        exact ⟨_, rfl, rfl, G9.upd (by decide) (by decide) hG⟩
      · obtain rfl := Option.some.inj (show some _ = some o from ho)
        have e35 : u 35 = _ := hF 4 (by decide) (hn 4 (by decide)) 35 rfl
        refine wv_ (v := .pointer (some ⟨b, 0, none⟩)) (by go_simp; with_reducible rfl) ?_
        exact ⟨_, rfl, rfl, G9.upd (by decide) (by decide) hG⟩
      · obtain rfl := Option.some.inj (show some _ = some o from ho)
        have e36 : u 36 = _ := hF 5 (by decide) (hn 5 (by decide)) 36 rfl
        refine wv_ (v := .pointer (some ⟨b, 14, none⟩)) (by go_simp; with_reducible rfl) ?_
        exact ⟨_, rfl, rfl, G9.upd (by decide) (by decide) hG⟩
      · obtain rfl := Option.some.inj (show some _ = some o from ho)
        have e37 : u 37 = _ := hF 6 (by decide) (hn 6 (by decide)) 37 rfl
        have g14 : wx.cell? ⟨b, 14, none⟩ = some (.slice CO out.length dO') := (blk_cell hG.1 14).trans rfl
        refine wv_ (v := .slice CO out.length dO') (by go_simp; with_reducible rfl) ?_
        exact ⟨_, rfl, rfl, G9.upd (by decide) (by decide) hG⟩
      · obtain rfl := Option.some.inj (show some _ = some o from ho)
        have e34 : u 34 = _ := hF 3 (by decide) (hn 3 (by decide)) 34 rfl
        refine wp_store_row 29 (.tmp 4) (.tmp 34) rfl (w.heap.size + 1 + 1) #[.int .i64 s'.id, .int .i64 s'.n, .int .i64 s'.view, .int .i64 s'.last, .int .i64 s'.status, .slice CL s'.log.length dL', .int .i64 s'.commit, .slice CM s'.mat.length dM', .slice CK s'.marks.length dK', .bool s'.sent, .slice CB s'.bals.length dB', .int .i64 s'.elapsed, .int .i64 s'.timeout, .slice CD s'.draws.length dD'] rfl e34 29 _ (hG.2.2.1) (by kernel_rfl) (by rw [hl]; rfl) (by kernel_rfl) ?_
        exact ⟨undef, rfl, trivial, G9.s8 hG HNE.out.1 (by omega) (by omega)⟩
      · obtain rfl := Option.some.inj (show some _ = some o from ho)
        have e38 : u 38 = _ := hF 7 (by decide) (hn 7 (by decide)) 38 rfl
        have q5 := hG.2.2.2.1
        rw [hl] at q5
        have y5 : wx.cell? ⟨w.heap.size + 1 + 1 + 1, 0, none⟩ = some (.slice none 0 0) := (blk_cell q5 0).trans rfl
        have f5 := blk_frozen q5 0
        refine ws_ (w1 := wx.setCell ⟨w.heap.size + 1 + 1 + 1, 0, none⟩ (.slice CO out.length dO')) (by first | (go_simp; done) | (go_simp; with_reducible rfl)) ?_
        exact ⟨undef, rfl, trivial, G9.s9 hG HNE.out.2.1 (by omega) (by omega)⟩
      · obtain rfl := Option.some.inj (show some _ = some o from ho)
        have q6 := hG.2.2.2.2
        have y6 : wx.cell? ⟨w.heap.size + 1 + 1 + 1 + 1, 0, none⟩ = some (.int .i64 0) := (blk_cell q6 0).trans rfl
        have f6 := blk_frozen q6 0
        refine ws_ (w1 := wx.setCell ⟨w.heap.size + 1 + 1 + 1 + 1, 0, none⟩ (.int .i64 0)) (by first | (go_simp; done) | (go_simp; with_reducible rfl)) ?_
        exact ⟨undef, rfl, trivial, G9.s10 hG HNE.out.2.2 (by omega) (by omega)⟩
      · exact absurd ho (by simp)
    case tdone =>
      intro l u wx hall hG hF
      dsimp only
      go_wp2_with fail
      refine leaves_cons (f := 20) (args := #[.pointer (some ⟨w.heap.size + 1 + 1, 0, none⟩), .pointer (some ⟨w.heap.size + 1 + 1 + 1, 0, none⟩), .pointer (some ⟨w.heap.size + 1 + 1 + 1 + 1, 0, none⟩)]) (by simp) (by simp [go_sem]) ?_
      refine (Catch.idle ⟨w.heap.size + 1 + 1, 0, none⟩ ⟨w.heap.size + 1 + 1 + 1, 0, none⟩ ⟨w.heap.size + 1 + 1 + 1 + 1, 0, none⟩ _).mono ?_
      rintro e u' w10 ⟨rfl, rfl, rfl⟩
      obtain ⟨_, hkx, q4, q5, q6⟩ := hG
      rw [hall 8 (by decide)] at q4
      rw [hall 9 (by decide)] at q5
      rw [if_pos rfl] at q4 q5
      have hres := fun t h4 h5 h6 => step_results (tmps := t) _ _ _ _ _ 0 h4 h5 h6 q4 rfl q5 q6
      have hB := Below.keeps HBB.out hkx HBB.out.size (fun k hk2 => by rcases hk2 with h | h | h <;> omega)
      have hS : ∀ k, (w'.heap.size ≤ k ∧ k ≠ b ∧ k ≠ gd) → ¬ (k = w.heap.size + 1 + 1 ∨ k = w.heap.size + 1 + 1 + 1 ∨ k = w.heap.size + 1 + 1 + 1 + 1) := fun k hk2 h => by
        rcases h with h | h | h <;> omega
      obtain ⟨r1, r2, r3, r4, r5, r6, r7⟩ := HROW.out
      refine ⟨_, hres _ rfl rfl rfl, hB, CL, dL', CM, dM', CK, dK', CB, dB', CD, dD', CO, dO', rfl, fun WW hkw => ?_⟩
      have hT : ∀ k, (w'.heap.size ≤ k ∧ k ≠ b ∧ k ≠ gd) → ¬ k < w.heap.size := fun k hk2 h => by omega
      have m1 := (Kd.R_reads' (Kd.R_keeps (Kd.R_keeps r1 hkx hS) hkw hT)).2
      have m2 := (Kd.R_reads' (Kd.R_keeps (Kd.R_keeps r2 hkx hS) hkw hT)).2
      have m3 := (Kd.R_reads' (Kd.R_keeps (Kd.R_keeps r3 hkx hS) hkw hT)).2
      have m4 := (Kd.R_reads' (Kd.R_keeps (Kd.R_keeps r4 hkx hS) hkw hT)).2
      have m5 := (Kd.R_reads' (Kd.R_keeps (Kd.R_keeps r5 hkx hS) hkw hT)).2
      have m7 := Kd.F_now (Kd.F_step (Kd.F_step r7 (fun k hk2 hlt => hkx.block k hlt (fun h => by have h1 := HD.out.2; rcases h with h | h | h <;> omega))) (fun k hk2 hlt => hkw.block k hlt (fun h => by have h1 := HD.out.2; omega)))
      exact ⟨⟨⟨m1.2, m1.1⟩, ⟨m2.2, m2.1⟩, ⟨m3.2, m3.1⟩, ⟨m4.2, m4.1⟩, ⟨m7, r6⟩⟩, m5.2⟩
end Go.Proofs.Ytojjnifbnppliaa.T
