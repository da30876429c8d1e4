/- What the machine holds. -/
import Derived.Test.YtojjnifbnppliaaVg
namespace Go.Proofs.Ytojjnifbnppliaa.T
open Go.RowKit Go.Proofs.YtojjnifbnppliaaW.PrintWords Go.Proofs.YtojjnifbnppliaaW.PrintLast Go.Proofs.YtojjnifbnppliaaW.PrintMore
attribute [local go_sem] max2_int min2_int max_two min_two max_three min_three max_four min_four
set_option linter.unusedVariables false
set_option linter.unusedSimpArgs false
/-- The machine lies at block b; its rows lie in P, its draws in gd; they are s and out. -/
def Mac (w : World) (b gd : Nat) (P : Nat → Prop) (s : St) (out : List Ms) : Prop := gd < w.heap.size ∧ ∃ (AL : Option Addr) (cL : Nat) (AM : Option Addr) (cM : Nat) (AK : Option Addr) (cK : Nat) (AB : Option Addr) (cB : Nat) (AD : Option Addr) (cD : Nat) (AO : Option Addr) (cO : Nat), w.heap[b]? = some (.cells #[.int .i64 s.id, .int .i64 s.n, .int .i64 s.view, .int .i64 s.last, .int .i64 s.status, .slice AL s.log.length cL, .int .i64 s.commit, .slice AM s.mat.length cM, .slice AK s.marks.length cK, .bool s.sent, .slice AB s.bals.length cB, .int .i64 s.elapsed, .int .i64 s.timeout, .slice AD s.draws.length cD, .slice AO out.length cO] 61 (0, 0)) ∧
  (Kd.slice 5 (Kd.int .u8)).R 22 w 0 P (.slice AL s.log.length cL) s.log ∧ (Kd.int .i64).R 3 w 0 P (.slice AM s.mat.length cM) s.mat ∧ Kd.bool.R 4 w 0 P (.slice AK s.marks.length cK) s.marks ∧ k69.R 69 w 0 P (.slice AB s.bals.length cB) s.bals ∧ kMs.R 37 w 0 P (.slice AO out.length cO) out ∧ s.draws.length ≤ cD ∧ Kd.F (Kd.int .i64) w (fun k => k = gd) AD s.draws.length s.draws
section
variable {w w1 : World} {b gd : Nat} {P P' : Nat → Prop} {s : St} {out : List Ms}
theorem Mac.step (h : Mac w b gd P s out) (hs : w.heap.size ≤ w1.heap.size) (hm : ∀ k, (P k ∨ k = b ∨ k = gd) → k < w.heap.size → w1.heap[k]? = w.heap[k]?) : Mac w1 b gd P s out := by
  obtain ⟨hg, AL, cL, AM, cM, AK, cK, AB, cB, AD, cD, AO, cO, hb, h1, h2, h3, h4, h5, h6, h7⟩ := h
  exact ⟨Nat.lt_of_lt_of_le hg hs, AL, cL, AM, cM, AK, cK, AB, cB, AD, cD, AO, cO, (hm b (.inr (.inl rfl)) (blk_lt hb)).trans hb, Kd.R_step h1 (fun k hk hl => hm k (.inl hk) hl), Kd.R_step h2 (fun k hk hl => hm k (.inl hk) hl), Kd.R_step h3 (fun k hk hl => hm k (.inl hk) hl), Kd.R_step h4 (fun k hk hl => hm k (.inl hk) hl), Kd.R_step h5 (fun k hk hl => hm k (.inl hk) hl), h6, Kd.F_step h7 (fun k hk hl => hm k (.inr (.inr hk)) hl)⟩
theorem Mac.below (h : Mac w b gd P s out) (hb : Below w.heap.size w w1) : Mac w1 b gd P s out := h.step hb.size (fun k _ hk => hb.block k hk)
theorem Mac.keeps {S : Nat → Prop} (h : Mac w b gd P s out) (hk : Keeps w w1 S) (hS : ∀ k, S k → ¬ P k ∧ k ≠ b ∧ k ≠ gd) : Mac w1 b gd P s out := h.step hk.size (fun k hk1 hlt => hk.block k hlt (fun h2 => by
  obtain ⟨n1, n2, n3⟩ := hS k h2
  rcases hk1 with h | h | h
  · exact n1 h
  · exact n2 h
  · exact n3 h))
theorem Mac.mono (h : Mac w b gd P s out) (hp : ∀ k, P k → P' k) : Mac w b gd P' s out := by
  obtain ⟨hg, AL, cL, AM, cM, AK, cK, AB, cB, AD, cD, AO, cO, hb, h1, h2, h3, h4, h5, h6, h7⟩ := h
  exact ⟨hg, AL, cL, AM, cM, AK, cK, AB, cB, AD, cD, AO, cO, hb, Kd.R_mono h1 hp, Kd.R_mono h2 hp, Kd.R_mono h3 hp, Kd.R_mono h4 hp, Kd.R_mono h5 hp, h6, h7⟩
theorem Mac.bound (h : Mac w b gd P s out) : Mac w b gd (fun k => P k ∧ k < w.heap.size) s out := by
  obtain ⟨hg, AL, cL, AM, cM, AK, cK, AB, cB, AD, cD, AO, cO, hb, h1, h2, h3, h4, h5, h6, h7⟩ := h
  exact ⟨hg, AL, cL, AM, cM, AK, cK, AB, cB, AD, cD, AO, cO, hb, Kd.R_mono (Kd.R_bound h1) (fun _ hk => ⟨hk.1, hk.2.2.1⟩), Kd.R_mono (Kd.R_bound h2) (fun _ hk => ⟨hk.1, hk.2.2.1⟩), Kd.R_mono (Kd.R_bound h3) (fun _ hk => ⟨hk.1, hk.2.2.1⟩), Kd.R_mono (Kd.R_bound h4) (fun _ hk => ⟨hk.1, hk.2.2.1⟩), Kd.R_mono (Kd.R_bound h5) (fun _ hk => ⟨hk.1, hk.2.2.1⟩), h6, h7⟩
/-- A box of the call's own behind it. -/
theorem Mac.box (h : Mac w b gd P s out) (o : Obj) : Mac (w.alloc o) b gd (fun k => P k ∧ k ≠ w.heap.size) s out := (h.bound.mono (P' := fun k => P k ∧ k ≠ w.heap.size) (fun k hk => ⟨hk.1, by have := hk.2; omega⟩)).below (below_alloc (Below.refl _ _) o)
end
end Go.Proofs.Ytojjnifbnppliaa.T
