/- What a call leaves as it was. -/
import Derived.Test.YtojjnifbnppliaaVb
namespace Go.Proofs.Ytojjnifbnppliaa.T
open Go.RowKit Go.Proofs.YtojjnifbnppliaaW.PrintWords Go.Proofs.YtojjnifbnppliaaW.PrintLast Go.Proofs.YtojjnifbnppliaaW.PrintMore
attribute [local go_sem] max2_int min2_int max_two min_two max_three min_three max_four min_four
set_option linter.unusedVariables false
set_option linter.unusedSimpArgs false
/-- All streams, and all blocks but those of S. -/
structure Keeps (w w' : World) (S : Nat → Prop) : Prop where
  os : w'.os = w.os
  tape : w'.tape = w.tape
  output : w'.output = w.output
  size : w.heap.size ≤ w'.heap.size
  block : ∀ k, k < w.heap.size → ¬ S k → w'.heap[k]? = w.heap[k]?
section
variable {w w' w1 w2 : World} {S S' : Nat → Prop}
theorem Keeps.refl (w : World) (S : Nat → Prop) : Keeps w w S := ⟨rfl, rfl, rfl, Nat.le_refl _, fun _ _ _ => rfl⟩
theorem Keeps.of_below {n : Nat} (h : Below n w w') (hs : ∀ k, k < w.heap.size → ¬ S k → k < n) : Keeps w w' S := ⟨h.os, h.tape, h.output, h.size, fun k hk hn => h.block k (hs k hk hn)⟩
theorem Keeps.of_belows (h : Below w.heap.size w w') (S : Nat → Prop) : Keeps w w' S := Keeps.of_below h (fun _ hk _ => hk)
theorem Keeps.mono (h : Keeps w w' S) (hs : ∀ k, S k → S' k) : Keeps w w' S' := ⟨h.os, h.tape, h.output, h.size, fun k hk hn => h.block k hk (fun h2 => hn (hs k h2))⟩
theorem Keeps.trans' (h : Keeps w w1 S) (k : Keeps w1 w2 S') (hs : ∀ i, S' i → S i ∨ w.heap.size ≤ i) : Keeps w w2 S :=
  ⟨k.os.trans h.os, k.tape.trans h.tape, k.output.trans h.output, Nat.le_trans h.size k.size, fun i hi hn => (k.block i (Nat.lt_of_lt_of_le hi h.size) (fun h2 => (hs i h2).elim hn (fun h3 => by omega))).trans (h.block i hi hn)⟩
theorem Keeps.trans (h : Keeps w w1 S) (k : Keeps w1 w2 S) : Keeps w w2 S := h.trans' k (fun _ h => .inl h)
theorem Keeps.below (h : Keeps w w1 S) (k : Below w1.heap.size w1 w2) : Keeps w w2 S := h.trans (Keeps.of_belows k S)
theorem Keeps.alloc (h : Keeps w w1 S) (o : Obj) : Keeps w (w1.alloc o) S := h.below (below_alloc (Below.refl _ _) o)
theorem Keeps.drew (h : Keeps w w1 S) : Keeps w w1.drew S := h.below (below_drew (Below.refl _ _))
theorem Keeps.drewN (h : Keeps w w1 S) (m : Nat) : Keeps w (w1.drewN m) S := h.below (pw_below_drewN (Below.refl _ _) m)
theorem Keeps.setCell (h : Keeps w w1 S) {p : Addr} (hp : S p.block ∨ w.heap.size ≤ p.block) (u : Value) : Keeps w (w1.setCell p u) S :=
  h.trans' (S' := fun k => k = p.block) ⟨rfl, rfl, rfl, by simp [World.setCell], fun k _ hk => Below.heap_setCell w1 p u k hk⟩ (fun i hi => by rw [hi]; exact hp)
theorem Keeps.grown (h : Keeps w w1 S) {row : Option Nat} (hg : w1.grownBy w2 row) (hr : ∀ k, row = some k → S k ∨ w.heap.size ≤ k) : Keeps w w2 S :=
  h.trans' (S' := fun k => row = some k) ⟨hg.os, hg.tape, hg.output, hg.size, fun k hk hn => hg.block k hk (fun e => hn e.symm)⟩ hr
theorem Keeps.set_ {b : Nat} (h : Keeps w w1 (fun k => k = b)) (j : Nat) (u : Value) : Keeps w (w1.setCell ⟨b, j, none⟩ u) (fun k => k = b) := h.setCell (p := ⟨b, j, none⟩) (.inl rfl) u
/-- Below: S lies above. -/
theorem Keeps.to_below {n : Nat} (h : Keeps w w' S) (hn : n ≤ w.heap.size) (hs : ∀ k, S k → n ≤ k) : Below n w w' := ⟨h.os, h.tape, h.output, h.size, fun k hk => h.block k (by omega) (fun h2 => by have := hs k h2; omega)⟩
theorem Below.keeps {n : Nat} {w0 : World} (h : Below n w0 w) (k : Keeps w w' S) (hn : n ≤ w.heap.size) (hs : ∀ k, S k → n ≤ k) : Below n w0 w' := h.trans (k.to_below hn hs)
theorem blk_keeps {g : Nat} {o : Obj} (hb : w.heap[g]? = some o) (h : Keeps w w' S) (hn : ¬ S g) : w'.heap[g]? = some o := (h.block g (blk_lt hb) hn).trans hb
theorem cell_keeps {a : Addr} {v : Value} (hc : w.cell? a = some v) (h : Keeps w w' S) (hn : ¬ S a.block) : w'.cell? a = some v := by
  have := h.block a.block (World.block_lt_of_cell? w a hc) hn
  simpa [World.cell?, this] using hc
theorem Kd.R_keeps {α : Type} {d : Kd α} {e base : Nat} {ok : Nat → Prop} {v : Value} {xs : List α} (h : d.R e w base ok v xs) (hk : Keeps w w' S) (hne : ∀ k, ok k → ¬ S k) : d.R e w' base ok v xs := Kd.R_step h (fun k ho hlt => hk.block k hlt (hne k ho))
end
end Go.Proofs.Ytojjnifbnppliaa.T
