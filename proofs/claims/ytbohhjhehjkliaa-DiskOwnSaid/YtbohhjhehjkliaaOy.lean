/- DiskOwn: the plain law and the walk, joined in the row's form. -/
import Derived.Test.YtbohhjhehjkliaaOx
import Derived.Test.YtbohhjhehjkliaaKb
set_option linter.unusedVariables false
set_option linter.unusedSimpArgs false
namespace Go.Proofs.Ytbohhjhehjkliaa.T
open Go.RowKit Go.Proofs.YtbohhjhehjkliaaW.PrintWords
theorem DiskOwnL.calls (k0 : Nat) (A0 : Option Addr) (c0 : Nat) (l0 : List (List Int)) (A1 : Option Addr) (c1 : Nat) (l : List S41) (A2 : Option Addr) (c2 : Nat) (d : List Int) (r : Bool) (w : World) (hr0 : Kd.C (Kd.slice 5 (Kd.int .u8)) w A0 l0.length l0) (hc0 : l0.length ≤ c0) (hr1 : Kd.C k41 w A1 l.length l) (hc1 : l.length ≤ c1) (hr2 : Kd.C (Kd.int .u8) w A2 d.length d) (hc2 : d.length ≤ c2) (h : Plain.Sz l0 l ∧ d.length ≤ 140737488351232 ∧ r = true) :
    Calls Try.prog 7 #[.agg #[.slice A0 l0.length c0, .slice A1 l.length c1], .slice A2 d.length c2] w fun e w' => e = .returned (.bool r) ∧ Below w.heap.size w w' := by
  obtain ⟨hs, hd, rfl⟩ := h
  obtain ⟨k, hk⟩ : ∃ k : Nat, 600000000000000 ≤ k := ⟨_, Nat.le_refl _⟩
  obtain ⟨P, C, e, h1, h2, h3, h4, h5, h6⟩ := Plain.putall_agree l0 l d hs hd k hk
  have hof := Plain.of_f l0 l hs.1 (fun x hx => by have := hs.2.1 x hx; omega) hs.2.2.1 (fun x hx => by have := hs.2.2.2 x hx; omega) k (by have := hs.1; omega) (by have := hs.2.2.1; omega)
  exact DiskOwn.calls k A0 c0 l0 A1 c1 l A2 c2 d _ P C _ e w hr0 hc0 hr1 hc1 hr2 hc2 hof (Plain.copyb d (by omega)) h1 h2 (Plain.alike_f P C h3 h4 h5 h6 k (by omega))
end Go.Proofs.Ytbohhjhehjkliaa.T
namespace Go.Proofs.Ytbohhjhehjkliaa.Pure
open Go.RowKit Go.Proofs.Ytbohhjhehjkliaa.T Go.Proofs.Ytbohhjhehjkliaa.Plain
theorem sz_of {x : List (List Int) × List S41} (h : OkS x) : Sz x.1 x.2 := by
  obtain ⟨⟨hb0, hs0, _⟩, ⟨hb1, hs1, _⟩⟩ := h
  exact ⟨by omega, fun y hy => by have := (hb0 y hy).2.1; omega, by omega, fun y hy => by have := (hb1 y hy).2.2.1; simp only at this; omega⟩
theorem DiskOwn (x : List (List Int) × List S41) (d : List Int) (h : OkS x) (hd : OkB d) : ∃ k : Nat, Sz x.1 x.2 ∧ d.length ≤ 140737488351232 ∧ true = true := ⟨0, sz_of h, by have := hd.2.1; omega, rfl⟩
end Go.Proofs.Ytbohhjhehjkliaa.Pure
