/- DiskTells: the plain law and the walk, joined in the row's form. -/
import Derived.Test.YtbohhjhehjkliaaDx
import Derived.Test.YtbohhjhehjkliaaKc
set_option linter.unusedVariables false
set_option linter.unusedSimpArgs false
namespace Go.Proofs.Ytbohhjhehjkliaa.T
open Go.RowKit Go.Proofs.YtbohhjhehjkliaaW.PrintWords
theorem DiskTellsL.calls (k0 : Nat) (A0 : Option Addr) (c0 : Nat) (l0 : List (List Int)) (A1 : Option Addr) (c1 : Nat) (l : List S41) (a1 : Int) (A2 : Option Addr) (c2 : Nat) (d : List Int) (A3 : Option Addr) (c3 : Nat) (lk : List Bool) (r : Bool) (w : World) (hr0 : Kd.C (Kd.slice 5 (Kd.int .u8)) w A0 l0.length l0) (hc0 : l0.length ≤ c0) (hr1 : Kd.C k41 w A1 l.length l) (hc1 : l.length ≤ c1) (hr2 : Kd.C (Kd.int .u8) w A2 d.length d) (hc2 : d.length ≤ c2) (hr3 : Kd.C Kd.bool w A3 lk.length lk) (hc3 : lk.length ≤ c3) (h : Plain.Sz l0 l ∧ d.length ≤ 140737488351232 ∧ lk.length ≤ 140737488351232 ∧ r = true) :
    Calls Try.prog 4 #[.agg #[.slice A0 l0.length c0, .slice A1 l.length c1], .int .i64 a1, .slice A2 d.length c2, .slice A3 lk.length c3] w fun e w' => e = .returned (.bool r) ∧ Below w.heap.size w w' := by
  obtain ⟨hs, hd, hk', rfl⟩ := h
  obtain ⟨k, hk⟩ : ∃ k : Nat, 700000000000000 ≤ k := ⟨_, Nat.le_refl _⟩
  obtain ⟨P1, C1, e1, p1, p2, pf⟩ := Plain.put_agree l0 l a1 d hs k (by omega)
  obtain ⟨g, e2, g1, g2, gl⟩ := Plain.get_agree l0 l a1 hs k (by omega)
  obtain ⟨P3, e3, u1, u2, uf⟩ := Plain.flush_agree l0 l hs k hk
  obtain ⟨P4, e4, v1, v2, vf⟩ := Plain.crash_agree l0 l lk hs hk' k (by omega)
  have hof := Plain.of_f l0 l hs.1 (fun x hx => by have := hs.2.1 x hx; omega) hs.2.2.1 (fun x hx => by have := hs.2.2.2 x hx; omega) k (by have := hs.1; omega) (by have := hs.2.2.1; omega)
  have al : ∀ P C, Plain.Fine P C → undercroftlaw03_Alike.f k P (C.map Plain.to62) P C = some 0 := fun P C h => Plain.alike_f P C h.1 h.2.1 h.2.2.1 h.2.2.2 k (by omega)
  exact DiskTells.calls k A0 c0 l0 A1 c1 l a1 A2 c2 d A3 c3 lk _ _ P1 P3 P4 C1 g e1 e2 e3 e4 _ w hr0 hc0 hr1 hc1 hr2 hc2 hr3 hc3 hof (Plain.copyb d (by omega)) ⟨p1, p2⟩ ⟨g1, g2⟩ ⟨u1, u2⟩ ⟨v1, v2⟩ ⟨rfl, Plain.check_f l0 l hs.1 hs.2.2.1 k (by omega)⟩
    (al _ _ pf) (al P3 [] uf) (al P4 [] vf) (al l0 l ⟨hs.1, hs.2.1, by have := hs.2.2.1; omega, hs.2.2.2⟩) (Plain.same_any g (by omega) k (by omega)) (Plain.same_any d hd k (by omega))
end Go.Proofs.Ytbohhjhehjkliaa.T
namespace Go.Proofs.Ytbohhjhehjkliaa.Pure
open Go.RowKit Go.Proofs.Ytbohhjhehjkliaa.T Go.Proofs.Ytbohhjhehjkliaa.Plain
theorem DiskTells (x : List (List Int) × List S41) (a : Int) (d : List Int) (lk : List Bool) (h : OkS x) (_ : (Lit.int .i64 a).wf = true) (hd : OkB d) (hk : OkK lk) : ∃ k : Nat, Sz x.1 x.2 ∧ d.length ≤ 140737488351232 ∧ lk.length ≤ 140737488351232 ∧ true = true := by
  obtain ⟨⟨hb0, hs0, _⟩, ⟨hb1, hs1, _⟩⟩ := h
  exact ⟨0, ⟨by omega, fun y hy => by have := (hb0 y hy).2.1; omega, by omega, fun y hy => by have := (hb1 y hy).2.2.1; simp only at this; omega⟩, by have := hd.2.1; omega, by have := hk.2.1; omega, rfl⟩
end Go.Proofs.Ytbohhjhehjkliaa.Pure
