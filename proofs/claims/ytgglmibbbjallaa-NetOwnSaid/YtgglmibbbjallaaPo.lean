/- NetOwn: the plain laws and the walk, joined. -/
import Derived.Test.YtgglmibbbjallaaPb
import Derived.Test.YtgglmibbbjallaaNd
set_option linter.unusedVariables false
set_option linter.unusedSimpArgs false
namespace Go.Proofs.Ytgglmibbbjallaa.Plain
open Go.RowKit Go.Proofs.YtgglmibbbjallaaW.PrintWords Go.Proofs.Ytgglmibbbjallaa.T
theorem send_short {a : Int} {l : List S38} (hl : okL l) {p0 p1 : Int} {pd : List Int} (hp : pd.length ≤ 140737488351232) : (∀ x ∈ (sendS a l p0 p1 pd).2.1, x.f2.length ≤ 140737488351232) ∧ (sendS a l p0 p1 pd).2.1.length ≤ 140737488351232 := by
  have h2 := hl.2
  unfold sendS
  repeat' split
  · exact ⟨fun x hx => (hl.1 x hx).2.2, by simp only; omega⟩
  · refine ⟨fun x hx => ?_, by simp only [List.length_append, List.length_singleton]; omega⟩
    rcases List.mem_append.1 hx with h | h
    · exact (hl.1 x h).2.2
    · rw [List.mem_singleton] at h; subst h; exact hp
  · exact ⟨fun x hx => by simp at hx, by simp⟩
  · exact ⟨fun x hx => by simp at hx, by simp⟩
theorem take_short {a : Int} {l : List S38} (hl : okL l) {n : Int} : (∀ x ∈ (takeS a l n).2.1, x.f2.length ≤ 140737488351232) ∧ (takeS a l n).2.1.length ≤ 140737488351232 ∧ (takeS a l n).2.2.2.2.1.length ≤ 140737488351232 := by
  have h2 := hl.2
  unfold takeS
  split
  · rename_i h
    obtain ⟨h0, h1, h3⟩ := ask_zero h
    have hle := List.length_eraseIdx_le l n.toNat
    exact ⟨fun x hx => (hl.1 x (List.mem_of_mem_eraseIdx hx)).2.2, by simp only; omega, (hl.1 _ (rd38_mem l n h1 h3)).2.2⟩
  · exact ⟨fun x hx => by simp at hx, by simp, by simp⟩
theorem ev_top {p q : Nat → Prop} (h1 : ∃ K, ∀ k, K ≤ k → p k) (h2 : ∃ K, ∀ k, K ≤ k → q k) : ∃ K, ∀ k, K ≤ k → p k ∧ q k := by
  obtain ⟨K, h1⟩ := h1
  obtain ⟨L, h2⟩ := h2
  exact ⟨max K L, fun k hk => ⟨h1 k (by omega), h2 k (by omega)⟩⟩
end Go.Proofs.Ytgglmibbbjallaa.Plain
namespace Go.Proofs.Ytgglmibbbjallaa.T
open Go.RowKit Go.Proofs.YtgglmibbbjallaaW.PrintWords Go.Proofs.Ytgglmibbbjallaa.Plain
set_option maxRecDepth 100000 in
theorem NetOwnL.calls (k0 : Nat) (a : Int) (A0 : Option Addr) (c0 : Nat) (l : List S38) (p0 p1 : Int) (A1 : Option Addr) (c1 : Nat) (pd : List Int) (a2 : Int) (r : Bool) (w : World) (hr0 : Kd.C k38 w A0 l.length l) (hc0 : l.length ≤ c0) (hr1 : Kd.C (Kd.int .u8) w A1 pd.length pd) (hc1 : pd.length ≤ c1)
    (h : okL l ∧ pd.length ≤ 140737488351232 ∧ r = true) :
    Calls Try.prog 4 #[.agg #[.int .i64 a, .slice A0 l.length c0], .agg #[.int .i64 p0, .int .i64 p1, .slice A1 pd.length c1], .int .i64 a2] w fun e w' => e = .returned (.bool r) ∧ Below w.heap.size w w' := by
  obtain ⟨hl, hp, rfl⟩ := h
  obtain ⟨K, hK⟩ := ev_top (of_ev a l hl) (ev_top (send_ev a l p0 p1 pd) (ev_top (refSend_ev a l hl p0 p1 pd) (ev_top (refTake_ev a l hl a2)
    (ev_top (same_ev (sendS a l p0 p1 pd).1 _ (send_short hl hp).1 (send_short hl hp).2) (ev_top (same_ev (takeS a l a2).1 _ (take_short hl).1 (take_short hl).2.1) (ev_top (samePacket_ev (takeS a l a2).2.2.1 (takeS a l a2).2.2.2.1 _ (take_short hl).2.2) alive_ok))))))
  obtain ⟨e1, e2, e3, e4, g1, g2, g3, g11⟩ := hK K (Nat.le_refl _)
  exact NetOwn.calls K a A0 c0 l p0 p1 A1 c1 pd a2 (l.map c) (sendS a l p0 p1 pd).1 _ _ _ _ (takeS a l a2).1 _ _ _ _ _ _ w hr0 hc0 hr1 hc1 g11 e1 (by unfold undercroftlaw04_one.f; rw [copy_ok pd hp]; rfl) e2 e3 (take_f a l a2) e4 g1 g2 g3
end Go.Proofs.Ytgglmibbbjallaa.T
namespace Go.Proofs.Ytgglmibbbjallaa.Pure
open Go.RowKit Go.Proofs.Ytgglmibbbjallaa.T Go.Proofs.Ytgglmibbbjallaa.Plain
theorem NetOwn (x : Int × List S38) (y : S38) (a2 : Int) (h : OkS x) (h1 : OkD (y.f0, y.f1, y.f2)) (_ : (Lit.int .i64 a2).wf = true) : ∃ k : Nat, okL x.2 ∧ y.f2.length ≤ 140737488351232 ∧ true = true :=
  ⟨0, okL_of h, by have := h1.2.2.2.1; simp only at this; omega, rfl⟩
end Go.Proofs.Ytgglmibbbjallaa.Pure
