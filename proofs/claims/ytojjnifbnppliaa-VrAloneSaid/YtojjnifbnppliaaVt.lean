/- VrAlone: the plain side and the walk. -/
import Derived.Test.YtojjnifbnppliaaVq
import Derived.Test.YtojjnifbnppliaaVw
namespace Go.Proofs.Ytojjnifbnppliaa.T
open Go.RowKit Go.Proofs.YtojjnifbnppliaaW.PrintWords Go.Proofs.YtojjnifbnppliaaW.PrintLast Go.Proofs.YtojjnifbnppliaaW.PrintMore
attribute [local go_sem] max2_int min2_int max_two min_two max_three min_three max_four min_four
set_option linter.unusedVariables false
set_option linter.unusedSimpArgs false
def alS (L : List (List Int)) : St := ⟨0, 1, 0, 0, 0, L, L.length, [(L.length : Int)], [], false, [], 0, 10, []⟩
theorem al_0 : new0 1 = alS [] := by kernel_rfl
theorem al_no (L : List (List Int)) (d : List Int) (h : 256 < d.length) : reqE (alS L) d = some 5 := by
  unfold reqE
  rw [if_pos (show leadsV (alS L).id (alS L).n (alS L).view (alS L).status = true from leads0), if_pos (by omega)]
theorem al_ok (L : List (List Int)) (d : List Int) (h : d.length ≤ 256) (hL : L.length ≤ 40) : reqE (alS L) d = none ∧ reqS (alS L) d = alS (L ++ [d]) := by
  constructor
  · unfold reqE
    rw [if_pos (show leadsV (alS L).id (alS L).n (alS L).view (alS L).status = true from leads0), if_neg (by omega), if_neg (by show ¬ (L.length : Int) ≥ 512; omega)]
  · have hm : (alS L).mat.set (alS L).id.toNat ((alS L).log.length + 1) = [((L ++ [d]).length : Int)] := by
      show [((L.length : Nat) : Int) + 1] = _
      simp
    have hc : agreeV (alS L).n [((L ++ [d]).length : Int)] ((alS L).log.length + 1) (alS L).commit = ((L ++ [d]).length : Int) := by
      show agreeF 1 [((L ++ [d]).length : Int)] ((L.length + 1 : Nat) : Int) (L.length + 1 + 1) (L.length : Int) = _
      have e : ((L ++ [d]).length : Int) = (L.length : Int) + 1 := by simp
      rw [e]
      unfold agreeF
      rw [if_pos ⟨by omega, by
        unfold mostV cnt geK
        simp⟩]
      unfold agreeF
      rw [if_neg (fun h => by have := h.1; omega)]
    unfold reqS
    rw [hm, hc]
    rfl
theorem al_chk (L : List (List Int)) (hL : L.length ≤ 40) (hx : ∀ x ∈ L, x.length ≤ 256) : Chk (alS L) := by
  have hl : leadsV 0 1 0 0 = true := leads0
  refine ⟨by simp [alS], by simp [alS], by simp [alS], by simp [alS], by simp [alS], .inr rfl, mayLogV_iff.2 ⟨by show L.length ≤ 512; omega, hx⟩, ⟨by show (0 : Int) ≤ (L.length : Int); omega, Int.le_refl _⟩, by simp [alS], by simp [alS], by simp [alS], .inr rfl, by kernel_rfl, by kernel_rfl, by kernel_rfl, ?_, by intro b hb; exact absurd hb (by show ¬ b ∈ ([] : List S69); simp)⟩
  intro x hx'
  have : x = (L.length : Int) := by simpa [alS] using hx'
  rw [this]
  unfold badN
  rw [Bool.not_eq_false', wi_iff]
  omega
/-- What a call of Step gives, its cells under a name. -/
def Rv (e : Int) (CS : Array Value) (AO : Option Addr) (cO : Nat) : Value := .tuple #[.agg CS, .slice AO 0 cO, .int .i64 e]
theorem Rv.inj {e : Int} {C1 C2 : Array Value} {A1 A2 : Option Addr} {n1 n2 : Nat} (h : Rv e C1 A1 n1 = Rv e C2 A2 n2) : C1 = C2 ∧ A1 = A2 ∧ n1 = n2 := by
  unfold Rv at h
  injection h with h
  have := congrArg Array.toList h
  simp at this
  exact ⟨this.1, this.2.1, this.2.2⟩
structure Stays (T : Array Value → World → (Nat → Prop) → Prop) : Prop where
  go : ∀ CS w w1 S S', T CS w S → Keeps w w1 S → (∀ i, S' i → S i ∨ w.heap.size ≤ i) → T CS w1 S'
def GA (W0 : World) (e : Int) (T : Array Value → World → (Nat → Prop) → Prop) (l : Nat → Bool) (u : Nat → Value) (wx : World) : Prop :=
  Below W0.heap.size W0 wx ∧
  (l 11 = true → ∃ g, u 7 = .pointer (some ⟨g, 0, none⟩) ∧ W0.heap.size ≤ g ∧ g < wx.heap.size ∧ (l 12 = false → wx.heap[g]? = some (.cells #[.int .i64 0, .int .i64 0, .int .i64 0, .int .i64 0, .int .i64 0, .slice none 0 0, .int .i64 0, .slice none 0 0, .slice none 0 0, .bool false, .slice none 0 0, .int .i64 0, .int .i64 0, .slice none 0 0] 29 (0, 0))) ∧ (l 12 = true → ∃ CS AO cO, u 36 = Rv e CS AO cO ∧ wx.heap[g]? = some (.cells CS 29 (0, 0)))) ∧
  (l 6 = true → ∃ CS AO cO, CS.size = 14 ∧ CS.all (·.oneCell') = true ∧ u 36 = Rv e CS AO cO ∧ T CS wx (fun k => k < W0.heap.size ∨ (l 11 = true ∧ u 7 = .pointer (some ⟨k, 0, none⟩))))
section
variable {W0 wx : World} {e : Int} {T : Array Value → World → (Nat → Prop) → Prop} {l : Nat → Bool} {u : Nat → Value}
theorem GA.upd {i : Nat} {n : Option Nat} {v : Value} (h6 : 6 ≠ i) (h11 : 11 ≠ i) (h12 : 12 ≠ i) (m7 : n ≠ some 7) (m36 : n ≠ some 36) (h : GA W0 e T l u wx) : GA W0 e T (fun j => l j || j == i) (updO u n v) wx := by
  have e7 : updO u n v 7 = u 7 := by
    cases n with
    | none => rfl
    | some n => exact upd_ne (fun e => m7 (by rw [e]))
  have e36 : updO u n v 36 = u 36 := by
    cases n with
    | none => rfl
    | some n => exact upd_ne (fun e => m36 (by rw [e]))
  unfold GA at h ⊢
  simp only [or_ne h6, or_ne h11, or_ne h12, e7, e36]
  exact h
theorem GA.call (hT : Stays T) {CS : Array Value} {AO : Option Addr} {cO : Nat} {w2 : World} (h : GA W0 e T l u wx) (hl12 : l 12 = false) (hs : CS.size = 14) (h1 : CS.all (·.oneCell') = true) (hb : Below wx.heap.size wx w2) (ht : T CS w2 (fun k => k < wx.heap.size)) : GA W0 e T (fun j => l j || j == 6) (updO u (some 36) (Rv e CS AO cO)) w2 := by
  obtain ⟨hB, hA, _⟩ := h
  have e7 : updO u (some 36) (Rv e CS AO cO) 7 = u 7 := upd_ne (by decide)
  have e36 : updO u (some 36) (Rv e CS AO cO) 36 = Rv e CS AO cO := upd_at
  unfold GA
  simp only [or_ne (show (11 : Nat) ≠ 6 by decide), or_ne (show (12 : Nat) ≠ 6 by decide), or_at, e7, e36]
  refine ⟨hB.trans (hb.mono hB.size), fun h11 => ?_, fun _ => ⟨CS, AO, cO, hs, h1, rfl, ?_⟩⟩
  · obtain ⟨g, g1, g2, g3, g4, _⟩ := hA h11
    exact ⟨g, g1, g2, Nat.lt_of_lt_of_le g3 hb.size, fun h => (hb.block g g3).trans (g4 h), fun h => absurd (hl12.symm.trans h) (by simp)⟩
  · refine hT.go _ _ _ _ _ ht (Keeps.refl _ _) (fun i hi => .inl ?_)
    rcases hi with hi | ⟨h11, hi⟩
    · exact Nat.lt_of_lt_of_le hi hB.size
    · obtain ⟨g, g1, g2, g3, _⟩ := hA h11
      rw [g1] at hi
      injection hi with hi
      injection hi with hi
      injection hi with hi
      show i < wx.heap.size
      rw [← hi]; exact g3
theorem GA.alloc (hT : Stays T) (h : GA W0 e T l u wx) (hl11 : l 11 = false) (hl12 : l 12 = false) : GA W0 e T (fun j => l j || j == 11) (updO u (some 7) (.pointer (some ⟨wx.heap.size, 0, none⟩))) (wx.alloc (.cells #[.int .i64 0, .int .i64 0, .int .i64 0, .int .i64 0, .int .i64 0, .slice none 0 0, .int .i64 0, .slice none 0 0, .slice none 0 0, .bool false, .slice none 0 0, .int .i64 0, .int .i64 0, .slice none 0 0] 29)) := by
  obtain ⟨hB, _, hC⟩ := h
  have e7 : updO u (some 7) (.pointer (some ⟨wx.heap.size, 0, none⟩)) 7 = .pointer (some ⟨wx.heap.size, 0, none⟩) := upd_at
  have e36 : updO u (some 7) (.pointer (some ⟨wx.heap.size, 0, none⟩)) 36 = u 36 := upd_ne (by decide)
  unfold GA
  simp only [or_ne (show (6 : Nat) ≠ 11 by decide), or_ne (show (12 : Nat) ≠ 11 by decide), or_at, e7, e36]
  refine ⟨below_alloc hB _, fun _ => ⟨_, rfl, hB.size, by simp, fun _ => heap_alloc_new _ _, fun h => absurd (hl12.symm.trans h) (by simp)⟩, fun h6 => ?_⟩
  obtain ⟨CS, AO, cO, c1, c2, c3, c4⟩ := hC h6
  refine ⟨CS, AO, cO, c1, c2, c3, hT.go _ _ _ _ _ c4 (Keeps.alloc (Keeps.refl _ _) _) (fun i hi => ?_)⟩
  rcases hi with hi | ⟨_, hi⟩
  · exact .inl (.inl hi)
  · injection hi with hi
    injection hi with hi
    injection hi with hi
    exact .inr (by rw [← hi]; exact Nat.le_refl _)
theorem GA.store (hT : Stays T) {g : Nat} {CS : Array Value} {AO : Option Addr} {cO : Nat} (h : GA W0 e T l u wx) (hl11 : l 11 = true) (hl6 : l 6 = true) (hl12 : l 12 = false) (hg : u 7 = .pointer (some ⟨g, 0, none⟩)) (h36 : u 36 = Rv e CS AO cO) : GA W0 e T (fun j => l j || j == 12) u (wx.setRow g CS) := by
  obtain ⟨hB, hA, hC⟩ := h
  obtain ⟨g', g1, g2, g3, g4, _⟩ := hA hl11
  have hgg : g' = g := by
    rw [hg] at g1
    injection g1 with g1
    injection g1 with g1
    injection g1 with g1
    exact g1.symm
  subst hgg
  unfold GA
  simp only [or_ne (show (6 : Nat) ≠ 12 by decide), or_ne (show (11 : Nat) ≠ 12 by decide), or_at]
  refine ⟨below_row hB g2 _, fun _ => ⟨g', hg, g2, by simpa using g3, fun h => absurd h (by simp), fun _ => ⟨CS, AO, cO, h36, setRow_heap _ _ _ _ _ _ (g4 hl12)⟩⟩, fun _ => ?_⟩
  obtain ⟨CS', AO', cO', c1, c2, c3, c4⟩ := hC hl6
  exact ⟨CS', AO', cO', c1, c2, c3, hT.go _ _ _ _ _ c4 (Keeps.row (g := g') (Keeps.refl _ _) (.inr ⟨hl11, hg⟩) _) (fun i hi => .inl hi)⟩
end
/-- What is known of the result: a state. -/
def TO (s : St) (CS : Array Value) (w : World) (S : Nat → Prop) : Prop := ∃ (AL : Option Addr) (cL : Nat) (AM : Option Addr) (cM : Nat) (AK : Option Addr) (cK : Nat) (AB : Option Addr) (cB : Nat) (AD : Option Addr) (cD : Nat), CS = #[.int .i64 s.id, .int .i64 s.n, .int .i64 s.view, .int .i64 s.last, .int .i64 s.status, .slice AL s.log.length cL, .int .i64 s.commit, .slice AM s.mat.length cM, .slice AK s.marks.length cK, .bool s.sent, .slice AB s.bals.length cB, .int .i64 s.elapsed, .int .i64 s.timeout, .slice AD s.draws.length cD] ∧ RdK w S s AL cL AM cM AK cK AB cB AD cD
theorem TO.stays (s : St) : Stays (TO s) := ⟨fun _ _ _ _ _ ⟨AL, cL, AM, cM, AK, cK, AB, cB, AD, cD, h1, h2⟩ hk hs => ⟨AL, cL, AM, cM, AK, cK, AB, cB, AD, cD, h1, h2.step hk hs⟩⟩
/-- An error: nothing. -/
def TE (_ : Array Value) (_ : World) (_ : Nat → Prop) : Prop := True
theorem TE.stays : Stays TE := ⟨fun _ _ _ _ _ _ _ _ => trivial⟩
def ALs (w0 wr : World) (g3 : Nat) (L : List (List Int)) : Prop := Below w0.heap.size w0 wr ∧ ∃ (AL : Option Addr) (cL : Nat) (AM : Option Addr) (cM : Nat) (AK : Option Addr) (cK : Nat) (AB : Option Addr) (cB : Nat) (AD : Option Addr) (cD : Nat), wr.heap[g3]? = some (.cells #[.int .i64 (alS L).id, .int .i64 (alS L).n, .int .i64 (alS L).view, .int .i64 (alS L).last, .int .i64 (alS L).status, .slice AL (alS L).log.length cL, .int .i64 (alS L).commit, .slice AM (alS L).mat.length cM, .slice AK (alS L).marks.length cK, .bool (alS L).sent, .slice AB (alS L).bals.length cB, .int .i64 (alS L).elapsed, .int .i64 (alS L).timeout, .slice AD (alS L).draws.length cD] 29 (0, 0)) ∧ RdK wr (fun k => k = g3) (alS L) AL cL AM cM AK cK AB cB AD cD
set_option maxHeartbeats 16000000 in
set_option maxRecDepth 100000 in
theorem VrAlone.calls (A1 : Option Addr) (c1 : Nat) (data : List (List Int)) (w : World) (h1 : Kd.C (Kd.slice 5 (Kd.int .u8)) w A1 data.length data) :
    Calls Try.prog 5 #[.slice A1 data.length c1] w fun e w' => e = .returned (.bool true) ∧ Below w.heap.size w w' := by
  have hu29 := Try.underlying29
  have hu39 := Try.underlying39
  have HD := Aside0.mk h1
  have hbig : data.length ≤ 9223372036854775807 := h1.2.1
  clear h1
  go_enter Try.func5, Try.ntmps5
  go_upto_region 4 with (first | (go_at_call 6; refine (alive.calls _).mono ?_; rintro e w1 ⟨rfl, hb⟩; have HB := Aside0.mk hb; clear hb) | (go_at_call 7; refine (New0.calls 1 (by decide) _).mono ?_; rintro e w2 ⟨AL1, cL1, AM1, cM1, AK1, cK1, AB1, cB1, AD1, cD1, rfl, hr, hb⟩; have HR := Aside0.mk hr; replace HB := Aside0.mk (HB.out.trans (hb.mono HB.out.size)); clear hr hb) | ((with_reducible refine gate_ (.store 29 (.tmp 3) (.tmp 14)) rfl ?_); refine wpList_store_row rfl 29 (.tmp 3) (.tmp 14) rfl w2.heap.size #[.int .i64 (new0 1).id, .int .i64 (new0 1).n, .int .i64 (new0 1).view, .int .i64 (new0 1).last, .int .i64 (new0 1).status, .slice AL1 (new0 1).log.length cL1, .int .i64 (new0 1).commit, .slice AM1 (new0 1).mat.length cM1, .slice AK1 (new0 1).marks.length cK1, .bool (new0 1).sent, .slice AB1 (new0 1).bals.length cB1, .int .i64 (new0 1).elapsed, .int .i64 (new0 1).timeout, .slice AD1 (new0 1).draws.length cD1] rfl rfl 29 #[.int .i64 0, .int .i64 0, .int .i64 0, .int .i64 0, .int .i64 0, .slice none 0 0, .int .i64 0, .slice none 0 0, .slice none 0 0, .bool false, .slice none 0 0, .int .i64 0, .int .i64 0, .slice none 0 0] (heap_alloc_new _ _) (by kernel_rfl) rfl (by kernel_rfl) ?_))
  have HB1S := Aside0.mk HB.out.size
  obtain ⟨k3, hb3⟩ := laid29 w2 #[.int .i64 (new0 1).id, .int .i64 (new0 1).n, .int .i64 (new0 1).view, .int .i64 (new0 1).last, .int .i64 (new0 1).status, .slice AL1 (new0 1).log.length cL1, .int .i64 (new0 1).commit, .slice AM1 (new0 1).mat.length cM1, .slice AK1 (new0 1).marks.length cK1, .bool (new0 1).sent, .slice AB1 (new0 1).bals.length cB1, .int .i64 (new0 1).elapsed, .int .i64 (new0 1).timeout, .slice AD1 (new0 1).draws.length cD1]
  have HRK : Aside0 (RdK ((w2.alloc (.cells #[.int .i64 0, .int .i64 0, .int .i64 0, .int .i64 0, .int .i64 0, .slice none 0 0, .int .i64 0, .slice none 0 0, .slice none 0 0, .bool false, .slice none 0 0, .int .i64 0, .int .i64 0, .slice none 0 0] 29)).setRow w2.heap.size #[.int .i64 (new0 1).id, .int .i64 (new0 1).n, .int .i64 (new0 1).view, .int .i64 (new0 1).last, .int .i64 (new0 1).status, .slice AL1 (new0 1).log.length cL1, .int .i64 (new0 1).commit, .slice AM1 (new0 1).mat.length cM1, .slice AK1 (new0 1).marks.length cK1, .bool (new0 1).sent, .slice AB1 (new0 1).bals.length cB1, .int .i64 (new0 1).elapsed, .int .i64 (new0 1).timeout, .slice AD1 (new0 1).draws.length cD1]) (fun k => k = w2.heap.size) (new0 1) AL1 cL1 AM1 cM1 AK1 cK1 AB1 cB1 AD1 cD1) := ⟨RdK.step (S := fun _ => False) (fun W hW => Rd.below HR.out (hW.to_below (Nat.le_refl _) (fun k hk => hk.elim))) (Keeps.of_belows hb3 _) (fun k hk => .inr (Nat.le_of_eq hk.symm))⟩
  have k3' := k3
  rw [al_0] at k3'
  have HRK2 := HRK.out
  rw [al_0] at HRK2
  have Z0 := Aside0.mk (show ALs w ((w2.alloc (.cells #[.int .i64 0, .int .i64 0, .int .i64 0, .int .i64 0, .int .i64 0, .slice none 0 0, .int .i64 0, .slice none 0 0, .slice none 0 0, .bool false, .slice none 0 0, .int .i64 0, .int .i64 0, .slice none 0 0] 29)).setRow w2.heap.size #[.int .i64 (new0 1).id, .int .i64 (new0 1).n, .int .i64 (new0 1).view, .int .i64 (new0 1).last, .int .i64 (new0 1).status, .slice AL1 (new0 1).log.length cL1, .int .i64 (new0 1).commit, .slice AM1 (new0 1).mat.length cM1, .slice AK1 (new0 1).marks.length cK1, .bool (new0 1).sent, .slice AB1 (new0 1).bals.length cB1, .int .i64 (new0 1).elapsed, .int .i64 (new0 1).timeout, .slice AD1 (new0 1).draws.length cD1]) w2.heap.size [] from ⟨HB.out.trans (hb3.mono HB.out.size), AL1, cL1, AM1, cM1, AK1, cK1, AB1, cB1, AD1, cD1, k3', HRK2⟩)
  clear k3 hb3 HRK HR HB k3' HRK2
  obtain ⟨g3, hg3⟩ : ∃ g, g = w2.heap.size := ⟨_, rfl⟩
  have HG3 := Aside0.mk (show w.heap.size ≤ g3 from by have := HB1S.out; omega)
  simp only [← hg3] at *
  clear hg3 HB1S
  generalize (w2.alloc (.cells #[.int .i64 0, .int .i64 0, .int .i64 0, .int .i64 0, .int .i64 0, .slice none 0 0, .int .i64 0, .slice none 0 0, .slice none 0 0, .bool false, .slice none 0 0, .int .i64 0, .int .i64 0, .slice none 0 0] 29)).setRow g3 #[.int .i64 (new0 1).id, .int .i64 (new0 1).n, .int .i64 (new0 1).view, .int .i64 (new0 1).last, .int .i64 (new0 1).status, .slice AL1 (new0 1).log.length cL1, .int .i64 (new0 1).commit, .slice AM1 (new0 1).mat.length cM1, .slice AK1 (new0 1).marks.length cK1, .bool (new0 1).sent, .slice AB1 (new0 1).bals.length cB1, .int .i64 (new0 1).elapsed, .int .i64 (new0 1).timeout, .slice AD1 (new0 1).draws.length cD1] = W2 at *
  go_wp2_with (go_at_call 9; refine (Num.calls _ _).mono ?_; rintro e w' ⟨rfl, rfl⟩)
  go_loopg [5, 6] (data.length + 1) (fun gg s5 s6 wr => ∃ (i n : Int) (L : List (List Int)), s6 = .int .i64 i ∧ s5 = .int .i64 n ∧ Aside0 (0 ≤ i ∧ i ≤ data.length ∧ data.length - i < gg) ∧ Aside0 (n = (L.length : Int) ∧ (L.length : Int) ≤ i ∧ (∀ x ∈ L, x.length ≤ 256) ∧ ALs w wr g3 L))
  case atStart => exact ⟨0, 0, [], rfl, rfl, ⟨by omega, by omega, by omega⟩, ⟨by simp, by simp, by simp, Z0.out⟩⟩
  case round =>
    obtain ⟨i, n, L, rfl, rfl, Z, ZL⟩ := hrel
    clear Z0
    obtain ⟨hnL, hLi, hLx, hB, AL3, cL3, AM3, cM3, AK3, cK3, AB3, cB3, AD3, cD3, k3, hrk⟩ := ZL.out
    by_cases hlt : i < data.length ∧ i < 40
    · have d1 : decide (i < (data.length : Int)) = true := decide_eq_true hlt.1
      have d2 : decide (i < 40) = true := decide_eq_true hlt.2
      obtain ⟨ad, Ai, ci, rfl, hxo, hci, hCi⟩ := at_L1 HD.out i Z.out.1 hlt.1
      obtain ⟨d, hd⟩ : ∃ d, d = rd_L1 data i := ⟨_, rfl⟩
      rw [← hd] at hxo hci hCi
      clear hd
      have XO := Aside0.mk ((hB.cell (World.block_lt_of_cell? _ _ hxo)).trans hxo)
      have XC := Aside0.mk (And.intro (Kd.C_below hCi hB) hci)
      have K3 := Aside0.mk k3
      have NL := Aside0.mk hnL
      have Y := Aside0.mk (And.intro hLi (And.intro hLx (And.intro hB (And.intro hrk hlt))))
      have p1 := eq_true Z.out.1
      have p2 := eq_true hlt.1
      have hwi : wrap64 (i + 1) = i + 1 := by have := Z.out.1; unfold wrap64; omega
      have HWI := Aside0.mk hwi
      clear hnL hLi hLx hB k3 hrk hlt ZL hxo hci hCi hwi
      go_wp2_with fail
      by_cases hlong : 256 < d.length
      · have E := Aside0.mk (al_no L d hlong)
        have dl : decide ((256 : Int) < (d.length : Int)) = true := decide_eq_true (by omega)
        clear hlong
        go_cut [7, 8, 9] (fun s7 s8 s9 wx => ∃ (g : Nat) (AO : Option Addr) (cO : Nat), s7 = .pointer (some ⟨g, 0, none⟩) ∧ s8 = .slice AO 0 cO ∧ s9 = .int .i64 5 ∧ Aside0 (∃ CS, Below wr.heap.size wr wx ∧ wr.heap.size ≤ g ∧ wx.heap[g]? = some (.cells CS 29 (0, 0)) ∧ TE CS wx (fun k => k < wr.heap.size ∨ k = g)))
        case first => as_aux_lemma =>
          refine region_tab1 (fun u => ⟨#[.slice (some ad) data.length c1, undef, u2, .pointer (some ⟨g3, 0, none⟩), .int .i64 0, .int .i64 n, .int .i64 i, u 7, u 8, u 9, .bool true, .bool false, .tuple #[.agg #[.int .i64 (new0 1).id, .int .i64 (new0 1).n, .int .i64 (new0 1).view, .int .i64 (new0 1).last, .int .i64 (new0 1).status, .slice AL1 (new0 1).log.length cL1, .int .i64 (new0 1).commit, .slice AM1 (new0 1).mat.length cM1, .slice AK1 (new0 1).marks.length cK1, .bool (new0 1).sent, .slice AB1 (new0 1).bals.length cB1, .int .i64 (new0 1).elapsed, .int .i64 (new0 1).timeout, .slice AD1 (new0 1).draws.length cD1], .int .i64 0], .tuple #[.agg #[.int .i64 (new0 1).id, .int .i64 (new0 1).n, .int .i64 (new0 1).view, .int .i64 (new0 1).last, .int .i64 (new0 1).status, .slice AL1 (new0 1).log.length cL1, .int .i64 (new0 1).commit, .slice AM1 (new0 1).mat.length cM1, .slice AK1 (new0 1).marks.length cK1, .bool (new0 1).sent, .slice AB1 (new0 1).bals.length cB1, .int .i64 (new0 1).elapsed, .int .i64 (new0 1).timeout, .slice AD1 (new0 1).draws.length cD1], .int .i64 0], .agg #[.int .i64 (new0 1).id, .int .i64 (new0 1).n, .int .i64 (new0 1).view, .int .i64 (new0 1).last, .int .i64 (new0 1).status, .slice AL1 (new0 1).log.length cL1, .int .i64 (new0 1).commit, .slice AM1 (new0 1).mat.length cM1, .slice AK1 (new0 1).marks.length cK1, .bool (new0 1).sent, .slice AB1 (new0 1).bals.length cB1, .int .i64 (new0 1).elapsed, .int .i64 (new0 1).timeout, .slice AD1 (new0 1).draws.length cD1], .int .i64 0, .int .i64 0, .int .i64 0, .bool false, .int .i64 i, .slice (some ad) data.length c1, .int .i64 (data.length : Int), .bool true, .bool true, .int .i64 i, .bool true, .bool true, u27, u28, u 29, u 30, u 31, u 32, u 33, u 34, u 35, u 36, u 37, u 38, u 39, u40, u41, u42, u43, u44, u45, u46, u47, u48, u49, u50, u51, u52, u53, u54, u55, u56, u57, u58, u59, u60, u61, u62, u63, u64, u65, u66, u67, u68, u69, u70, u71, u72, u73, u74, u75, u76, u77, u78, u79, u80, u81, u82, u83, u84, u85, u86], []⟩) (fun n => match n with | 29 => u29 | 30 => u30 | 31 => u31 | 32 => u32 | 33 => u33 | 34 => u34 | 35 => u35 | 36 => u36 | 37 => u37 | 38 => u38 | 39 => u39 | 7 => u7 | 8 => u8 | 9 => u9 | _ => undef) 6 36 (fun j a v => match j with | 0 => v = .agg #[.int .i64 (alS L).id, .int .i64 (alS L).n, .int .i64 (alS L).view, .int .i64 (alS L).last, .int .i64 (alS L).status, .slice AL3 (alS L).log.length cL3, .int .i64 (alS L).commit, .slice AM3 (alS L).mat.length cM3, .slice AK3 (alS L).marks.length cK3, .bool (alS L).sent, .slice AB3 (alS L).bals.length cB3, .int .i64 (alS L).elapsed, .int .i64 (alS L).timeout, .slice AD3 (alS L).draws.length cD3] | 1 => v = .slice (some ad) data.length c1 | 2 => v = .int .i64 i | 3 => v = .pointer (some (ad.add i.toNat)) | 4 => v = .slice Ai d.length ci | 5 => v = .agg #[.int .i64 3, .int .i64 0, .int .i64 0, .int .i64 0, .int .i64 0, .int .i64 0, .int .i64 0, .slice none 0 0, .int .i64 0, .int .i64 0, .slice Ai d.length ci] | 7 => v = a | 8 => ∀ CS AO cO, a = Rv 5 CS AO cO → v = .agg CS | 9 => ∀ CS AO cO, a = Rv 5 CS AO cO → v = .slice AO 0 cO | 10 => v = .int .i64 5 | 13 => ∀ CS AO cO, a = Rv 5 CS AO cO → v = .slice AO 0 cO | 14 => v = .int .i64 5 | _ => True) (fun l u wx => GA wr 5 TE l u wx) (by first | rfl | kernel_rfl) (by kernel_rfl) (by kernel_rfl) (by first | rfl | kernel_rfl) rfl ?tg0 ?tput ?tg ?thk ?tstep ?tdone
          case tg0 =>
            exact ⟨below_drew (Below.refl _ _), fun h => absurd h (by simp), fun h => absurd h (by simp)⟩
          case tput =>
            intro i o ho u v
            rcases i with _ | _ | _ | _ | _ | _ | _ | _ | _ | _ | _ | _ | _ | _ | _ | i
            all_goals first | (obtain rfl := Option.some.inj (show some _ = some o from ho); rfl) | exact absurd ho (by simp)
          case tg =>
            intro i o ho
            rcases i with _ | _ | _ | _ | _ | _ | _ | _ | _ | _ | _ | _ | _ | _ | _ | i
            all_goals first | (obtain rfl := Option.some.inj (show some _ = some o from ho); rfl) | exact absurd ho (by simp)
          case thk =>
            intro l hx j hj hjk hlj hlk a b v
            rcases j with _ | _ | _ | _ | _ | _ | _ | _ | _ | _ | _ | _ | _ | _ | _ | j
            · exact id
            · exact id
            · exact id
            · exact id
            · exact id
            · exact id
            · exact id
            · exact absurd ((hx 7 _ rfl hlj 6 (by decide)).symm.trans hlk) (by simp)
            · exact absurd ((hx 7 _ rfl (hx 8 _ rfl hlj 7 (by decide)) 6 (by decide)).symm.trans hlk) (by simp)
            · exact absurd ((hx 7 _ rfl (hx 9 _ rfl hlj 7 (by decide)) 6 (by decide)).symm.trans hlk) (by simp)
            · exact id
            · exact id
            · exact id
            · exact absurd ((hx 7 _ rfl (hx 9 _ rfl (hx 13 _ rfl hlj 9 (by decide)) 7 (by decide)) 6 (by decide)).symm.trans hlk) (by simp)
            · exact id
            · exact id
          case tstep =>
            intro l u wx i o hx hG hF ho hl hn
            rcases i with _ | _ | _ | _ | _ | _ | _ | _ | _ | _ | _ | _ | _ | _ | _ | i
            · obtain rfl := Option.some.inj (show some _ = some o from ho)
              have kx := blk_below K3.out hG.1
              have x0 : wx.cell? ⟨g3, 0, none⟩ = some (.int .i64 (alS L).id) := (blk_cell kx 0).trans rfl
              have x1 : wx.cell? ⟨g3, 1, none⟩ = some (.int .i64 (alS L).n) := (blk_cell kx 1).trans rfl
              have x2 : wx.cell? ⟨g3, 2, none⟩ = some (.int .i64 (alS L).view) := (blk_cell kx 2).trans rfl
              have x3 : wx.cell? ⟨g3, 3, none⟩ = some (.int .i64 (alS L).last) := (blk_cell kx 3).trans rfl
              have x4 : wx.cell? ⟨g3, 4, none⟩ = some (.int .i64 (alS L).status) := (blk_cell kx 4).trans rfl
              have x5 : wx.cell? ⟨g3, 5, none⟩ = some (.slice AL3 (alS L).log.length cL3) := (blk_cell kx 5).trans rfl
              have x6 : wx.cell? ⟨g3, 6, none⟩ = some (.int .i64 (alS L).commit) := (blk_cell kx 6).trans rfl
              have x7 : wx.cell? ⟨g3, 7, none⟩ = some (.slice AM3 (alS L).mat.length cM3) := (blk_cell kx 7).trans rfl
              have x8 : wx.cell? ⟨g3, 8, none⟩ = some (.slice AK3 (alS L).marks.length cK3) := (blk_cell kx 8).trans rfl
              have x9 : wx.cell? ⟨g3, 9, none⟩ = some (.bool (alS L).sent) := (blk_cell kx 9).trans rfl
              have x10 : wx.cell? ⟨g3, 10, none⟩ = some (.slice AB3 (alS L).bals.length cB3) := (blk_cell kx 10).trans rfl
              have x11 : wx.cell? ⟨g3, 11, none⟩ = some (.int .i64 (alS L).elapsed) := (blk_cell kx 11).trans rfl
              have x12 : wx.cell? ⟨g3, 12, none⟩ = some (.int .i64 (alS L).timeout) := (blk_cell kx 12).trans rfl
              have x13 : wx.cell? ⟨g3, 13, none⟩ = some (.slice AD3 (alS L).draws.length cD3) := (blk_cell kx 13).trans rfl
              refine wv_ (v := .agg #[.int .i64 (alS L).id, .int .i64 (alS L).n, .int .i64 (alS L).view, .int .i64 (alS L).last, .int .i64 (alS L).status, .slice AL3 (alS L).log.length cL3, .int .i64 (alS L).commit, .slice AM3 (alS L).mat.length cM3, .slice AK3 (alS L).marks.length cK3, .bool (alS L).sent, .slice AB3 (alS L).bals.length cB3, .int .i64 (alS L).elapsed, .int .i64 (alS L).timeout, .slice AD3 (alS L).draws.length cD3]) (by go_simp; with_reducible rfl) ?_
              exact ⟨_, rfl, rfl, GA.upd (by decide) (by decide) (by decide) (by decide) (by decide) hG⟩
            · obtain rfl := Option.some.inj (show some _ = some o from ho)
              refine wv_ (v := .slice (some ad) data.length c1) (by go_simp; with_reducible rfl) ?_
              exact ⟨_, rfl, rfl, GA.upd (by decide) (by decide) (by decide) (by decide) (by decide) hG⟩
            · obtain rfl := Option.some.inj (show some _ = some o from ho)
              refine wv_ (v := .int .i64 i) (by go_simp; with_reducible rfl) ?_
              exact ⟨_, rfl, rfl, GA.upd (by decide) (by decide) (by decide) (by decide) (by decide) hG⟩
            · obtain rfl := Option.some.inj (show some _ = some o from ho)
              have e31 : u 31 = _ := hF 1 (by decide) (hn 1 (by decide)) 31 rfl
              have e32 : u 32 = _ := hF 2 (by decide) (hn 2 (by decide)) 32 rfl
              refine wv_ (v := .pointer (some (ad.add i.toNat))) (by go_simp; with_reducible rfl) ?_
              exact ⟨_, rfl, rfl, GA.upd (by decide) (by decide) (by decide) (by decide) (by decide) hG⟩
            · obtain rfl := Option.some.inj (show some _ = some o from ho)
              have e33 : u 33 = _ := hF 3 (by decide) (hn 3 (by decide)) 33 rfl
              have yo := (hG.1.cell (World.block_lt_of_cell? _ _ XO.out)).trans XO.out
              refine wv_ (v := .slice Ai d.length ci) (by go_simp; with_reducible rfl) ?_
              exact ⟨_, rfl, rfl, GA.upd (by decide) (by decide) (by decide) (by decide) (by decide) hG⟩
            · obtain rfl := Option.some.inj (show some _ = some o from ho)
              have e34 : u 34 = _ := hF 4 (by decide) (hn 4 (by decide)) 34 rfl
              refine wv_ (v := .agg #[.int .i64 3, .int .i64 0, .int .i64 0, .int .i64 0, .int .i64 0, .int .i64 0, .int .i64 0, .slice none 0 0, .int .i64 0, .int .i64 0, .slice Ai d.length ci]) (by go_simp; with_reducible rfl) ?_
              exact ⟨_, rfl, rfl, GA.upd (by decide) (by decide) (by decide) (by decide) (by decide) hG⟩
            · obtain rfl := Option.some.inj (show some _ = some o from ho)
              have e30 : u 30 = _ := hF 0 (by decide) (hn 0 (by decide)) 30 rfl
              have e35 : u 35 = _ := hF 5 (by decide) (hn 5 (by decide)) 35 rfl
              have h7 : l 7 = false := Bool.eq_false_iff.2 (fun h => nomatch (hx 7 _ rfl h 6 (by decide)).symm.trans hl)
              have h8 : l 8 = false := Bool.eq_false_iff.2 (fun h => nomatch (hx 8 _ rfl h 7 (by decide)).symm.trans h7)
              have h12 : l 12 = false := Bool.eq_false_iff.2 (fun h => nomatch (hx 12 _ rfl h 8 (by decide)).symm.trans h8)
              refine wc_ Try.func8 (by kernel_rfl) rfl #[.agg #[.int .i64 (alS L).id, .int .i64 (alS L).n, .int .i64 (alS L).view, .int .i64 (alS L).last, .int .i64 (alS L).status, .slice AL3 (alS L).log.length cL3, .int .i64 (alS L).commit, .slice AM3 (alS L).mat.length cM3, .slice AK3 (alS L).marks.length cK3, .bool (alS L).sent, .slice AB3 (alS L).bals.length cB3, .int .i64 (alS L).elapsed, .int .i64 (alS L).timeout, .slice AD3 (alS L).draws.length cD3], .agg #[.int .i64 3, .int .i64 0, .int .i64 0, .int .i64 0, .int .i64 0, .int .i64 0, .int .i64 0, .slice none 0 0, .int .i64 0, .int .i64 0, .slice Ai d.length ci]] rfl (by simp only [List.map_toArray, List.map_cons, List.map_nil, Act.eval]; rw [← e30, ← e35]; rfl) ?_
              refine (Step3no.calls (alS L) AL3 cL3 AM3 cM3 AK3 cK3 AB3 cB3 AD3 cD3 zX none 0 Ai ci d 3 rfl 5 wx E.out (RdK.now (RdK.step Y.out.2.2.2.1 (Keeps.of_belows hG.1 _) (fun k hk => .inl hk))) (al_chk L (by have := Y.out.1; have := Y.out.2.2.2.2.2; omega) Y.out.2.1) rfl (Kd.C_below XC.out.1 hG.1)).mono ?_
              rintro e w3 ⟨rfl, hb⟩
              exact ⟨_, rfl, Rv 5 #[.int .i64 0, .int .i64 0, .int .i64 0, .int .i64 0, .int .i64 0, .slice none 0 0, .int .i64 0, .slice none 0 0, .slice none 0 0, .bool false, .slice none 0 0, .int .i64 0, .int .i64 0, .slice none 0 0] none 0, rfl, trivial, GA.call TE.stays hG h12 rfl (by kernel_rfl) hb trivial⟩
            · obtain rfl := Option.some.inj (show some _ = some o from ho)
              refine wv_ (v := u 36) (by go_simp; with_reducible rfl) ?_
              exact ⟨_, rfl, (upd_ne (by decide)).symm, GA.upd (by decide) (by decide) (by decide) (by decide) (by decide) hG⟩
            · obtain rfl := Option.some.inj (show some _ = some o from ho)
              obtain ⟨CS, AO, cO, cc1, cc2, cc3, _⟩ := hG.2.2 (hx 7 _ rfl (hn 7 (by decide)) 6 (by decide))
              have e29 : u 29 = .tuple #[.agg CS, .slice AO 0 cO, .int .i64 5] := (hF 7 (by decide) (hn 7 (by decide)) 29 rfl).trans cc3
              refine wv_ (v := .agg CS) (by go_simp; with_reducible rfl) ?_
              exact ⟨_, rfl, (fun CS' AO' cO' h => by have h2 : Rv 5 CS AO cO = Rv 5 CS' AO' cO' := cc3.symm.trans ((upd_ne (by decide)).symm.trans h); rw [(Rv.inj h2).1]), GA.upd (by decide) (by decide) (by decide) (by decide) (by decide) hG⟩
            · obtain rfl := Option.some.inj (show some _ = some o from ho)
              obtain ⟨CS, AO, cO, cc1, cc2, cc3, _⟩ := hG.2.2 (hx 7 _ rfl (hn 7 (by decide)) 6 (by decide))
              have e29 : u 29 = .tuple #[.agg CS, .slice AO 0 cO, .int .i64 5] := (hF 7 (by decide) (hn 7 (by decide)) 29 rfl).trans cc3
              refine wv_ (v := .slice AO 0 cO) (by go_simp; with_reducible rfl) ?_
              exact ⟨_, rfl, (fun CS' AO' cO' h => by have h2 : Rv 5 CS AO cO = Rv 5 CS' AO' cO' := cc3.symm.trans ((upd_ne (by decide)).symm.trans h); rw [(Rv.inj h2).2.1, (Rv.inj h2).2.2]), GA.upd (by decide) (by decide) (by decide) (by decide) (by decide) hG⟩
            · obtain rfl := Option.some.inj (show some _ = some o from ho)
              obtain ⟨CS, AO, cO, cc1, cc2, cc3, _⟩ := hG.2.2 (hx 7 _ rfl (hn 7 (by decide)) 6 (by decide))
              have e29 : u 29 = .tuple #[.agg CS, .slice AO 0 cO, .int .i64 5] := (hF 7 (by decide) (hn 7 (by decide)) 29 rfl).trans cc3
              refine wv_ (v := .int .i64 5) (by go_simp; with_reducible rfl) ?_
              exact ⟨_, rfl, rfl, GA.upd (by decide) (by decide) (by decide) (by decide) (by decide) hG⟩
            · obtain rfl := Option.some.inj (show some _ = some o from ho)
              have h12 : l 12 = false := Bool.eq_false_iff.2 (fun h => nomatch (hx 12 _ rfl h 11 (by decide)).symm.trans hl)
              refine wv_ (v := .pointer (some ⟨wx.heap.size, 0, none⟩)) (w1 := wx.alloc (.cells #[.int .i64 0, .int .i64 0, .int .i64 0, .int .i64 0, .int .i64 0, .slice none 0 0, .int .i64 0, .slice none 0 0, .slice none 0 0, .bool false, .slice none 0 0, .int .i64 0, .int .i64 0, .slice none 0 0] 29)) (by first | (go_simp; done) | (go_simp; with_reducible rfl)) ?_
              exact ⟨_, rfl, trivial, GA.alloc TE.stays hG hl h12⟩
            · obtain rfl := Option.some.inj (show some _ = some o from ho)
              have h11 := hn 11 (by decide)
              have h8 := hn 8 (by decide)
              have h7 := hx 8 _ rfl h8 7 (by decide)
              have h6 := hx 7 _ rfl h7 6 (by decide)
              obtain ⟨CS, AO, cO, cc1, cc2, cc3, _⟩ := hG.2.2 h6
              obtain ⟨g, g1, g2, g3', g4, _⟩ := hG.2.1 h11
              have e37 : u 37 = .agg CS := hF 8 (by decide) h8 37 rfl CS AO cO cc3
              refine wp_store_row 29 (.tmp 7) (.tmp 37) rfl g CS g1 e37 29 _ (g4 hl) (by rw [cc1]; kernel_rfl) cc1.symm cc2 ?_
              exact ⟨undef, rfl, trivial, GA.store TE.stays hG h11 h6 hl g1 cc3⟩
            · obtain rfl := Option.some.inj (show some _ = some o from ho)
              obtain ⟨CS, AO, cO, cc1, cc2, cc3, _⟩ := hG.2.2 (hx 7 _ rfl (hx 9 _ rfl (hn 9 (by decide)) 7 (by decide)) 6 (by decide))
              have e38 : u 38 = .slice AO 0 cO := hF 9 (by decide) (hn 9 (by decide)) 38 rfl CS AO cO cc3
              refine wv_ (v := .slice AO 0 cO) (by go_simp; with_reducible rfl) ?_
              exact ⟨_, rfl, (fun CS' AO' cO' h => by have h2 : Rv 5 CS AO cO = Rv 5 CS' AO' cO' := cc3.symm.trans ((upd_ne (by decide)).symm.trans h); rw [(Rv.inj h2).2.1, (Rv.inj h2).2.2]), GA.upd (by decide) (by decide) (by decide) (by decide) (by decide) hG⟩
            · obtain rfl := Option.some.inj (show some _ = some o from ho)
              have e39 : u 39 = _ := hF 10 (by decide) (hn 10 (by decide)) 39 rfl
              refine wv_ (v := .int .i64 5) (by go_simp; with_reducible rfl) ?_
              exact ⟨_, rfl, rfl, GA.upd (by decide) (by decide) (by decide) (by decide) (by decide) hG⟩
            · exact absurd ho (by simp)
          case tdone =>
            intro l u wx hall hG hF
            dsimp only
            obtain ⟨CS, AO, cO, cc1, cc2, cc3, cc4⟩ := hG.2.2 (hall 6 (by decide))
            obtain ⟨g, g1, g2, g3', _, g5⟩ := hG.2.1 (hall 11 (by decide))
            obtain ⟨CS', AO', cO', q1, q2⟩ := g5 (hall 12 (by decide))
            obtain ⟨rfl, rfl, rfl⟩ := Rv.inj (cc3.symm.trans q1)
            have DN := Aside0.mk (And.intro g1 (And.intro (hF 13 (by decide) 8 rfl CS AO cO cc3) (hF 14 (by decide) 9 rfl)))
            have DM := Aside0.mk (And.intro hG.1 (And.intro g2 (And.intro q2 (TE.stays.go _ _ _ _ (fun k => k < wr.heap.size ∨ k = g) cc4 (Keeps.refl _ _) (fun k hk => .inl (hk.elim .inl (fun e => .inr ⟨hall 11 (by decide), by rw [g1, e]⟩)))))))
            clear g1 hG hF hall q1 q2 cc3 cc4
            go_wp2_with fail
            go_meet
            case rel => exact ⟨g, AO, cO, DN.out.1, DN.out.2.1, DN.out.2.2, ⟨CS, DM.out⟩⟩
        case rest => as_aux_lemma =>
          obtain ⟨g7, AO, cO, rfl, rfl, rfl, ZC⟩ := hcut
          obtain ⟨CSx, hBx, _⟩ := ZC.out
          have yo := (hBx.cell (World.block_lt_of_cell? _ _ XO.out)).trans XO.out
          have ZN := Aside0.mk (show ALs w wc g3 L from ⟨Y.out.2.2.1.trans (hBx.mono Y.out.2.2.1.size), AL3, cL3, AM3, cM3, AK3, cK3, AB3, cB3, AD3, cD3, blk_below K3.out hBx, RdK.step Y.out.2.2.2.1 (Keeps.of_belows hBx _) (fun k hk => .inl hk)⟩)
          clear hBx
          go_wp2_with (go_at_call 9; refine (Num.calls _ _).mono ?_; rintro e w' ⟨rfl, rfl⟩)
          rw [HWI.out]
          obtain ⟨gg, rfl⟩ : ∃ m, gk = m + 1 := ⟨gk - 1, by have := Z.out; have := Y.out.2.2.2.2; omega⟩
          go_roundg gg
          case measure => omega
          case rel => exact ⟨i + 1, n, L, rfl, rfl, ⟨by have := Z.out; omega, by have := Y.out.2.2.2.2; omega, by have := Z.out; have := Y.out.2.2.2.2; omega⟩, ⟨NL.out, by have := Y.out.1; omega, Y.out.2.1, ZN.out⟩⟩
      · have hd256 : d.length ≤ 256 := by omega
        have E := Aside0.mk (al_ok L d hd256 (by have := Y.out.1; have := Y.out.2.2.2.2.2; omega))
        have HD256 := Aside0.mk hd256
        obtain ⟨L2, hL2⟩ : ∃ L2, L2 = L ++ [d] := ⟨_, rfl⟩
        rw [← hL2] at E
        have HL2 := Aside0.mk hL2
        clear hL2
        have dl : decide ((256 : Int) < (d.length : Int)) = false := decide_eq_false (by omega)
        clear hlong hd256
        go_cut [7, 8, 9] (fun s7 s8 s9 wx => ∃ (g : Nat) (AO : Option Addr) (cO : Nat), s7 = .pointer (some ⟨g, 0, none⟩) ∧ s8 = .slice AO 0 cO ∧ s9 = .int .i64 0 ∧ Aside0 (∃ CS, Below wr.heap.size wr wx ∧ wr.heap.size ≤ g ∧ wx.heap[g]? = some (.cells CS 29 (0, 0)) ∧ (TO (alS L2)) CS wx (fun k => k < wr.heap.size ∨ k = g)))
        case first => as_aux_lemma =>
          refine region_tab1 (fun u => ⟨#[.slice (some ad) data.length c1, undef, u2, .pointer (some ⟨g3, 0, none⟩), .int .i64 0, .int .i64 n, .int .i64 i, u 7, u 8, u 9, .bool true, .bool false, .tuple #[.agg #[.int .i64 (new0 1).id, .int .i64 (new0 1).n, .int .i64 (new0 1).view, .int .i64 (new0 1).last, .int .i64 (new0 1).status, .slice AL1 (new0 1).log.length cL1, .int .i64 (new0 1).commit, .slice AM1 (new0 1).mat.length cM1, .slice AK1 (new0 1).marks.length cK1, .bool (new0 1).sent, .slice AB1 (new0 1).bals.length cB1, .int .i64 (new0 1).elapsed, .int .i64 (new0 1).timeout, .slice AD1 (new0 1).draws.length cD1], .int .i64 0], .tuple #[.agg #[.int .i64 (new0 1).id, .int .i64 (new0 1).n, .int .i64 (new0 1).view, .int .i64 (new0 1).last, .int .i64 (new0 1).status, .slice AL1 (new0 1).log.length cL1, .int .i64 (new0 1).commit, .slice AM1 (new0 1).mat.length cM1, .slice AK1 (new0 1).marks.length cK1, .bool (new0 1).sent, .slice AB1 (new0 1).bals.length cB1, .int .i64 (new0 1).elapsed, .int .i64 (new0 1).timeout, .slice AD1 (new0 1).draws.length cD1], .int .i64 0], .agg #[.int .i64 (new0 1).id, .int .i64 (new0 1).n, .int .i64 (new0 1).view, .int .i64 (new0 1).last, .int .i64 (new0 1).status, .slice AL1 (new0 1).log.length cL1, .int .i64 (new0 1).commit, .slice AM1 (new0 1).mat.length cM1, .slice AK1 (new0 1).marks.length cK1, .bool (new0 1).sent, .slice AB1 (new0 1).bals.length cB1, .int .i64 (new0 1).elapsed, .int .i64 (new0 1).timeout, .slice AD1 (new0 1).draws.length cD1], .int .i64 0, .int .i64 0, .int .i64 0, .bool false, .int .i64 i, .slice (some ad) data.length c1, .int .i64 (data.length : Int), .bool true, .bool true, .int .i64 i, .bool true, .bool true, u27, u28, u 29, u 30, u 31, u 32, u 33, u 34, u 35, u 36, u 37, u 38, u 39, u40, u41, u42, u43, u44, u45, u46, u47, u48, u49, u50, u51, u52, u53, u54, u55, u56, u57, u58, u59, u60, u61, u62, u63, u64, u65, u66, u67, u68, u69, u70, u71, u72, u73, u74, u75, u76, u77, u78, u79, u80, u81, u82, u83, u84, u85, u86], []⟩) (fun n => match n with | 29 => u29 | 30 => u30 | 31 => u31 | 32 => u32 | 33 => u33 | 34 => u34 | 35 => u35 | 36 => u36 | 37 => u37 | 38 => u38 | 39 => u39 | 7 => u7 | 8 => u8 | 9 => u9 | _ => undef) 6 36 (fun j a v => match j with | 0 => v = .agg #[.int .i64 (alS L).id, .int .i64 (alS L).n, .int .i64 (alS L).view, .int .i64 (alS L).last, .int .i64 (alS L).status, .slice AL3 (alS L).log.length cL3, .int .i64 (alS L).commit, .slice AM3 (alS L).mat.length cM3, .slice AK3 (alS L).marks.length cK3, .bool (alS L).sent, .slice AB3 (alS L).bals.length cB3, .int .i64 (alS L).elapsed, .int .i64 (alS L).timeout, .slice AD3 (alS L).draws.length cD3] | 1 => v = .slice (some ad) data.length c1 | 2 => v = .int .i64 i | 3 => v = .pointer (some (ad.add i.toNat)) | 4 => v = .slice Ai d.length ci | 5 => v = .agg #[.int .i64 3, .int .i64 0, .int .i64 0, .int .i64 0, .int .i64 0, .int .i64 0, .int .i64 0, .slice none 0 0, .int .i64 0, .int .i64 0, .slice Ai d.length ci] | 7 => v = a | 8 => ∀ CS AO cO, a = Rv 0 CS AO cO → v = .agg CS | 9 => ∀ CS AO cO, a = Rv 0 CS AO cO → v = .slice AO 0 cO | 10 => v = .int .i64 0 | 13 => ∀ CS AO cO, a = Rv 0 CS AO cO → v = .slice AO 0 cO | 14 => v = .int .i64 0 | _ => True) (fun l u wx => GA wr 0 (TO (alS L2)) l u wx) (by first | rfl | kernel_rfl) (by kernel_rfl) (by kernel_rfl) (by first | rfl | kernel_rfl) rfl ?tg0 ?tput ?tg ?thk ?tstep ?tdone
          case tg0 =>
            exact ⟨below_drew (Below.refl _ _), fun h => absurd h (by simp), fun h => absurd h (by simp)⟩
          case tput =>
            intro i o ho u v
            rcases i with _ | _ | _ | _ | _ | _ | _ | _ | _ | _ | _ | _ | _ | _ | _ | i
            all_goals first | (obtain rfl := Option.some.inj (show some _ = some o from ho); rfl) | exact absurd ho (by simp)
          case tg =>
            intro i o ho
            rcases i with _ | _ | _ | _ | _ | _ | _ | _ | _ | _ | _ | _ | _ | _ | _ | i
            all_goals first | (obtain rfl := Option.some.inj (show some _ = some o from ho); rfl) | exact absurd ho (by simp)
          case thk =>
            intro l hx j hj hjk hlj hlk a b v
            rcases j with _ | _ | _ | _ | _ | _ | _ | _ | _ | _ | _ | _ | _ | _ | _ | j
            · exact id
            · exact id
            · exact id
            · exact id
            · exact id
            · exact id
            · exact id
            · exact absurd ((hx 7 _ rfl hlj 6 (by decide)).symm.trans hlk) (by simp)
            · exact absurd ((hx 7 _ rfl (hx 8 _ rfl hlj 7 (by decide)) 6 (by decide)).symm.trans hlk) (by simp)
            · exact absurd ((hx 7 _ rfl (hx 9 _ rfl hlj 7 (by decide)) 6 (by decide)).symm.trans hlk) (by simp)
            · exact id
            · exact id
            · exact id
            · exact absurd ((hx 7 _ rfl (hx 9 _ rfl (hx 13 _ rfl hlj 9 (by decide)) 7 (by decide)) 6 (by decide)).symm.trans hlk) (by simp)
            · exact id
            · exact id
          case tstep =>
            intro l u wx i o hx hG hF ho hl hn
            rcases i with _ | _ | _ | _ | _ | _ | _ | _ | _ | _ | _ | _ | _ | _ | _ | i
            · obtain rfl := Option.some.inj (show some _ = some o from ho)
              have kx := blk_below K3.out hG.1
              have x0 : wx.cell? ⟨g3, 0, none⟩ = some (.int .i64 (alS L).id) := (blk_cell kx 0).trans rfl
              have x1 : wx.cell? ⟨g3, 1, none⟩ = some (.int .i64 (alS L).n) := (blk_cell kx 1).trans rfl
              have x2 : wx.cell? ⟨g3, 2, none⟩ = some (.int .i64 (alS L).view) := (blk_cell kx 2).trans rfl
              have x3 : wx.cell? ⟨g3, 3, none⟩ = some (.int .i64 (alS L).last) := (blk_cell kx 3).trans rfl
              have x4 : wx.cell? ⟨g3, 4, none⟩ = some (.int .i64 (alS L).status) := (blk_cell kx 4).trans rfl
              have x5 : wx.cell? ⟨g3, 5, none⟩ = some (.slice AL3 (alS L).log.length cL3) := (blk_cell kx 5).trans rfl
              have x6 : wx.cell? ⟨g3, 6, none⟩ = some (.int .i64 (alS L).commit) := (blk_cell kx 6).trans rfl
              have x7 : wx.cell? ⟨g3, 7, none⟩ = some (.slice AM3 (alS L).mat.length cM3) := (blk_cell kx 7).trans rfl
              have x8 : wx.cell? ⟨g3, 8, none⟩ = some (.slice AK3 (alS L).marks.length cK3) := (blk_cell kx 8).trans rfl
              have x9 : wx.cell? ⟨g3, 9, none⟩ = some (.bool (alS L).sent) := (blk_cell kx 9).trans rfl
              have x10 : wx.cell? ⟨g3, 10, none⟩ = some (.slice AB3 (alS L).bals.length cB3) := (blk_cell kx 10).trans rfl
              have x11 : wx.cell? ⟨g3, 11, none⟩ = some (.int .i64 (alS L).elapsed) := (blk_cell kx 11).trans rfl
              have x12 : wx.cell? ⟨g3, 12, none⟩ = some (.int .i64 (alS L).timeout) := (blk_cell kx 12).trans rfl
              have x13 : wx.cell? ⟨g3, 13, none⟩ = some (.slice AD3 (alS L).draws.length cD3) := (blk_cell kx 13).trans rfl
              refine wv_ (v := .agg #[.int .i64 (alS L).id, .int .i64 (alS L).n, .int .i64 (alS L).view, .int .i64 (alS L).last, .int .i64 (alS L).status, .slice AL3 (alS L).log.length cL3, .int .i64 (alS L).commit, .slice AM3 (alS L).mat.length cM3, .slice AK3 (alS L).marks.length cK3, .bool (alS L).sent, .slice AB3 (alS L).bals.length cB3, .int .i64 (alS L).elapsed, .int .i64 (alS L).timeout, .slice AD3 (alS L).draws.length cD3]) (by go_simp; with_reducible rfl) ?_
              exact ⟨_, rfl, rfl, GA.upd (by decide) (by decide) (by decide) (by decide) (by decide) hG⟩
            · obtain rfl := Option.some.inj (show some _ = some o from ho)
              refine wv_ (v := .slice (some ad) data.length c1) (by go_simp; with_reducible rfl) ?_
              exact ⟨_, rfl, rfl, GA.upd (by decide) (by decide) (by decide) (by decide) (by decide) hG⟩
            · obtain rfl := Option.some.inj (show some _ = some o from ho)
              refine wv_ (v := .int .i64 i) (by go_simp; with_reducible rfl) ?_
              exact ⟨_, rfl, rfl, GA.upd (by decide) (by decide) (by decide) (by decide) (by decide) hG⟩
            · obtain rfl := Option.some.inj (show some _ = some o from ho)
              have e31 : u 31 = _ := hF 1 (by decide) (hn 1 (by decide)) 31 rfl
              have e32 : u 32 = _ := hF 2 (by decide) (hn 2 (by decide)) 32 rfl
              refine wv_ (v := .pointer (some (ad.add i.toNat))) (by go_simp; with_reducible rfl) ?_
              exact ⟨_, rfl, rfl, GA.upd (by decide) (by decide) (by decide) (by decide) (by decide) hG⟩
            · obtain rfl := Option.some.inj (show some _ = some o from ho)
              have e33 : u 33 = _ := hF 3 (by decide) (hn 3 (by decide)) 33 rfl
              have yo := (hG.1.cell (World.block_lt_of_cell? _ _ XO.out)).trans XO.out
              refine wv_ (v := .slice Ai d.length ci) (by go_simp; with_reducible rfl) ?_
              exact ⟨_, rfl, rfl, GA.upd (by decide) (by decide) (by decide) (by decide) (by decide) hG⟩
            · obtain rfl := Option.some.inj (show some _ = some o from ho)
              have e34 : u 34 = _ := hF 4 (by decide) (hn 4 (by decide)) 34 rfl
              refine wv_ (v := .agg #[.int .i64 3, .int .i64 0, .int .i64 0, .int .i64 0, .int .i64 0, .int .i64 0, .int .i64 0, .slice none 0 0, .int .i64 0, .int .i64 0, .slice Ai d.length ci]) (by go_simp; with_reducible rfl) ?_
              exact ⟨_, rfl, rfl, GA.upd (by decide) (by decide) (by decide) (by decide) (by decide) hG⟩
            · obtain rfl := Option.some.inj (show some _ = some o from ho)
              have e30 : u 30 = _ := hF 0 (by decide) (hn 0 (by decide)) 30 rfl
              have e35 : u 35 = _ := hF 5 (by decide) (hn 5 (by decide)) 35 rfl
              have h7 : l 7 = false := Bool.eq_false_iff.2 (fun h => nomatch (hx 7 _ rfl h 6 (by decide)).symm.trans hl)
              have h8 : l 8 = false := Bool.eq_false_iff.2 (fun h => nomatch (hx 8 _ rfl h 7 (by decide)).symm.trans h7)
              have h12 : l 12 = false := Bool.eq_false_iff.2 (fun h => nomatch (hx 12 _ rfl h 8 (by decide)).symm.trans h8)
              refine wc_ Try.func8 (by kernel_rfl) rfl #[.agg #[.int .i64 (alS L).id, .int .i64 (alS L).n, .int .i64 (alS L).view, .int .i64 (alS L).last, .int .i64 (alS L).status, .slice AL3 (alS L).log.length cL3, .int .i64 (alS L).commit, .slice AM3 (alS L).mat.length cM3, .slice AK3 (alS L).marks.length cK3, .bool (alS L).sent, .slice AB3 (alS L).bals.length cB3, .int .i64 (alS L).elapsed, .int .i64 (alS L).timeout, .slice AD3 (alS L).draws.length cD3], .agg #[.int .i64 3, .int .i64 0, .int .i64 0, .int .i64 0, .int .i64 0, .int .i64 0, .int .i64 0, .slice none 0 0, .int .i64 0, .int .i64 0, .slice Ai d.length ci]] rfl (by simp only [List.map_toArray, List.map_cons, List.map_nil, Act.eval]; rw [← e30, ← e35]; rfl) ?_
              refine (Step3ok.calls (alS L) (alS L2) AL3 cL3 AM3 cM3 AK3 cK3 AB3 cB3 AD3 cD3 zX none 0 Ai ci d 3 rfl wx E.out.1 E.out.2 (RdK.now (RdK.step Y.out.2.2.2.1 (Keeps.of_belows hG.1 _) (fun k hk => .inl hk))) (al_chk L (by have := Y.out.1; have := Y.out.2.2.2.2.2; omega) Y.out.2.1) rfl (Kd.C_below XC.out.1 hG.1)).mono ?_
              rintro e w3 ⟨AL4, cL4, AM4, cM4, AK4, cK4, AB4, cB4, AD4, cD4, AO4, cO4, rfl, hr, hb⟩
              exact ⟨_, rfl, Rv 0 #[.int .i64 (alS L2).id, .int .i64 (alS L2).n, .int .i64 (alS L2).view, .int .i64 (alS L2).last, .int .i64 (alS L2).status, .slice AL4 (alS L2).log.length cL4, .int .i64 (alS L2).commit, .slice AM4 (alS L2).mat.length cM4, .slice AK4 (alS L2).marks.length cK4, .bool (alS L2).sent, .slice AB4 (alS L2).bals.length cB4, .int .i64 (alS L2).elapsed, .int .i64 (alS L2).timeout, .slice AD4 (alS L2).draws.length cD4] AO4 cO4, rfl, trivial, GA.call (TO.stays _) hG h12 rfl (by kernel_rfl) hb ⟨AL4, cL4, AM4, cM4, AK4, cK4, AB4, cB4, AD4, cD4, rfl, hr⟩⟩
            · obtain rfl := Option.some.inj (show some _ = some o from ho)
              refine wv_ (v := u 36) (by go_simp; with_reducible rfl) ?_
              exact ⟨_, rfl, (upd_ne (by decide)).symm, GA.upd (by decide) (by decide) (by decide) (by decide) (by decide) hG⟩
            · obtain rfl := Option.some.inj (show some _ = some o from ho)
              obtain ⟨CS, AO, cO, cc1, cc2, cc3, _⟩ := hG.2.2 (hx 7 _ rfl (hn 7 (by decide)) 6 (by decide))
              have e29 : u 29 = .tuple #[.agg CS, .slice AO 0 cO, .int .i64 0] := (hF 7 (by decide) (hn 7 (by decide)) 29 rfl).trans cc3
              refine wv_ (v := .agg CS) (by go_simp; with_reducible rfl) ?_
              exact ⟨_, rfl, (fun CS' AO' cO' h => by have h2 : Rv 0 CS AO cO = Rv 0 CS' AO' cO' := cc3.symm.trans ((upd_ne (by decide)).symm.trans h); rw [(Rv.inj h2).1]), GA.upd (by decide) (by decide) (by decide) (by decide) (by decide) hG⟩
            · obtain rfl := Option.some.inj (show some _ = some o from ho)
              obtain ⟨CS, AO, cO, cc1, cc2, cc3, _⟩ := hG.2.2 (hx 7 _ rfl (hn 7 (by decide)) 6 (by decide))
              have e29 : u 29 = .tuple #[.agg CS, .slice AO 0 cO, .int .i64 0] := (hF 7 (by decide) (hn 7 (by decide)) 29 rfl).trans cc3
              refine wv_ (v := .slice AO 0 cO) (by go_simp; with_reducible rfl) ?_
              exact ⟨_, rfl, (fun CS' AO' cO' h => by have h2 : Rv 0 CS AO cO = Rv 0 CS' AO' cO' := cc3.symm.trans ((upd_ne (by decide)).symm.trans h); rw [(Rv.inj h2).2.1, (Rv.inj h2).2.2]), GA.upd (by decide) (by decide) (by decide) (by decide) (by decide) hG⟩
            · obtain rfl := Option.some.inj (show some _ = some o from ho)
              obtain ⟨CS, AO, cO, cc1, cc2, cc3, _⟩ := hG.2.2 (hx 7 _ rfl (hn 7 (by decide)) 6 (by decide))
              have e29 : u 29 = .tuple #[.agg CS, .slice AO 0 cO, .int .i64 0] := (hF 7 (by decide) (hn 7 (by decide)) 29 rfl).trans cc3
              refine wv_ (v := .int .i64 0) (by go_simp; with_reducible rfl) ?_
              exact ⟨_, rfl, rfl, GA.upd (by decide) (by decide) (by decide) (by decide) (by decide) hG⟩
            · obtain rfl := Option.some.inj (show some _ = some o from ho)
              have h12 : l 12 = false := Bool.eq_false_iff.2 (fun h => nomatch (hx 12 _ rfl h 11 (by decide)).symm.trans hl)
              refine wv_ (v := .pointer (some ⟨wx.heap.size, 0, none⟩)) (w1 := wx.alloc (.cells #[.int .i64 0, .int .i64 0, .int .i64 0, .int .i64 0, .int .i64 0, .slice none 0 0, .int .i64 0, .slice none 0 0, .slice none 0 0, .bool false, .slice none 0 0, .int .i64 0, .int .i64 0, .slice none 0 0] 29)) (by first | (go_simp; done) | (go_simp; with_reducible rfl)) ?_
              exact ⟨_, rfl, trivial, GA.alloc (TO.stays (alS L2)) hG hl h12⟩
            · obtain rfl := Option.some.inj (show some _ = some o from ho)
              have h11 := hn 11 (by decide)
              have h8 := hn 8 (by decide)
              have h7 := hx 8 _ rfl h8 7 (by decide)
              have h6 := hx 7 _ rfl h7 6 (by decide)
              obtain ⟨CS, AO, cO, cc1, cc2, cc3, _⟩ := hG.2.2 h6
              obtain ⟨g, g1, g2, g3', g4, _⟩ := hG.2.1 h11
              have e37 : u 37 = .agg CS := hF 8 (by decide) h8 37 rfl CS AO cO cc3
              refine wp_store_row 29 (.tmp 7) (.tmp 37) rfl g CS g1 e37 29 _ (g4 hl) (by rw [cc1]; kernel_rfl) cc1.symm cc2 ?_
              exact ⟨undef, rfl, trivial, GA.store (TO.stays (alS L2)) hG h11 h6 hl g1 cc3⟩
            · obtain rfl := Option.some.inj (show some _ = some o from ho)
              obtain ⟨CS, AO, cO, cc1, cc2, cc3, _⟩ := hG.2.2 (hx 7 _ rfl (hx 9 _ rfl (hn 9 (by decide)) 7 (by decide)) 6 (by decide))
              have e38 : u 38 = .slice AO 0 cO := hF 9 (by decide) (hn 9 (by decide)) 38 rfl CS AO cO cc3
              refine wv_ (v := .slice AO 0 cO) (by go_simp; with_reducible rfl) ?_
              exact ⟨_, rfl, (fun CS' AO' cO' h => by have h2 : Rv 0 CS AO cO = Rv 0 CS' AO' cO' := cc3.symm.trans ((upd_ne (by decide)).symm.trans h); rw [(Rv.inj h2).2.1, (Rv.inj h2).2.2]), GA.upd (by decide) (by decide) (by decide) (by decide) (by decide) hG⟩
            · obtain rfl := Option.some.inj (show some _ = some o from ho)
              have e39 : u 39 = _ := hF 10 (by decide) (hn 10 (by decide)) 39 rfl
              refine wv_ (v := .int .i64 0) (by go_simp; with_reducible rfl) ?_
              exact ⟨_, rfl, rfl, GA.upd (by decide) (by decide) (by decide) (by decide) (by decide) hG⟩
            · exact absurd ho (by simp)
          case tdone =>
            intro l u wx hall hG hF
            dsimp only
            obtain ⟨CS, AO, cO, cc1, cc2, cc3, cc4⟩ := hG.2.2 (hall 6 (by decide))
            obtain ⟨g, g1, g2, g3', _, g5⟩ := hG.2.1 (hall 11 (by decide))
            obtain ⟨CS', AO', cO', q1, q2⟩ := g5 (hall 12 (by decide))
            obtain ⟨rfl, rfl, rfl⟩ := Rv.inj (cc3.symm.trans q1)
            have DN := Aside0.mk (And.intro g1 (And.intro (hF 13 (by decide) 8 rfl CS AO cO cc3) (hF 14 (by decide) 9 rfl)))
            have DM := Aside0.mk (And.intro hG.1 (And.intro g2 (And.intro q2 ((TO.stays (alS L2)).go _ _ _ _ (fun k => k < wr.heap.size ∨ k = g) cc4 (Keeps.refl _ _) (fun k hk => .inl (hk.elim .inl (fun e => .inr ⟨hall 11 (by decide), by rw [g1, e]⟩)))))))
            clear g1 hG hF hall q1 q2 cc3 cc4
            go_wp2_with fail
            go_meet
            case rel => exact ⟨g, AO, cO, DN.out.1, DN.out.2.1, DN.out.2.2, ⟨CS, DM.out⟩⟩
        case rest => as_aux_lemma =>
          obtain ⟨g7, AO, cO, rfl, rfl, rfl, ZC⟩ := hcut
          obtain ⟨CSx, hBx, hgx, k7, AL5, cL5, AM5, cM5, AK5, cK5, AB5, cB5, AD5, cD5, rfl, hrk2⟩ := ZC.out
          have yo := (hBx.cell (World.block_lt_of_cell? _ _ XO.out)).trans XO.out
          obtain ⟨p, hp⟩ : ∃ p, p = L2.length := ⟨_, rfl⟩
          have hl2 : (p : Int) = n + 1 := by rw [hp, HL2.out, NL.out]; simp
          have hrd2 := RdK.now hrk2
          have hC2 : Kd.C (Kd.slice 5 (Kd.int .u8)) wc AL5 L2.length L2 := hrd2.1.1
          have hn0 : 0 ≤ n := by rw [NL.out]; omega
          obtain ⟨adL, Ad, cd, rfl, hxd, hcd, hCd⟩ := at_L1 hC2 n hn0 (by omega)
          have hrdd : rd_L1 L2 n = d := by rw [HL2.out, NL.out]; unfold rd_L1; rw [Int.toNat_natCast, List.getD_eq_getElem?_getD, List.getElem?_append_right (Nat.le_refl _), Nat.sub_self]; rfl
          rw [hrdd] at hxd hcd hCd
          have y6 : wc.cell? ⟨g7, 6, none⟩ = some (.int .i64 (n + 1)) := (blk_cell k7 6).trans (by show some (Value.int .i64 (L2.length : Int)) = _; rw [← hp, hl2])
          have y5 : wc.cell? ⟨g7, 5, none⟩ = some (.slice (some adL) p cL5) := (blk_cell k7 5).trans (by show some (Value.slice (some adL) L2.length cL5) = _; rw [hp])
          have ZW := Aside0.mk (And.intro hBx (And.intro hgx (And.intro k7 (And.intro hrk2 (And.intro hcd (And.intro hl2 hp))))))
          have CD := Aside0.mk (And.intro hCd (Kd.C_below XC.out.1 hBx))
          have hL40 : n ≤ i := by have := Y.out.1; have := NL.out; omega
          have hL41 := Y.out.2.2.2.2.2
          have q1 : ((p : Int) != n + 1) = false := by rw [hl2]; simp
          have q2 : ((n + 1) != n + 1) = false := by simp
          have i1 : (n < (p : Int)) = True := eq_true (by omega)
          have i0 : (0 ≤ n) = True := eq_true hn0
          have hwl : wrap64 (n + 1) = n + 1 := by unfold wrap64; omega
          have hwm : wrap64 (n + 1 - 1) = n := by unfold wrap64; omega
          have hwm2 : wrap64 n = n := by unfold wrap64; omega
          have hsub : n + 1 - 1 = n := by omega
          clear hBx hgx k7 hrk2 hC2 hrd2 hrdd hcd hCd hl2 hL40 hL41 hp hn0
          go_wp2_with (go_at_call 9; refine (Num.calls _ _).mono ?_; rintro e w' ⟨rfl, rfl⟩)
          rw [hwl]
          go_quiet (first | (go_at_call 9; refine (Num.calls _ _).mono ?_; rintro e w' ⟨rfl, rfl⟩; (try first | exact ⟨rfl, _, rfl⟩)) | (go_at_call 13; (with_reducible refine (SameBytes.calls Ad cd Ai ci d _ ?side1 ?side2).mono ?_); (case side1 => repeat (first | exact CD.out.1 | (with_reducible refine Kd.C_drewN ?_ _) | (with_reducible refine Kd.C_drew ?_))); (case side2 => repeat (first | exact CD.out.2 | (with_reducible refine Kd.C_drewN ?_ _) | (with_reducible refine Kd.C_drew ?_))); rintro e w' ⟨rfl, ⟨nd, rfl⟩⟩; (try first | exact ⟨rfl, _, World.drewN_drewN _ _ _⟩ | exact ⟨rfl, _, Eq.trans (World.drewN_drewN _ _ _) (congrArg (World.drewN _) (Nat.add_assoc _ _ _))⟩)))
          have ZN : Aside0 (∀ q, ALs w ((wc.drewN q).setRow g3 #[.int .i64 (alS L2).id, .int .i64 (alS L2).n, .int .i64 (alS L2).view, .int .i64 (alS L2).last, .int .i64 (alS L2).status, .slice (some adL) (alS L2).log.length cL5, .int .i64 (alS L2).commit, .slice AM5 (alS L2).mat.length cM5, .slice AK5 (alS L2).marks.length cK5, .bool (alS L2).sent, .slice AB5 (alS L2).bals.length cB5, .int .i64 (alS L2).elapsed, .int .i64 (alS L2).timeout, .slice AD5 (alS L2).draws.length cD5]) g3 L2) := ⟨fun q => by
            obtain ⟨hBx, hgx, k7, hrk2, hcd, hl2, hp⟩ := ZW.out
            have hB1 : Below w.heap.size w (wc.drewN q) := pw_below_drewN (Y.out.2.2.1.trans (hBx.mono Y.out.2.2.1.size)) q
            have kk2 : wc.heap[g3]? = some (.cells #[.int .i64 (alS L).id, .int .i64 (alS L).n, .int .i64 (alS L).view, .int .i64 (alS L).last, .int .i64 (alS L).status, .slice AL3 (alS L).log.length cL3, .int .i64 (alS L).commit, .slice AM3 (alS L).mat.length cM3, .slice AK3 (alS L).marks.length cK3, .bool (alS L).sent, .slice AB3 (alS L).bals.length cB3, .int .i64 (alS L).elapsed, .int .i64 (alS L).timeout, .slice AD3 (alS L).draws.length cD3] 29 (0, 0)) := blk_below K3.out hBx
            have kk3 : (wc.drewN q).heap[g3]? = some (.cells #[.int .i64 (alS L).id, .int .i64 (alS L).n, .int .i64 (alS L).view, .int .i64 (alS L).last, .int .i64 (alS L).status, .slice AL3 (alS L).log.length cL3, .int .i64 (alS L).commit, .slice AM3 (alS L).mat.length cM3, .slice AK3 (alS L).marks.length cK3, .bool (alS L).sent, .slice AB3 (alS L).bals.length cB3, .int .i64 (alS L).elapsed, .int .i64 (alS L).timeout, .slice AD3 (alS L).draws.length cD3] 29 (0, 0)) := kk2
            exact ⟨below_row hB1 HG3.out _, some adL, cL5, AM5, cM5, AK5, cK5, AB5, cB5, AD5, cD5, setRow_heap _ _ _ _ _ _ kk3, RdK.step hrk2 (Keeps.row (g := g3) (Keeps.drewN (Keeps.refl wc _) q) (.inl (blk_lt K3.out)) _) (fun k hk => .inl (.inl (by rw [hk]; exact blk_lt K3.out)))⟩⟩
          have K7 := Aside0.mk ZW.out.2.2.1
          have K3w := Aside0.mk (blk_below K3.out ZW.out.1)
          have HX := Aside0.mk (show (∀ x ∈ L2, x.length ≤ 256) ∧ n + 1 = (L2.length : Int) from ⟨fun x hx => by
            rw [HL2.out] at hx
            rcases List.mem_append.1 hx with h | h
            · exact Y.out.2.1 x h
            · rw [List.mem_singleton.1 h]; exact HD256.out, by have := ZW.out.2.2.2.2.2; omega⟩)
          clear y5 y6 hxd yo q1 q2 i0 i1 hwl hwm hwm2 hsub
          go_wp2_with (first | ((with_reducible refine gate_ (.load 29 (.tmp 7)) rfl ?_); refine wpList_load_row rfl 29 (.tmp 7) rfl g7 rfl 29 _ (0, 0) _ K7.out hu29 rfl (by kernel_rfl) ?_) | ((with_reducible refine gate_ (.store 29 (.tmp 3) (.tmp 86)) rfl ?_); refine wpList_store_row rfl 29 (.tmp 3) (.tmp 86) rfl g3 #[.int .i64 (alS L2).id, .int .i64 (alS L2).n, .int .i64 (alS L2).view, .int .i64 (alS L2).last, .int .i64 (alS L2).status, .slice (some adL) (alS L2).log.length cL5, .int .i64 (alS L2).commit, .slice AM5 (alS L2).mat.length cM5, .slice AK5 (alS L2).marks.length cK5, .bool (alS L2).sent, .slice AB5 (alS L2).bals.length cB5, .int .i64 (alS L2).elapsed, .int .i64 (alS L2).timeout, .slice AD5 (alS L2).draws.length cD5] rfl rfl 29 _ K3w.out (by kernel_rfl) rfl (by kernel_rfl) ?_))
          rw [HWI.out]
          obtain ⟨gg, rfl⟩ : ∃ m, gk = m + 1 := ⟨gk - 1, by have := Z.out; have := Y.out.2.2.2.2; omega⟩
          go_roundg gg
          case measure => omega
          case rel => exact ⟨i + 1, n + 1, L2, rfl, rfl, ⟨by have := Z.out; omega, by have := Y.out.2.2.2.2; omega, by have := Z.out; have := Y.out.2.2.2.2; omega⟩, ⟨HX.out.2, by have := HX.out.2; have := Y.out.1; have := NL.out; omega, HX.out.1, ZN.out _⟩⟩
    · by_cases hl1 : i < data.length
      · have d1 : decide (i < (data.length : Int)) = true := decide_eq_true hl1
        have d2 : decide (i < 40) = false := decide_eq_false (fun h => hlt ⟨hl1, h⟩)
        have HB8 := Aside0.mk hB
        clear hlt hl1 hB hnL hLi hLx k3 hrk ZL
        go_wp2_with fail
        go_ret
        exact ⟨rfl, HB8.out⟩
      · have d1 : decide (i < (data.length : Int)) = false := decide_eq_false hl1
        have HB8 := Aside0.mk hB
        clear hlt hl1 hB hnL hLi hLx k3 hrk ZL
        go_wp2_with fail
        go_ret
        exact ⟨rfl, HB8.out⟩
end Go.Proofs.Ytojjnifbnppliaa.T
