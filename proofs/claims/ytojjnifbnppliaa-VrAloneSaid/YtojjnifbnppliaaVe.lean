/- lead and draw, at whatever block a state lies in. -/
import Derived.Test.YtojjnifbnppliaaV0
namespace Go.Proofs.Ytojjnifbnppliaa.T
open Go.RowKit Go.Proofs.YtojjnifbnppliaaW.PrintWords Go.Proofs.YtojjnifbnppliaaW.PrintLast Go.Proofs.YtojjnifbnppliaaW.PrintMore
attribute [local go_sem] max2_int min2_int max_two min_two max_three min_three max_four min_four
set_option linter.unusedVariables false
set_option linter.unusedSimpArgs false
set_option maxHeartbeats 4000000 in
set_option maxRecDepth 100000 in
theorem lead.calls (b t : Nat) (cs : Array Value) (id n : Int) (AL : Option Addr) (cL : Nat) (L : List (List Int)) (v7 : Value) (w : World) (hb : w.heap[b]? = some (.cells cs t (0, 0))) (e0 : cs[0]? = some (.int .i64 id)) (e1 : cs[1]? = some (.int .i64 n)) (e5 : cs[5]? = some (.slice AL L.length cL)) (e7 : cs[7]? = some v7) (hn : 1 ≤ n ∧ n ≤ 9) (hid : 0 ≤ id ∧ id < n) :
    Calls Try.prog 17 #[.pointer (some ⟨b, 0, none⟩)] w fun e w' => ∃ vM : Value, e = .returned (.tuple #[]) ∧ w'.heap[b]? = some (.cells (cs.setIfInBounds 7 vM) t (0, 0)) ∧ (Kd.int .i64).R 3 w' w.heap.size (fun _ => True) vM ((List.replicate n.toNat (0 : Int)).set id.toNat L.length) ∧ Keeps w w' (fun k => k = b) := by
  obtain ⟨m, rfl⟩ : ∃ m : Nat, n = (m : Int) := ⟨n.toNat, by omega⟩
  rw [Int.toNat_natCast]
  have hu := Try.underlying23
  have x0 := (blk_cell hb 0).trans e0
  have x1 := (blk_cell hb 1).trans e1
  have x5 := (blk_cell hb 5).trans e5
  have x7 := (blk_cell hb 7).trans e7
  have f7 := blk_frozen hb 7
  have HN := Aside0.mk (And.intro hn hid)
  have HBK := Aside0.mk hb
  have E7 := Aside0.mk e7
  have ES := Aside0.mk (And.intro e0 e5)
  have HBL := Aside0.mk (blk_lt hb)
  clear hn hid e0 e1 e5 e7 hb
  go_enter Try.func17, Try.ntmps17
  go_wp2_with ((with_reducible refine gate_dst (N := 7) rfl ?_); refine Kd.R_make (Kd.int .i64) (w0 := w) w.heap.size 3 rfl rfl 23 (.tmp 6) (.tmp 6) rfl (m : Int) rfl rfl Try.underlying23 (.int .i64 0) 8 info3 rfl (by decide) (by omega) (0 : Int) (ok := fun _ => True) (okp := fun _ => False) rfl (fun _ hk => hk.elim) trivial (by have := HN.out; omega) (by have := HN.out; omega) (Below.refl _ _) (Nat.le_refl _) ?_; intro v1 w1 hr hb1 hg hown; rw [Int.toNat_natCast] at hr; obtain ⟨g, hg1, hg2⟩ := hown; obtain ⟨gg, cap, hv, hgs, hgl, hcells⟩ := Kd.R_form hr (by rw [List.length_replicate]; have := HN.out; omega); rw [List.length_replicate] at hv; subst hv; have R1 := Aside0.mk hr; have B1 := Aside0.mk hb1; have GS := Aside0.mk (show w.heap.size ≤ gg from hgs); replace x0 := (hb1.cell (World.block_lt_of_cell? _ _ x0)).trans x0; replace x1 := (hb1.cell (World.block_lt_of_cell? _ _ x1)).trans x1; replace x5 := (hb1.cell (World.block_lt_of_cell? _ _ x5)).trans x5; replace x7 := (hb1.cell (World.block_lt_of_cell? _ _ x7)).trans x7; replace HBK := Aside0.mk (blk_below HBK.out hb1); replace f7 := blk_frozen HBK.out 7; clear hr hb1 hg hg1 hg2 hgl hcells)
  have i0 : (0 ≤ id) = True := eq_true HN.out.2.1
  have i1 : (id < (m : Int)) = True := eq_true HN.out.2.2
  have K2 := blk_set HBK.out 7 (.slice (some ⟨gg, 0, none⟩) m cap)
  have R2 := Kd.R_mono (ok' := fun _ => True) (Kd.R_far (p := ⟨b, 7, none⟩) (Kd.R_bound R1.out) (fun k hk => by have h1 := hk.2.1; have h2 := HBL.out; show k ≠ b; omega) (.slice (some ⟨gg, 0, none⟩) m cap)) (fun _ _ => trivial)
  have KB2 : Keeps w (w1.setCell ⟨b, 7, none⟩ (.slice (some ⟨gg, 0, none⟩) m cap)) (fun k => k = b) := Keeps.set_ (Keeps.of_belows B1.out _) 7 _
  clear x0 x1 x5 x7 f7 HBK R1 B1
  generalize w1.setCell ⟨b, 7, none⟩ (.slice (some ⟨gg, 0, none⟩) m cap) = W2 at *
  have hne : ∀ i : Nat, i ≠ 7 → (cs.setIfInBounds 7 (.slice (some ⟨gg, 0, none⟩) m cap))[i]? = cs[i]? := fun i hi => Array.getElem?_setIfInBounds_ne (by omega)
  have x0 := (blk_cell K2 0).trans ((hne 0 (by decide)).trans ES.out.1)
  have x5 := (blk_cell K2 5).trans ((hne 5 (by decide)).trans ES.out.2)
  have x7 : W2.cell? ⟨b, 7, none⟩ = some (.slice (some ⟨gg, 0, none⟩) m cap) := (blk_cell K2 7).trans (by
    rw [Array.getElem?_setIfInBounds_self]
    have := (Array.getElem?_eq_some_iff.1 E7.out).1
    rw [if_pos this])
  have xg : W2.cell? ⟨gg, id.toNat, none⟩ = some (.int .i64 0) := by
    obtain ⟨c, hc, hM, hcell, _⟩ := Kd.R_elem R2 (0 : Int) id HN.out.2.1 (by have := HN.out; omega)
    have h0 : c = [.int .i64 ((List.replicate m (0 : Int)).getD id.toNat 0)] := hM
    have hz : (List.replicate m (0 : Int)).getD id.toNat 0 = 0 := by rw [List.getD_eq_getElem?_getD, List.getElem?_replicate]; split <;> rfl
    rw [hz] at h0
    have := hcell 0 _ (by rw [h0]; rfl)
    simpa [Kd.int, Kd.scalar] using this
  have fg := (by obtain ⟨_, _, _, _, hf⟩ := Kd.R_elem R2 (0 : Int) id HN.out.2.1 (by have := HN.out; omega); simpa [Kd.int, Kd.scalar] using hf 0 : W2.frozen? ⟨gg, id.toNat, none⟩ = false)
  have Z := Aside0.mk (And.intro K2 (And.intro R2 KB2))
  have HGB := Aside0.mk (show gg ≠ b from fun e => by have h2 := HBL.out; omega)
  clear K2 R2 KB2 hne
  go_still_tail 13, (by kernel_rfl)
  change wpList _ _ _ _ _ W2.drew
  go_wp2_with fail
  obtain ⟨K2, R2, KB2⟩ := Z.out
  go_end0
  refine ⟨.slice (some ⟨gg, 0, none⟩) m cap, rfl, ?_, ?_, ?_⟩
  · exact blk_far K2 (p := ⟨gg, id.toNat, none⟩) (fun e => HGB.out e.symm) (.int .i64 L.length)
  · exact Kd.R_drew (Kd.R_putn R2 id (L.length : Int))
  · exact (KB2.setCell (p := ⟨gg, id.toNat, none⟩) (.inr GS.out) _).drew
def drawV (id : Int) (d : List Int) : Int := if d = [] then id + 10 else ((rd d 0).tmod 10 + 10).tmod 10 + 10
theorem rd_mod (x : Int) : 0 ≤ (x.tmod 10 + 10).tmod 10 ∧ (x.tmod 10 + 10).tmod 10 < 10 ∧ wrap64 (x.tmod 10 + 10) = x.tmod 10 + 10 ∧ wrap64 ((x.tmod 10 + 10).tmod 10 + 10) = (x.tmod 10 + 10).tmod 10 + 10 := by
  have h1 : -10 < x.tmod 10 ∧ x.tmod 10 < 10 := ⟨Int.lt_tmod_of_pos x (by omega), Int.tmod_lt_of_pos x (by omega)⟩
  have h2 : 0 ≤ (x.tmod 10 + 10).tmod 10 := Int.tmod_nonneg _ (by omega)
  have h3 : (x.tmod 10 + 10).tmod 10 < 10 := Int.tmod_lt_of_pos _ (by omega)
  refine ⟨h2, h3, ?_, ?_⟩
  · unfold wrap64; omega
  · generalize (x.tmod 10 + 10).tmod 10 = y at *
    unfold wrap64; omega
set_option maxHeartbeats 4000000 in
set_option maxRecDepth 100000 in
theorem draw.calls (b t : Nat) (cs : Array Value) (id : Int) (AD : Option Addr) (cD : Nat) (d : List Int) (v12 : Value) (w : World) (hb : w.heap[b]? = some (.cells cs t (0, 0))) (e0 : cs[0]? = some (.int .i64 id)) (e12 : cs[12]? = some v12) (e13 : cs[13]? = some (.slice AD d.length cD)) (hid : 0 ≤ id ∧ id < 9) (hC : Kd.C (Kd.int .i64) w AD d.length d) (hc : d.length ≤ cD) (hfar : ∀ a : Addr, AD = some a → 0 < d.length → a.block ≠ b) :
    Calls Try.prog 18 #[.pointer (some ⟨b, 0, none⟩)] w fun e w' => ∃ (A : Option Addr) (c : Nat), e = .returned (.tuple #[]) ∧ w'.heap[b]? = some (.cells ((cs.setIfInBounds 12 (.int .i64 (drawV id d))).setIfInBounds 13 (.slice A d.tail.length c)) t (0, 0)) ∧ d.tail.length ≤ c ∧ (∀ W, Kd.C (Kd.int .i64) W AD d.length d → Kd.C (Kd.int .i64) W A d.tail.length d.tail) ∧ Keeps w w' (fun k => k = b) := by
  have hu := Try.underlying23
  have x0 := (blk_cell hb 0).trans e0
  have x12 := (blk_cell hb 12).trans e12
  have x13 := (blk_cell hb 13).trans e13
  have f12 := blk_frozen hb 12
  have f13 := blk_frozen hb 13
  have hw1 : wrap64 (id + 10) = id + 10 := by unfold wrap64; omega
  have HB := Aside0.mk (And.intro hb (And.intro e12 e13))
  have HC := Aside0.mk (And.intro hC hc)
  clear hb e0 e12 e13 hid
  by_cases hd : d = []
  · subst hd
    simp only [List.length_nil, List.tail_nil] at *
    go_enter Try.func18, Try.ntmps18
    go_wp2
    go_end0
    refine ⟨AD, cD, rfl, ?_, Nat.zero_le _, fun _ h => h, ?_⟩
    · have h1 := blk_set HB.out.1 12 (.int .i64 (id + 10))
      rw [h1]
      congr 2
      apply Array.ext_getElem?
      intro j
      by_cases hj : j = 13
      · subst hj
        rw [Array.getElem?_setIfInBounds_ne (by decide), HB.out.2.2]
        have h13 := (Array.getElem?_eq_some_iff.1 HB.out.2.2).1
        rw [Array.getElem?_setIfInBounds_self, if_pos (by simpa using h13)]
      · rw [Array.getElem?_setIfInBounds_ne (i := 13) (by omega)]; rfl
    · exact Keeps.set_ (Keeps.refl w _) 12 _
  · have hpos : 0 < d.length := List.length_pos_iff.2 hd
    obtain ⟨ad, rfl, hx⟩ := Kd.at_int HC.out.1 0 (by omega) (by omega)
    have HF := Aside0.mk (hfar ad rfl hpos)
    obtain ⟨r1, r2, r3, r4⟩ := rd_mod (rd d 0)
    have hdd : drawV id d = ((rd d 0).tmod 10 + 10).tmod 10 + 10 := by unfold drawV; rw [if_neg hd]
    rw [hdd]
    have d1 : decide (0 < (d.length : Int)) = true := decide_eq_true (by omega)
    have q1 : (0 < d.length) = True := eq_true hpos
    have q2 : (1 ≤ d.length) = True := eq_true hpos
    have q3 : decide (0 < d.length) = true := decide_eq_true hpos
    have hxs : (w.setCell ⟨b, 12, none⟩ (.int .i64 (id + 10))).cell? ad = some (.int .i64 (rd d 0)) := by
      have h0 : ad.add (0 : Int).toNat = ad := by cases ad; rfl
      rw [h0] at hx
      have h1 := Below.heap_setCell w ⟨b, 12, none⟩ (.int .i64 (id + 10)) ad.block HF.out
      simpa [World.cell?, h1] using hx
    clear hx
    have q4 : (1 ≤ (d.length : Int)) = True := eq_true (by omega)
    have HP := Aside0.mk hpos
    have hcc := HC.out.2
    clear r1 r2 hdd hfar hd hpos hC hc
    have fin : ∀ (A : Option Addr) (c : Nat), A = (if cD = 1 then some ad else some (ad.add 1)) → c = cD - 1 → d.tail.length ≤ c ∧ (∀ W, Kd.C (Kd.int .i64) W (some ad) d.length d → Kd.C (Kd.int .i64) W A d.tail.length d.tail) := by
      rintro A c rfl rfl
      refine ⟨by rw [List.length_tail]; omega, fun W h => ?_⟩
      have h2 := Kd.C_drop (m := 1) (c := cD) h (by have := HP.out; omega) hcc
      rw [List.drop_one] at h2
      have e : (if cD = 1 then some ad else (some ad).map (·.add (1 * (Kd.int .i64).sz))) = (if cD = 1 then some ad else some (ad.add 1)) := rfl
      rw [e] at h2
      exact h2
    have FIN := Aside0.mk fin
    have HCC := Aside0.mk hcc
    clear fin hcc
    have last : ∀ (A : Option Addr) (c : Nat), ((((w.setCell ⟨b, 12, none⟩ (.int .i64 (id + 10))).setCell ⟨b, 12, none⟩ (.int .i64 (((rd d 0).tmod 10 + 10).tmod 10 + 10))).setCell ⟨b, 13, none⟩ (.slice A d.tail.length c))).heap[b]? = some (.cells ((cs.setIfInBounds 12 (.int .i64 (((rd d 0).tmod 10 + 10).tmod 10 + 10))).setIfInBounds 13 (.slice A d.tail.length c)) t (0, 0)) := fun A c => by
      have h1 := blk_set (blk_set (blk_set HB.out.1 12 (.int .i64 (id + 10))) 12 (.int .i64 (((rd d 0).tmod 10 + 10).tmod 10 + 10))) 13 (.slice A d.tail.length c)
      rw [h1, Array.setIfInBounds_setIfInBounds]
    have LAST := Aside0.mk last
    clear last
    by_cases hc1 : cD = 1
    · have FI := Aside0.mk (FIN.out (some ad) 0 (by rw [if_pos hc1]) (by omega))
      go_enter Try.func18, Try.ntmps18
      go_wp2
      go_end0
      have hl : d.tail.length = d.length - 1 := List.length_tail
      refine ⟨some ad, 0, rfl, ?_, FI.out.1, FI.out.2, ?_⟩
      · rw [← hl]; exact LAST.out _ _
      · exact Keeps.set_ (Keeps.set_ (Keeps.set_ (Keeps.refl w _) 12 _) 12 _) 13 _
    · have FI := Aside0.mk (FIN.out (some (ad.add 1)) (cD - 1) (by rw [if_neg hc1]) rfl)
      go_enter Try.func18, Try.ntmps18
      go_wp2
      go_end0
      have hl : d.tail.length = d.length - 1 := List.length_tail
      refine ⟨some (ad.add 1), cD - 1, rfl, ?_, FI.out.1, FI.out.2, ?_⟩
      · rw [← hl]; exact LAST.out _ _
      · exact Keeps.set_ (Keeps.set_ (Keeps.set_ (Keeps.refl w _) 12 _) 12 _) 13 _
end Go.Proofs.Ytojjnifbnppliaa.T
