/- What an answer (prepared) makes of the machine. -/
import Derived.Test.YtojjnifbnppliaaVi
namespace Go.Proofs.Ytojjnifbnppliaa.T
open Go.RowKit Go.Proofs.YtojjnifbnppliaaW.PrintWords Go.Proofs.YtojjnifbnppliaaW.PrintLast Go.Proofs.YtojjnifbnppliaaW.PrintMore
attribute [local go_sem] max2_int min2_int max_two min_two max_three min_three max_four min_four
set_option linter.unusedVariables false
set_option linter.unusedSimpArgs false
def prepM (s : St) (x : Ms) : List Int := s.mat.set x.fro.toNat (max (s.mat.getD x.fro.toNat 0) x.mat)
def prepS (s : St) (x : Ms) : St := if hereV s.status s.view x.view = true ∧ leadsV s.id s.n s.view s.status = true then { s with mat := prepM s x, commit := agreeV s.n (prepM s x) s.log.length s.commit } else s
def prepE (s : St) (x : Ms) : Option Int := if hereV s.status s.view x.view = true ∧ leadsV s.id s.n s.view s.status = true then (if x.mat > s.log.length then some 4 else none) else none
set_option maxHeartbeats 8000000 in
set_option maxRecDepth 100000 in
theorem onPrepared.calls (b gd : Nat) (P : Nat → Prop) (s : St) (out : List Ms) (x : Ms) (AX : Option Addr) (cX : Nat) (w : World) (hM : Mac w b gd P s out) (hP : ∀ k, w.heap.size ≤ k → P k) (hg : ¬ P gd ∧ gd ≠ b) (hk : Okm s) (hx : 0 ≤ x.fro ∧ x.fro < s.n) :
    Calls Try.prog 48 #[.pointer (some ⟨b, 0, none⟩), .agg #[.int .i64 x.kind, .int .i64 x.fro, .int .i64 x.dst, .int .i64 x.view, .int .i64 x.last, .int .i64 x.prev, .slice AX x.log.length cX, .int .i64 x.commit, .int .i64 x.mat]] w fun e w' => Keeps w w' (fun k => k = b ∨ P k) ∧ Ends (prepE s x) e (Mac w' b gd P (prepS s x) out) := by
  have hM0 := hM
  obtain ⟨hgl, AL, cL, AM, cM, AK, cK, AB, cB, AD, cD, AO, cO, hb, h1, h2, h3, h4, h5, h6, h7⟩ := hM
  have hu := Try.underlying37
  have hu61 := Try.underlying61
  have hu29 := Try.underlying29
  have hu25 := Try.underlying25
  have hu23 := Try.underlying23
  have hlb : b < w.heap.size := blk_lt hb
  have hn0 : s.n ≠ 0 := by have := hk.n; omega
  have HK := Aside0.mk (blk_alloc hb (.cells #[.int .i64 x.kind, .int .i64 x.fro, .int .i64 x.dst, .int .i64 x.view, .int .i64 x.last, .int .i64 x.prev, .slice AX x.log.length cX, .int .i64 x.commit, .int .i64 x.mat] 37))
  have HBX := Aside0.mk (heap_alloc_new w (.cells #[.int .i64 x.kind, .int .i64 x.fro, .int .i64 x.dst, .int .i64 x.view, .int .i64 x.last, .int .i64 x.prev, .slice AX x.log.length cX, .int .i64 x.commit, .int .i64 x.mat] 37))
  have HQ := Aside0.mk (And.intro hP (And.intro hg (And.intro hgl (And.intro hlb (And.intro hk hx)))))
  have HKP := Aside0.mk (Keeps.alloc (Keeps.refl w (fun k => k = b ∨ P k)) (.cells #[.int .i64 x.kind, .int .i64 x.fro, .int .i64 x.dst, .int .i64 x.view, .int .i64 x.last, .int .i64 x.prev, .slice AX x.log.length cX, .int .i64 x.commit, .int .i64 x.mat] 37))
  have HM0 := Aside0.mk (hM0.below (below_alloc (Below.refl _ _) (.cells #[.int .i64 x.kind, .int .i64 x.fro, .int .i64 x.dst, .int .i64 x.view, .int .i64 x.last, .int .i64 x.prev, .slice AX x.log.length cX, .int .i64 x.commit, .int .i64 x.mat] 37)))
  have HBW := Aside0.mk (below_alloc (Below.refl w.heap.size w) (.cells #[.int .i64 x.kind, .int .i64 x.fro, .int .i64 x.dst, .int .i64 x.view, .int .i64 x.last, .int .i64 x.prev, .slice AX x.log.length cX, .int .i64 x.commit, .int .i64 x.mat] 37))
  have HR := Aside0.mk (And.intro h1 (And.intro h2 (And.intro h3 (And.intro h4 (And.intro h5 (And.intro h6 h7))))))
  clear h1 h2 h3 h4 h5 h6 h7 hP hg hgl hk hx hM0
  have x0 : (w.alloc (.cells #[.int .i64 x.kind, .int .i64 x.fro, .int .i64 x.dst, .int .i64 x.view, .int .i64 x.last, .int .i64 x.prev, .slice AX x.log.length cX, .int .i64 x.commit, .int .i64 x.mat] 37)).cell? ⟨b, 0, none⟩ = some (.int .i64 s.id) := (blk_cell HK.out 0).trans rfl
  have x1 : (w.alloc (.cells #[.int .i64 x.kind, .int .i64 x.fro, .int .i64 x.dst, .int .i64 x.view, .int .i64 x.last, .int .i64 x.prev, .slice AX x.log.length cX, .int .i64 x.commit, .int .i64 x.mat] 37)).cell? ⟨b, 1, none⟩ = some (.int .i64 s.n) := (blk_cell HK.out 1).trans rfl
  have x2 : (w.alloc (.cells #[.int .i64 x.kind, .int .i64 x.fro, .int .i64 x.dst, .int .i64 x.view, .int .i64 x.last, .int .i64 x.prev, .slice AX x.log.length cX, .int .i64 x.commit, .int .i64 x.mat] 37)).cell? ⟨b, 2, none⟩ = some (.int .i64 s.view) := (blk_cell HK.out 2).trans rfl
  have x4 : (w.alloc (.cells #[.int .i64 x.kind, .int .i64 x.fro, .int .i64 x.dst, .int .i64 x.view, .int .i64 x.last, .int .i64 x.prev, .slice AX x.log.length cX, .int .i64 x.commit, .int .i64 x.mat] 37)).cell? ⟨b, 4, none⟩ = some (.int .i64 s.status) := (blk_cell HK.out 4).trans rfl
  clear hb hlb
  cases hh : hereV s.status s.view x.view with
  | false =>
    have e : prepE s x = none := by unfold prepE; rw [if_neg (fun h => by rw [hh] at h; exact absurd h.1 (by simp))]
    have e2 : prepS s x = s := by unfold prepS; rw [if_neg (fun h => by rw [hh] at h; exact absurd h.1 (by simp))]
    rw [e, e2]
    clear e e2
    go_enter Try.func48, Try.ntmps48
    go_wp2_with (first | (go_at_call 64; refine (here.calls b s.status s.view x (.int .i64 0) _ x2 x4 AX cX).mono ?_; rw [hh]; rintro e w1 ⟨rfl, hb1⟩; replace HKP := Aside0.mk (HKP.out.below hb1); replace HK := Aside0.mk (blk_below HK.out hb1); replace HBX := Aside0.mk (blk_below HBX.out hb1); replace HM0 := Aside0.mk (HM0.out.below hb1); replace HBW := Aside0.mk (HBW.out.trans (hb1.mono HBW.out.size)); clear hb1; replace x0 : w1.cell? ⟨b, 0, none⟩ = some (.int .i64 s.id) := (blk_cell HK.out 0).trans rfl; replace x1 : w1.cell? ⟨b, 1, none⟩ = some (.int .i64 s.n) := (blk_cell HK.out 1).trans rfl; replace x2 : w1.cell? ⟨b, 2, none⟩ = some (.int .i64 s.view) := (blk_cell HK.out 2).trans rfl; replace x4 : w1.cell? ⟨b, 4, none⟩ = some (.int .i64 s.status) := (blk_cell HK.out 4).trans rfl))
    (first | go_end0 | refine bodyPost_ret (results_none rfl _ _ _) rfl ?_)
    exact ⟨HKP.out, rfl, HM0.out⟩
  | true =>
    cases hl : leadsV s.id s.n s.view s.status with
    | false =>
      have e : prepE s x = none := by unfold prepE; rw [if_neg (fun h => by rw [hl] at h; exact absurd h.2 (by simp))]
      have e2 : prepS s x = s := by unfold prepS; rw [if_neg (fun h => by rw [hl] at h; exact absurd h.2 (by simp))]
      rw [e, e2]
      clear e e2
      go_enter Try.func48, Try.ntmps48
      go_wp2_with (first | (go_at_call 64; refine (here.calls b s.status s.view x (.int .i64 0) _ x2 x4 AX cX).mono ?_; rw [hh]; rintro e w1 ⟨rfl, hb1⟩; replace HKP := Aside0.mk (HKP.out.below hb1); replace HK := Aside0.mk (blk_below HK.out hb1); replace HBX := Aside0.mk (blk_below HBX.out hb1); replace HM0 := Aside0.mk (HM0.out.below hb1); replace HBW := Aside0.mk (HBW.out.trans (hb1.mono HBW.out.size)); clear hb1; replace x0 : w1.cell? ⟨b, 0, none⟩ = some (.int .i64 s.id) := (blk_cell HK.out 0).trans rfl; replace x1 : w1.cell? ⟨b, 1, none⟩ = some (.int .i64 s.n) := (blk_cell HK.out 1).trans rfl; replace x2 : w1.cell? ⟨b, 2, none⟩ = some (.int .i64 s.view) := (blk_cell HK.out 2).trans rfl; replace x4 : w1.cell? ⟨b, 4, none⟩ = some (.int .i64 s.status) := (blk_cell HK.out 4).trans rfl) | (go_at_call 16; refine (leads.calls b s.id s.n s.view s.status hn0 _ x0 x1 x2 x4).mono ?_; rw [hl]; rintro e w' ⟨rfl, ⟨m, rfl⟩⟩; replace HKP := Aside0.mk (HKP.out.drewN m)))
      (first | go_end0 | refine bodyPost_ret (results_none rfl _ _ _) rfl ?_)
      exact ⟨HKP.out, rfl, HM0.out.below (pw_below_drewN (Below.refl _ _) _)⟩
    | true =>
      by_cases h3 : x.mat > (s.log.length : Int)
      · have d3 : decide ((s.log.length : Int) < x.mat) = true := decide_eq_true h3
        have e : prepE s x = some 4 := by unfold prepE; rw [if_pos ⟨hh, hl⟩, if_pos h3]
        rw [e]
        clear e h3
        go_enter Try.func48, Try.ntmps48
        go_upto_region 2 with (first | (go_at_call 64; refine (here.calls b s.status s.view x (.int .i64 0) _ x2 x4 AX cX).mono ?_; rw [hh]; rintro e w1 ⟨rfl, hb1⟩; replace HKP := Aside0.mk (HKP.out.below hb1); replace HK := Aside0.mk (blk_below HK.out hb1); replace HBX := Aside0.mk (blk_below HBX.out hb1); replace HM0 := Aside0.mk (HM0.out.below hb1); replace HBW := Aside0.mk (HBW.out.trans (hb1.mono HBW.out.size)); clear hb1; replace x0 : w1.cell? ⟨b, 0, none⟩ = some (.int .i64 s.id) := (blk_cell HK.out 0).trans rfl; replace x1 : w1.cell? ⟨b, 1, none⟩ = some (.int .i64 s.n) := (blk_cell HK.out 1).trans rfl; replace x2 : w1.cell? ⟨b, 2, none⟩ = some (.int .i64 s.view) := (blk_cell HK.out 2).trans rfl; replace x4 : w1.cell? ⟨b, 4, none⟩ = some (.int .i64 s.status) := (blk_cell HK.out 4).trans rfl) | (go_at_call 16; refine (leads.calls b s.id s.n s.view s.status hn0 _ x0 x1 x2 x4).mono ?_; rw [hl]; rintro e w' ⟨rfl, ⟨m, rfl⟩⟩; replace HKP := Aside0.mk (HKP.out.drewN m)))
        have kb : (w1.drewN m).heap[b]? = some (.cells #[.int .i64 s.id, .int .i64 s.n, .int .i64 s.view, .int .i64 s.last, .int .i64 s.status, .slice AL s.log.length cL, .int .i64 s.commit, .slice AM s.mat.length cM, .slice AK s.marks.length cK, .bool s.sent, .slice AB s.bals.length cB, .int .i64 s.elapsed, .int .i64 s.timeout, .slice AD s.draws.length cD, .slice AO out.length cO] 61 (0, 0)) := HK.out
        have kx : (w1.drewN m).heap[w.heap.size]? = some (.cells #[.int .i64 x.kind, .int .i64 x.fro, .int .i64 x.dst, .int .i64 x.view, .int .i64 x.last, .int .i64 x.prev, .slice AX x.log.length cX, .int .i64 x.commit, .int .i64 x.mat] 37 (0, 0)) := HBX.out
        have hbw : Below w.heap.size w (w1.drewN m) := pw_below_drewN HBW.out m
        clear x0 x1 x2 x4 HK HBX HM0 HBW
        generalize w1.drewN m = W at *
        have y5 : W.cell? ⟨b, 5, none⟩ = some (.slice AL s.log.length cL) := (blk_cell kb 5).trans rfl
        have z8 : W.cell? ⟨w.heap.size, 8, none⟩ = some (.int .i64 x.mat) := (blk_cell kx 8).trans rfl
        have ZW := Aside0.mk (And.intro kb (And.intro kx hbw))
        clear kb kx hbw
        go_still_tail 10, (by kernel_rfl)
        change wpList _ _ _ _ _ W.drew
        go_wp2_with (first | (go_at_call_of 44 (Value.bool true); refine (fail_bad.calls _ _ _).mono ?_; rintro e w' ⟨rfl, rfl⟩))
        exact ⟨rfl, HKP.out.drew, rfl⟩
      · have d3 : decide ((s.log.length : Int) < x.mat) = false := decide_eq_false h3
        have e : prepE s x = none := by unfold prepE; rw [if_pos ⟨hh, hl⟩, if_neg h3]
        have e2 : prepS s x = { s with mat := prepM s x, commit := agreeV s.n (prepM s x) s.log.length s.commit } := by unfold prepS; rw [if_pos ⟨hh, hl⟩]
        rw [e, e2]
        have HLL := Aside0.mk hl
        clear e e2 h3
        go_enter Try.func48, Try.ntmps48
        go_upto_region 2 with (first | (go_at_call 64; refine (here.calls b s.status s.view x (.int .i64 0) _ x2 x4 AX cX).mono ?_; rw [hh]; rintro e w1 ⟨rfl, hb1⟩; replace HKP := Aside0.mk (HKP.out.below hb1); replace HK := Aside0.mk (blk_below HK.out hb1); replace HBX := Aside0.mk (blk_below HBX.out hb1); replace HM0 := Aside0.mk (HM0.out.below hb1); replace HBW := Aside0.mk (HBW.out.trans (hb1.mono HBW.out.size)); clear hb1; replace x0 : w1.cell? ⟨b, 0, none⟩ = some (.int .i64 s.id) := (blk_cell HK.out 0).trans rfl; replace x1 : w1.cell? ⟨b, 1, none⟩ = some (.int .i64 s.n) := (blk_cell HK.out 1).trans rfl; replace x2 : w1.cell? ⟨b, 2, none⟩ = some (.int .i64 s.view) := (blk_cell HK.out 2).trans rfl; replace x4 : w1.cell? ⟨b, 4, none⟩ = some (.int .i64 s.status) := (blk_cell HK.out 4).trans rfl) | (go_at_call 16; refine (leads.calls b s.id s.n s.view s.status hn0 _ x0 x1 x2 x4).mono ?_; rw [hl]; rintro e w' ⟨rfl, ⟨m, rfl⟩⟩; replace HKP := Aside0.mk (HKP.out.drewN m)))
        have kb : (w1.drewN m).heap[b]? = some (.cells #[.int .i64 s.id, .int .i64 s.n, .int .i64 s.view, .int .i64 s.last, .int .i64 s.status, .slice AL s.log.length cL, .int .i64 s.commit, .slice AM s.mat.length cM, .slice AK s.marks.length cK, .bool s.sent, .slice AB s.bals.length cB, .int .i64 s.elapsed, .int .i64 s.timeout, .slice AD s.draws.length cD, .slice AO out.length cO] 61 (0, 0)) := HK.out
        have kx : (w1.drewN m).heap[w.heap.size]? = some (.cells #[.int .i64 x.kind, .int .i64 x.fro, .int .i64 x.dst, .int .i64 x.view, .int .i64 x.last, .int .i64 x.prev, .slice AX x.log.length cX, .int .i64 x.commit, .int .i64 x.mat] 37 (0, 0)) := HBX.out
        have hbw : Below w.heap.size w (w1.drewN m) := pw_below_drewN HBW.out m
        clear x0 x1 x2 x4 HK HBX HM0 HBW
        generalize w1.drewN m = W at *
        have y5 : W.cell? ⟨b, 5, none⟩ = some (.slice AL s.log.length cL) := (blk_cell kb 5).trans rfl
        have z8 : W.cell? ⟨w.heap.size, 8, none⟩ = some (.int .i64 x.mat) := (blk_cell kx 8).trans rfl
        have ZW := Aside0.mk (And.intro kb (And.intro kx hbw))
        clear kb kx hbw
        go_still_tail 10, (by kernel_rfl)
        change wpList _ _ _ _ _ W.drew
        go_upto_region 3 with (first | (go_at_call_of 44 (Value.bool false); refine (fail_ok.calls _ _ _).mono ?_; rintro e w' ⟨rfl, rfl⟩))
        have kb : W.drew.heap[b]? = some (.cells #[.int .i64 s.id, .int .i64 s.n, .int .i64 s.view, .int .i64 s.last, .int .i64 s.status, .slice AL s.log.length cL, .int .i64 s.commit, .slice AM s.mat.length cM, .slice AK s.marks.length cK, .bool s.sent, .slice AB s.bals.length cB, .int .i64 s.elapsed, .int .i64 s.timeout, .slice AD s.draws.length cD, .slice AO out.length cO] 61 (0, 0)) := ZW.out.1
        have kx : W.drew.heap[w.heap.size]? = some (.cells #[.int .i64 x.kind, .int .i64 x.fro, .int .i64 x.dst, .int .i64 x.view, .int .i64 x.last, .int .i64 x.prev, .slice AX x.log.length cX, .int .i64 x.commit, .int .i64 x.mat] 37 (0, 0)) := ZW.out.2.1
        have hbw : Below w.heap.size w W.drew := below_drew ZW.out.2.2
        replace HKP := Aside0.mk (HKP.out.drew)
        clear y5 z8 ZW
        generalize W.drew = V at *
        obtain ⟨r1, r2, r3, r4, r5, r6, r7⟩ := HR.out
        have h1 := Kd.R_below r1 hbw
        have h2 := Kd.R_below r2 hbw
        have h3 := Kd.R_below r3 hbw
        have h4 := Kd.R_below r4 hbw
        have h5 := Kd.R_below r5 hbw
        have h7 := Kd.F_step r7 (fun k hk hl => hbw.block k hl)
        have hk := HQ.out.2.2.2.2.1
        have hx := HQ.out.2.2.2.2.2
        have hml : (s.mat.length : Int) = s.n := hk.mat HLL.out
        obtain ⟨g, cap, hv, _, hgl, hcells⟩ := Kd.R_form h2 (by omega)
        have hv1 : AM = some ⟨g, 0, none⟩ := by injection hv
        subst hv1
        have y5 : V.cell? ⟨b, 5, none⟩ = some (.slice AL s.log.length cL) := (blk_cell kb 5).trans rfl
        have y7 : V.cell? ⟨b, 7, none⟩ = some (.slice (some ⟨g, 0, none⟩) s.mat.length cM) := (blk_cell kb 7).trans rfl
        have z8 : V.cell? ⟨w.heap.size, 8, none⟩ = some (.int .i64 x.mat) := (blk_cell kx 8).trans rfl
        have z1 : V.cell? ⟨w.heap.size, 1, none⟩ = some (.int .i64 x.fro) := (blk_cell kx 1).trans rfl
        have i0 : (0 ≤ x.fro) = True := eq_true hx.1
        have i1 : (x.fro < (s.mat.length : Int)) = True := eq_true (by omega)
        obtain ⟨ov, hov⟩ : ∃ ov, ov = s.mat.getD x.fro.toNat 0 := ⟨_, rfl⟩
        have HOV := Aside0.mk hov
        have xg : V.cell? ⟨g, x.fro.toNat, none⟩ = some (.int .i64 ov) := by
          rw [hov]
          obtain ⟨c, hc, hM, hcell, _⟩ := Kd.R_elem h2 (0 : Int) x.fro hx.1 (by omega)
          have h0 : c = [.int .i64 (s.mat.getD x.fro.toNat 0)] := hM
          have := hcell 0 _ (by rw [h0]; rfl)
          simpa [Kd.int, Kd.scalar, List.getD_eq_getElem?_getD] using this
        have fg := (by obtain ⟨_, _, _, _, hf⟩ := Kd.R_elem h2 (0 : Int) x.fro hx.1 (by omega); simpa [Kd.int, Kd.scalar] using hf 0 : V.frozen? ⟨g, x.fro.toNat, none⟩ = false)
        clear hov
        have hgb : g ≠ b := fun e => by obtain ⟨cells, hc⟩ := hcells; rw [e, kb] at hc; cases hc
        have hPg : P g := h2.1 g rfl
        have Z := Aside0.mk (And.intro kb (And.intro h1 (And.intro h2 (And.intro h3 (And.intro h4 (And.intro h5 (And.intro r6 (And.intro h7 (And.intro hgb (And.intro hPg hcells))))))))))
        clear kb kx hbw h1 h2 h3 h4 h5 h7 r1 r2 r3 r4 r5 r6 r7 hgb hPg hcells hk hx hml hgl hv
        by_cases hmx : ov < x.mat
        · have hmx2 := decide_eq_true hmx
          go_still_tail 19, (by kernel_rfl)
          change wpList _ _ _ _ _ V.drew
          go_wp2_with (go_at_call 55; refine Aside0.out ?_)
          refine Aside0.mk ?_
          obtain ⟨hb, h1, h2, h3, h4, h5, h6, h7, hgb, hPg, hcells⟩ := Z.out
          have hk := HQ.out.2.2.2.2.1
          obtain ⟨gc, hgc⟩ := hcells
          have k2 : (V.setCell ⟨g, x.fro.toNat, none⟩ (.int .i64 x.mat)).heap[b]? = _ := blk_far hb (p := ⟨g, x.fro.toNat, none⟩) (fun e => hgb e.symm) _
          have m2 := Kd.R_putn h2 x.fro x.mat
          have m1 := Kd.R_set h1 hgc (by decide) x.fro.toNat (.int .i64 x.mat)
          have m3 := Kd.R_set h3 hgc (by decide) x.fro.toNat (.int .i64 x.mat)
          have m4 := Kd.R_set h4 hgc (by decide) x.fro.toNat (.int .i64 x.mat)
          have m5 := Kd.R_set h5 hgc (by decide) x.fro.toNat (.int .i64 x.mat)
          have m7 := Kd.F_step h7 (W1 := V.setCell ⟨g, x.fro.toNat, none⟩ (.int .i64 x.mat)) (fun k hk2 _ => Below.heap_setCell V ⟨g, x.fro.toNat, none⟩ _ k (fun e => by have e2 : k = g := e; exact HQ.out.2.1.1 (by rw [← hk2, e2]; exact hPg)))
          have mk := HKP.out.setCell (p := ⟨g, x.fro.toNat, none⟩) (.inl (.inr hPg)) (.int .i64 x.mat)
          have hmm : s.mat.set x.fro.toNat x.mat = prepM s x := by unfold prepM; rw [← HOV.out, Int.max_eq_right (by omega)]
          rw [hmm] at m2
          have hlen : (prepM s x).length = s.mat.length := by unfold prepM; rw [List.length_set]
          refine (agree.calls b 61 #[.int .i64 s.id, .int .i64 s.n, .int .i64 s.view, .int .i64 s.last, .int .i64 s.status, .slice AL s.log.length cL, .int .i64 s.commit, .slice (some ⟨g, 0, none⟩) s.mat.length cM, .slice AK s.marks.length cK, .bool s.sent, .slice AB s.bals.length cB, .int .i64 s.elapsed, .int .i64 s.timeout, .slice AD s.draws.length cD, .slice AO out.length cO] s.n s.commit AL cL s.log (some ⟨g, 0, none⟩) cM (prepM s x) _ ?kb rfl rfl rfl (by rw [hlen]; rfl) hk.n hk.commit (by have := hk.log; omega) ?kM).mono ?_
          case kb => exact k2
          case kM => exact fun W hW => by have := Kd.R_reads' (Kd.R_keeps (Kd.R_drew (Kd.R_types m2 k2 (by decide))) hW (fun k hk3 => hk3.2)); rw [hlen] at *; exact this.2.2
          rintro e w9 ⟨rfl, hb9, hk9⟩
          go_wp2
          go_end0
          have mv : ∀ k, k ≠ b → k < (V.setCell ⟨g, x.fro.toNat, none⟩ (.int .i64 x.mat)).heap.size → w9.heap[k]? = (V.setCell ⟨g, x.fro.toNat, none⟩ (.int .i64 x.mat)).heap[k]? := fun k hk3 hl3 => hk9.block k hl3 hk3
          refine ⟨(mk.drew).trans (hk9.mono (fun k hk3 => .inl hk3)), rfl, ?_⟩
          have n2 := Kd.R_mono (Kd.R_step (Kd.R_types m2 k2 (by decide)) (fun k hk3 hl3 => mv k hk3.2 hl3)) (fun _ hk3 => hk3.1)
          rw [show (Value.slice (some ⟨g, 0, none⟩) s.mat.length cM) = .slice (some ⟨g, 0, none⟩) (prepM s x).length cM from by rw [hlen]] at n2
          refine ⟨Nat.lt_of_lt_of_le HQ.out.2.2.1 (Nat.le_trans HKP.out.size (Nat.le_trans (by simp) hk9.size)), AL, cL, some ⟨g, 0, none⟩, cM, AK, cK, AB, cB, AD, cD, AO, cO, ?_, Kd.R_mono (Kd.R_step (Kd.R_types m1 k2 (by decide)) (fun k hk3 hl3 => mv k hk3.2 hl3)) (fun _ hk3 => hk3.1), n2, Kd.R_mono (Kd.R_step (Kd.R_types m3 k2 (by decide)) (fun k hk3 hl3 => mv k hk3.2 hl3)) (fun _ hk3 => hk3.1), Kd.R_mono (Kd.R_step (Kd.R_types m4 k2 (by decide)) (fun k hk3 hl3 => mv k hk3.2 hl3)) (fun _ hk3 => hk3.1), Kd.R_mono (Kd.R_step (Kd.R_types m5 k2 (by decide)) (fun k hk3 hl3 => mv k hk3.2 hl3)) (fun _ hk3 => hk3.1), h6, Kd.F_step m7 (fun k hk3 hl3 => mv k (by rw [hk3]; exact HQ.out.2.1.2) hl3)⟩
          show w9.heap[b]? = some (.cells #[.int .i64 s.id, .int .i64 s.n, .int .i64 s.view, .int .i64 s.last, .int .i64 s.status, .slice AL s.log.length cL, .int .i64 (agreeV s.n (prepM s x) s.log.length s.commit), .slice (some ⟨g, 0, none⟩) (prepM s x).length cM, .slice AK s.marks.length cK, .bool s.sent, .slice AB s.bals.length cB, .int .i64 s.elapsed, .int .i64 s.timeout, .slice AD s.draws.length cD, .slice AO out.length cO] 61 (0, 0))
          rw [hlen]
          exact hb9
        · have hmx2 := decide_eq_false hmx
          have hmx3 : x.mat ≤ ov := by omega
          go_still_tail 19, (by kernel_rfl)
          change wpList _ _ _ _ _ V.drew
          go_wp2_with (go_at_call 55; refine Aside0.out ?_)
          refine Aside0.mk ?_
          obtain ⟨hb, h1, h2, h3, h4, h5, h6, h7, hgb, hPg, hcells⟩ := Z.out
          have hk := HQ.out.2.2.2.2.1
          obtain ⟨gc, hgc⟩ := hcells
          have k2 : (V.setCell ⟨g, x.fro.toNat, none⟩ (.int .i64 ov)).heap[b]? = _ := blk_far hb (p := ⟨g, x.fro.toNat, none⟩) (fun e => hgb e.symm) _
          have m2 := Kd.R_putn h2 x.fro ov
          have m1 := Kd.R_set h1 hgc (by decide) x.fro.toNat (.int .i64 ov)
          have m3 := Kd.R_set h3 hgc (by decide) x.fro.toNat (.int .i64 ov)
          have m4 := Kd.R_set h4 hgc (by decide) x.fro.toNat (.int .i64 ov)
          have m5 := Kd.R_set h5 hgc (by decide) x.fro.toNat (.int .i64 ov)
          have m7 := Kd.F_step h7 (W1 := V.setCell ⟨g, x.fro.toNat, none⟩ (.int .i64 ov)) (fun k hk2 _ => Below.heap_setCell V ⟨g, x.fro.toNat, none⟩ _ k (fun e => by have e2 : k = g := e; exact HQ.out.2.1.1 (by rw [← hk2, e2]; exact hPg)))
          have mk := HKP.out.setCell (p := ⟨g, x.fro.toNat, none⟩) (.inl (.inr hPg)) (.int .i64 ov)
          have hmm : s.mat.set x.fro.toNat ov = prepM s x := by unfold prepM; rw [← HOV.out, Int.max_eq_left (by omega)]
          rw [hmm] at m2
          have hlen : (prepM s x).length = s.mat.length := by unfold prepM; rw [List.length_set]
          refine (agree.calls b 61 #[.int .i64 s.id, .int .i64 s.n, .int .i64 s.view, .int .i64 s.last, .int .i64 s.status, .slice AL s.log.length cL, .int .i64 s.commit, .slice (some ⟨g, 0, none⟩) s.mat.length cM, .slice AK s.marks.length cK, .bool s.sent, .slice AB s.bals.length cB, .int .i64 s.elapsed, .int .i64 s.timeout, .slice AD s.draws.length cD, .slice AO out.length cO] s.n s.commit AL cL s.log (some ⟨g, 0, none⟩) cM (prepM s x) _ ?kb rfl rfl rfl (by rw [hlen]; rfl) hk.n hk.commit (by have := hk.log; omega) ?kM).mono ?_
          case kb => exact k2
          case kM => exact fun W hW => by have := Kd.R_reads' (Kd.R_keeps (Kd.R_drew (Kd.R_types m2 k2 (by decide))) hW (fun k hk3 => hk3.2)); rw [hlen] at *; exact this.2.2
          rintro e w9 ⟨rfl, hb9, hk9⟩
          go_wp2
          go_end0
          have mv : ∀ k, k ≠ b → k < (V.setCell ⟨g, x.fro.toNat, none⟩ (.int .i64 ov)).heap.size → w9.heap[k]? = (V.setCell ⟨g, x.fro.toNat, none⟩ (.int .i64 ov)).heap[k]? := fun k hk3 hl3 => hk9.block k hl3 hk3
          refine ⟨(mk.drew).trans (hk9.mono (fun k hk3 => .inl hk3)), rfl, ?_⟩
          have n2 := Kd.R_mono (Kd.R_step (Kd.R_types m2 k2 (by decide)) (fun k hk3 hl3 => mv k hk3.2 hl3)) (fun _ hk3 => hk3.1)
          rw [show (Value.slice (some ⟨g, 0, none⟩) s.mat.length cM) = .slice (some ⟨g, 0, none⟩) (prepM s x).length cM from by rw [hlen]] at n2
          refine ⟨Nat.lt_of_lt_of_le HQ.out.2.2.1 (Nat.le_trans HKP.out.size (Nat.le_trans (by simp) hk9.size)), AL, cL, some ⟨g, 0, none⟩, cM, AK, cK, AB, cB, AD, cD, AO, cO, ?_, Kd.R_mono (Kd.R_step (Kd.R_types m1 k2 (by decide)) (fun k hk3 hl3 => mv k hk3.2 hl3)) (fun _ hk3 => hk3.1), n2, Kd.R_mono (Kd.R_step (Kd.R_types m3 k2 (by decide)) (fun k hk3 hl3 => mv k hk3.2 hl3)) (fun _ hk3 => hk3.1), Kd.R_mono (Kd.R_step (Kd.R_types m4 k2 (by decide)) (fun k hk3 hl3 => mv k hk3.2 hl3)) (fun _ hk3 => hk3.1), Kd.R_mono (Kd.R_step (Kd.R_types m5 k2 (by decide)) (fun k hk3 hl3 => mv k hk3.2 hl3)) (fun _ hk3 => hk3.1), h6, Kd.F_step m7 (fun k hk3 hl3 => mv k (by rw [hk3]; exact HQ.out.2.1.2) hl3)⟩
          show w9.heap[b]? = some (.cells #[.int .i64 s.id, .int .i64 s.n, .int .i64 s.view, .int .i64 s.last, .int .i64 s.status, .slice AL s.log.length cL, .int .i64 (agreeV s.n (prepM s x) s.log.length s.commit), .slice (some ⟨g, 0, none⟩) (prepM s x).length cM, .slice AK s.marks.length cK, .bool s.sent, .slice AB s.bals.length cB, .int .i64 s.elapsed, .int .i64 s.timeout, .slice AD s.draws.length cD, .slice AO out.length cO] 61 (0, 0))
          rw [hlen]
          exact hb9
end Go.Proofs.Ytojjnifbnppliaa.T
