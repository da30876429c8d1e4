/- How long a state's lists have to be; whether a state may be. -/
import Derived.Test.YtojjnifbnppliaaVb
namespace Go.Proofs.Ytojjnifbnppliaa.T
open Go.RowKit Go.Proofs.YtojjnifbnppliaaW.PrintWords Go.Proofs.YtojjnifbnppliaaW.PrintLast Go.Proofs.YtojjnifbnppliaaW.PrintMore
attribute [local go_sem] max2_int min2_int max_two min_two max_three min_three max_four min_four
set_option linter.unusedVariables false
set_option linter.unusedSimpArgs false
def szM (id n view status : Int) : Int := if leadsV id n view status = true then n else 0
def szK (id n view status : Int) : Int := if leadsV id n view status = true then 0 else if (status == 1) = true then n else 0
def szB (id n view status : Int) : Int := if leadsV id n view status = true then 0 else if (status == 1) = true then (if primaryV id n view = true then n else 0) else 0
set_option maxHeartbeats 2000000 in
theorem sizes.calls (b : Nat) (id n view status : Int) (hn : n ≠ 0) (w : World) (x0 : w.cell? ⟨b, 0, none⟩ = some (.int .i64 id)) (x1 : w.cell? ⟨b, 1, none⟩ = some (.int .i64 n)) (x2 : w.cell? ⟨b, 2, none⟩ = some (.int .i64 view)) (x4 : w.cell? ⟨b, 4, none⟩ = some (.int .i64 status)) :
    Calls Try.prog 35 #[.pointer (some ⟨b, 0, none⟩)] w fun e w' => e = .returned (.tuple #[.int .i64 (szM id n view status), .int .i64 (szK id n view status), .int .i64 (szB id n view status)]) ∧ Drawn0 w w' := by
  unfold szM szK szB
  cases dl : leadsV id n view status with
  | true =>
    simp only [if_true]
    go_enter Try.func35, Try.ntmps35
    go_wp2_with (first | (go_at_call 16; refine (leads.calls b id n view status hn _ (by first | exact x0 | (simp; exact x0)) (by first | exact x1 | (simp; exact x1)) (by first | exact x2 | (simp; exact x2)) (by first | exact x4 | (simp; exact x4))).mono ?_; rw [dl]; rintro e w' ⟨rfl, ⟨m, rfl⟩⟩) | (go_at_call 33; refine (primary.calls b id n view hn _ (by first | exact x0 | (simp; exact x0)) (by first | exact x1 | (simp; exact x1)) (by first | exact x2 | (simp; exact x2))).mono ?_; rintro e w' ⟨rfl, ⟨m2, rfl⟩⟩))
    repeat (go_quiet (fail); try go_wp2)
    go_ret3
    exact ⟨rfl, by repeat (first | exact Drawn0.refl _ | apply Drawn0.step)⟩
  | false =>
    simp only [Bool.false_eq_true, if_false]
    cases d1 : (status == 1) with
    | false =>
      simp only [Bool.false_eq_true, if_false]
      go_enter Try.func35, Try.ntmps35
      go_wp2_with (first | (go_at_call 16; refine (leads.calls b id n view status hn _ (by first | exact x0 | (simp; exact x0)) (by first | exact x1 | (simp; exact x1)) (by first | exact x2 | (simp; exact x2)) (by first | exact x4 | (simp; exact x4))).mono ?_; rw [dl]; rintro e w' ⟨rfl, ⟨m, rfl⟩⟩) | (go_at_call 33; refine (primary.calls b id n view hn _ (by first | exact x0 | (simp; exact x0)) (by first | exact x1 | (simp; exact x1)) (by first | exact x2 | (simp; exact x2))).mono ?_; rintro e w' ⟨rfl, ⟨m2, rfl⟩⟩))
      repeat (go_quiet (fail); try go_wp2)
      go_ret3
      exact ⟨rfl, by repeat (first | exact Drawn0.refl _ | apply Drawn0.step)⟩
    | true =>
      simp only [if_true]
      cases dp : primaryV id n view with
      | true =>
        simp only [if_true]
        go_enter Try.func35, Try.ntmps35
        go_wp2_with (first | (go_at_call 16; refine (leads.calls b id n view status hn _ (by first | exact x0 | (simp; exact x0)) (by first | exact x1 | (simp; exact x1)) (by first | exact x2 | (simp; exact x2)) (by first | exact x4 | (simp; exact x4))).mono ?_; rw [dl]; rintro e w' ⟨rfl, ⟨m, rfl⟩⟩) | (go_at_call 33; refine (primary.calls b id n view hn _ (by first | exact x0 | (simp; exact x0)) (by first | exact x1 | (simp; exact x1)) (by first | exact x2 | (simp; exact x2))).mono ?_; rw [dp]; rintro e w' ⟨rfl, ⟨m2, rfl⟩⟩))
        repeat (go_quiet (fail); try go_wp2)
        go_ret3
        exact ⟨rfl, by repeat (first | exact Drawn0.refl _ | apply Drawn0.step)⟩
      | false =>
        simp only [Bool.false_eq_true, if_false]
        go_enter Try.func35, Try.ntmps35
        go_wp2_with (first | (go_at_call 16; refine (leads.calls b id n view status hn _ (by first | exact x0 | (simp; exact x0)) (by first | exact x1 | (simp; exact x1)) (by first | exact x2 | (simp; exact x2)) (by first | exact x4 | (simp; exact x4))).mono ?_; rw [dl]; rintro e w' ⟨rfl, ⟨m, rfl⟩⟩) | (go_at_call 33; refine (primary.calls b id n view hn _ (by first | exact x0 | (simp; exact x0)) (by first | exact x1 | (simp; exact x1)) (by first | exact x2 | (simp; exact x2))).mono ?_; rw [dp]; rintro e w' ⟨rfl, ⟨m2, rfl⟩⟩))
        repeat (go_quiet (fail); try go_wp2)
        go_ret3
        exact ⟨rfl, by repeat (first | exact Drawn0.refl _ | apply Drawn0.step)⟩
def okA (s : St) : Bool := wi s.n 1 9 && (wi s.id 0 (s.n - 1) && (wi s.view 0 1099511627776 && (wi s.last 0 s.view && (wi s.status 0 1 && ((s.status == 1 || s.last == s.view))))))
def okB (s : St) : Bool := mayLogV s.log && (wi s.commit 0 s.log.length && (wi s.elapsed 0 1073741824 && (wi s.timeout 0 1073741824 && (decide ((s.draws.length : Int) ≤ 4096) && ((s.status == 1 || !s.sent))))))
def badC (s : St) : Bool := ((s.mat.length : Int) != szM s.id s.n s.view s.status) || (((s.marks.length : Int) != szK s.id s.n s.view s.status) || (((s.bals.length : Int) != szB s.id s.n s.view s.status) || (s.mat.any badN || (s.bals.any mayNot))))
def checkV (s : St) : Bool := okA s && (okB s && !(badC s))
set_option maxHeartbeats 40000000 in
set_option maxRecDepth 100000 in
theorem Check.calls (s : St) (AL : Option Addr) (cL : Nat) (AM : Option Addr) (cM : Nat) (AK : Option Addr) (cK : Nat) (AB : Option Addr) (cB : Nat) (AD : Option Addr) (cD : Nat) (w : World) (hr : Rd w s AL cL AM cM AK cK AB cB AD cD) :
    Calls Try.prog 19 #[.agg #[.int .i64 s.id, .int .i64 s.n, .int .i64 s.view, .int .i64 s.last, .int .i64 s.status, .slice AL s.log.length cL, .int .i64 s.commit, .slice AM s.mat.length cM, .slice AK s.marks.length cK, .bool s.sent, .slice AB s.bals.length cB, .int .i64 s.elapsed, .int .i64 s.timeout, .slice AD s.draws.length cD]] w fun e w' => e = .returned (.int .i64 (if checkV s = true then 0 else 9)) ∧ Below w.heap.size w w' := by
  obtain ⟨xid, xn, xview, xlast, xstatus, xlog, xcommit, xmat, xmarks, xsent, xbals, xelapsed, xtimeout, xdraws⟩ := s
  dsimp only
  have hu := Try.underlying29
  have HR := Aside0.mk hr
  have HB := Aside0.mk (below_alloc (Below.refl w.heap.size w) (.cells #[.int .i64 xid, .int .i64 xn, .int .i64 xview, .int .i64 xlast, .int .i64 xstatus, .slice AL xlog.length cL, .int .i64 xcommit, .slice AM xmat.length cM, .slice AK xmarks.length cK, .bool xsent, .slice AB xbals.length cB, .int .i64 xelapsed, .int .i64 xtimeout, .slice AD xdraws.length cD] 29))
  have hk := heap_alloc_new w (.cells #[.int .i64 xid, .int .i64 xn, .int .i64 xview, .int .i64 xlast, .int .i64 xstatus, .slice AL xlog.length cL, .int .i64 xcommit, .slice AM xmat.length cM, .slice AK xmarks.length cK, .bool xsent, .slice AB xbals.length cB, .int .i64 xelapsed, .int .i64 xtimeout, .slice AD xdraws.length cD] 29)
  have HK := Aside0.mk hk
  clear hr hk
  cases s1 : (xstatus == 1) with
  | true =>
    cases a0 : wi xn 1 9 with
    | false =>
      have e : checkV ⟨xid, xn, xview, xlast, xstatus, xlog, xcommit, xmat, xmarks, xsent, xbals, xelapsed, xtimeout, xdraws⟩ = false := by unfold checkV okA; dsimp only; simp only [s1, a0]; first | rfl | (simp; done)
      rw [e]
      clear e
      go_enter Try.func19, Try.ntmps19
      go_wp2_with (first | (go_at_call 14; refine (within.calls _ _ _ _).mono ?_; rintro e w' ⟨rfl, rfl⟩))
      go_ret
      exact ⟨rfl, HB.out⟩
    | true =>
      have hn := wi_iff.1 a0
      have hwn : wrap64 (xn - 1) = xn - 1 := by unfold wrap64; omega
      have hn0 : xn ≠ 0 := by omega
      clear hn
      cases a1 : wi xid 0 (xn - 1) with
      | false =>
        have e : checkV ⟨xid, xn, xview, xlast, xstatus, xlog, xcommit, xmat, xmarks, xsent, xbals, xelapsed, xtimeout, xdraws⟩ = false := by unfold checkV okA; dsimp only; simp only [s1, a0, a1]; first | rfl | (simp; done)
        rw [e]
        clear e
        go_enter Try.func19, Try.ntmps19
        go_wp2_with (first | (go_at_call 14; refine (within.calls _ _ _ _).mono ?_; rintro e w' ⟨rfl, rfl⟩))
        go_ret
        exact ⟨rfl, HB.out⟩
      | true =>
        cases a2 : wi xview 0 1099511627776 with
        | false =>
          have e : checkV ⟨xid, xn, xview, xlast, xstatus, xlog, xcommit, xmat, xmarks, xsent, xbals, xelapsed, xtimeout, xdraws⟩ = false := by unfold checkV okA; dsimp only; simp only [s1, a0, a1, a2]; first | rfl | (simp; done)
          rw [e]
          clear e
          go_enter Try.func19, Try.ntmps19
          go_wp2_with (first | (go_at_call 14; refine (within.calls _ _ _ _).mono ?_; rintro e w' ⟨rfl, rfl⟩))
          go_ret
          exact ⟨rfl, HB.out⟩
        | true =>
          cases a3 : wi xlast 0 xview with
          | false =>
            have e : checkV ⟨xid, xn, xview, xlast, xstatus, xlog, xcommit, xmat, xmarks, xsent, xbals, xelapsed, xtimeout, xdraws⟩ = false := by unfold checkV okA; dsimp only; simp only [s1, a0, a1, a2, a3]; first | rfl | (simp; done)
            rw [e]
            clear e
            go_enter Try.func19, Try.ntmps19
            go_wp2_with (first | (go_at_call 14; refine (within.calls _ _ _ _).mono ?_; rintro e w' ⟨rfl, rfl⟩))
            go_ret
            exact ⟨rfl, HB.out⟩
          | true =>
            cases a4 : wi xstatus 0 1 with
            | false =>
              have e : checkV ⟨xid, xn, xview, xlast, xstatus, xlog, xcommit, xmat, xmarks, xsent, xbals, xelapsed, xtimeout, xdraws⟩ = false := by unfold checkV okA; dsimp only; simp only [s1, a0, a1, a2, a3, a4]; first | rfl | (simp; done)
              rw [e]
              clear e
              go_enter Try.func19, Try.ntmps19
              go_wp2_with (first | (go_at_call 14; refine (within.calls _ _ _ _).mono ?_; rintro e w' ⟨rfl, rfl⟩))
              go_ret
              exact ⟨rfl, HB.out⟩
            | true =>
              cases b0 : mayLogV xlog with
              | false =>
                have e : checkV ⟨xid, xn, xview, xlast, xstatus, xlog, xcommit, xmat, xmarks, xsent, xbals, xelapsed, xtimeout, xdraws⟩ = false := by unfold checkV okA okB; dsimp only; simp only [s1, a0, a1, a2, a3, a4, b0]; first | rfl | (simp; done)
                rw [e]
                clear e
                go_enter Try.func19, Try.ntmps19
                go_wp2_with (first | (go_at_call 14; refine (within.calls _ _ _ _).mono ?_; rintro e w' ⟨rfl, rfl⟩) | (go_at_call 34; refine (mayLog.calls AL cL xlog _ (Rd.below HR.out HB.out).1.1).mono ?_; rw [b0]; rintro e w1 ⟨rfl, hb1⟩; replace HK := Aside0.mk (blk_below HK.out hb1); replace HB := Aside0.mk (HB.out.trans (hb1.mono HB.out.size)); clear hb1; have x0 := (blk_cell HK.out 0).trans rfl; have x1 := (blk_cell HK.out 1).trans rfl; have x2 := (blk_cell HK.out 2).trans rfl; have x3 := (blk_cell HK.out 3).trans rfl; have x4 := (blk_cell HK.out 4).trans rfl; have x5 := (blk_cell HK.out 5).trans rfl; have x6 := (blk_cell HK.out 6).trans rfl; have x7 := (blk_cell HK.out 7).trans rfl; have x8 := (blk_cell HK.out 8).trans rfl; have x9 := (blk_cell HK.out 9).trans rfl; have x10 := (blk_cell HK.out 10).trans rfl; have x11 := (blk_cell HK.out 11).trans rfl; have x12 := (blk_cell HK.out 12).trans rfl; have x13 := (blk_cell HK.out 13).trans rfl))
                go_ret
                exact ⟨rfl, HB.out⟩
              | true =>
                cases b1 : wi xcommit 0 xlog.length with
                | false =>
                  have e : checkV ⟨xid, xn, xview, xlast, xstatus, xlog, xcommit, xmat, xmarks, xsent, xbals, xelapsed, xtimeout, xdraws⟩ = false := by unfold checkV okA okB; dsimp only; simp only [s1, a0, a1, a2, a3, a4, b0, b1]; first | rfl | (simp; done)
                  rw [e]
                  clear e
                  go_enter Try.func19, Try.ntmps19
                  go_wp2_with (first | (go_at_call 14; refine (within.calls _ _ _ _).mono ?_; rintro e w' ⟨rfl, rfl⟩) | (go_at_call 34; refine (mayLog.calls AL cL xlog _ (Rd.below HR.out HB.out).1.1).mono ?_; rw [b0]; rintro e w1 ⟨rfl, hb1⟩; replace HK := Aside0.mk (blk_below HK.out hb1); replace HB := Aside0.mk (HB.out.trans (hb1.mono HB.out.size)); clear hb1; have x0 := (blk_cell HK.out 0).trans rfl; have x1 := (blk_cell HK.out 1).trans rfl; have x2 := (blk_cell HK.out 2).trans rfl; have x3 := (blk_cell HK.out 3).trans rfl; have x4 := (blk_cell HK.out 4).trans rfl; have x5 := (blk_cell HK.out 5).trans rfl; have x6 := (blk_cell HK.out 6).trans rfl; have x7 := (blk_cell HK.out 7).trans rfl; have x8 := (blk_cell HK.out 8).trans rfl; have x9 := (blk_cell HK.out 9).trans rfl; have x10 := (blk_cell HK.out 10).trans rfl; have x11 := (blk_cell HK.out 11).trans rfl; have x12 := (blk_cell HK.out 12).trans rfl; have x13 := (blk_cell HK.out 13).trans rfl))
                  go_ret
                  exact ⟨rfl, HB.out⟩
                | true =>
                  cases b2 : wi xelapsed 0 1073741824 with
                  | false =>
                    have e : checkV ⟨xid, xn, xview, xlast, xstatus, xlog, xcommit, xmat, xmarks, xsent, xbals, xelapsed, xtimeout, xdraws⟩ = false := by unfold checkV okA okB; dsimp only; simp only [s1, a0, a1, a2, a3, a4, b0, b1, b2]; first | rfl | (simp; done)
                    rw [e]
                    clear e
                    go_enter Try.func19, Try.ntmps19
                    go_wp2_with (first | (go_at_call 14; refine (within.calls _ _ _ _).mono ?_; rintro e w' ⟨rfl, rfl⟩) | (go_at_call 34; refine (mayLog.calls AL cL xlog _ (Rd.below HR.out HB.out).1.1).mono ?_; rw [b0]; rintro e w1 ⟨rfl, hb1⟩; replace HK := Aside0.mk (blk_below HK.out hb1); replace HB := Aside0.mk (HB.out.trans (hb1.mono HB.out.size)); clear hb1; have x0 := (blk_cell HK.out 0).trans rfl; have x1 := (blk_cell HK.out 1).trans rfl; have x2 := (blk_cell HK.out 2).trans rfl; have x3 := (blk_cell HK.out 3).trans rfl; have x4 := (blk_cell HK.out 4).trans rfl; have x5 := (blk_cell HK.out 5).trans rfl; have x6 := (blk_cell HK.out 6).trans rfl; have x7 := (blk_cell HK.out 7).trans rfl; have x8 := (blk_cell HK.out 8).trans rfl; have x9 := (blk_cell HK.out 9).trans rfl; have x10 := (blk_cell HK.out 10).trans rfl; have x11 := (blk_cell HK.out 11).trans rfl; have x12 := (blk_cell HK.out 12).trans rfl; have x13 := (blk_cell HK.out 13).trans rfl))
                    go_ret
                    exact ⟨rfl, HB.out⟩
                  | true =>
                    cases b3 : wi xtimeout 0 1073741824 with
                    | false =>
                      have e : checkV ⟨xid, xn, xview, xlast, xstatus, xlog, xcommit, xmat, xmarks, xsent, xbals, xelapsed, xtimeout, xdraws⟩ = false := by unfold checkV okA okB; dsimp only; simp only [s1, a0, a1, a2, a3, a4, b0, b1, b2, b3]; first | rfl | (simp; done)
                      rw [e]
                      clear e
                      go_enter Try.func19, Try.ntmps19
                      go_wp2_with (first | (go_at_call 14; refine (within.calls _ _ _ _).mono ?_; rintro e w' ⟨rfl, rfl⟩) | (go_at_call 34; refine (mayLog.calls AL cL xlog _ (Rd.below HR.out HB.out).1.1).mono ?_; rw [b0]; rintro e w1 ⟨rfl, hb1⟩; replace HK := Aside0.mk (blk_below HK.out hb1); replace HB := Aside0.mk (HB.out.trans (hb1.mono HB.out.size)); clear hb1; have x0 := (blk_cell HK.out 0).trans rfl; have x1 := (blk_cell HK.out 1).trans rfl; have x2 := (blk_cell HK.out 2).trans rfl; have x3 := (blk_cell HK.out 3).trans rfl; have x4 := (blk_cell HK.out 4).trans rfl; have x5 := (blk_cell HK.out 5).trans rfl; have x6 := (blk_cell HK.out 6).trans rfl; have x7 := (blk_cell HK.out 7).trans rfl; have x8 := (blk_cell HK.out 8).trans rfl; have x9 := (blk_cell HK.out 9).trans rfl; have x10 := (blk_cell HK.out 10).trans rfl; have x11 := (blk_cell HK.out 11).trans rfl; have x12 := (blk_cell HK.out 12).trans rfl; have x13 := (blk_cell HK.out 13).trans rfl))
                      go_ret
                      exact ⟨rfl, HB.out⟩
                    | true =>
                      cases b4 : decide ((xdraws.length : Int) ≤ 4096) with
                      | false =>
                        have e : checkV ⟨xid, xn, xview, xlast, xstatus, xlog, xcommit, xmat, xmarks, xsent, xbals, xelapsed, xtimeout, xdraws⟩ = false := by unfold checkV okA okB; dsimp only; simp only [s1, a0, a1, a2, a3, a4, b0, b1, b2, b3, b4]; first | rfl | (simp; done)
                        rw [e]
                        clear e
                        go_enter Try.func19, Try.ntmps19
                        go_wp2_with (first | (go_at_call 14; refine (within.calls _ _ _ _).mono ?_; rintro e w' ⟨rfl, rfl⟩) | (go_at_call 34; refine (mayLog.calls AL cL xlog _ (Rd.below HR.out HB.out).1.1).mono ?_; rw [b0]; rintro e w1 ⟨rfl, hb1⟩; replace HK := Aside0.mk (blk_below HK.out hb1); replace HB := Aside0.mk (HB.out.trans (hb1.mono HB.out.size)); clear hb1; have x0 := (blk_cell HK.out 0).trans rfl; have x1 := (blk_cell HK.out 1).trans rfl; have x2 := (blk_cell HK.out 2).trans rfl; have x3 := (blk_cell HK.out 3).trans rfl; have x4 := (blk_cell HK.out 4).trans rfl; have x5 := (blk_cell HK.out 5).trans rfl; have x6 := (blk_cell HK.out 6).trans rfl; have x7 := (blk_cell HK.out 7).trans rfl; have x8 := (blk_cell HK.out 8).trans rfl; have x9 := (blk_cell HK.out 9).trans rfl; have x10 := (blk_cell HK.out 10).trans rfl; have x11 := (blk_cell HK.out 11).trans rfl; have x12 := (blk_cell HK.out 12).trans rfl; have x13 := (blk_cell HK.out 13).trans rfl))
                        go_ret
                        exact ⟨rfl, HB.out⟩
                      | true =>
                        cases c0 : ((xmat.length : Int) != szM xid xn xview xstatus) with
                        | true =>
                          have e : checkV ⟨xid, xn, xview, xlast, xstatus, xlog, xcommit, xmat, xmarks, xsent, xbals, xelapsed, xtimeout, xdraws⟩ = false := by unfold checkV okA okB badC; dsimp only; simp only [s1, a0, a1, a2, a3, a4, b0, b1, b2, b3, b4, c0]; first | rfl | (simp; done)
                          rw [e]
                          clear e
                          go_enter Try.func19, Try.ntmps19
                          go_wp2_with (first | (go_at_call 14; refine (within.calls _ _ _ _).mono ?_; rintro e w' ⟨rfl, rfl⟩) | (go_at_call 34; refine (mayLog.calls AL cL xlog _ (Rd.below HR.out HB.out).1.1).mono ?_; rw [b0]; rintro e w1 ⟨rfl, hb1⟩; replace HK := Aside0.mk (blk_below HK.out hb1); replace HB := Aside0.mk (HB.out.trans (hb1.mono HB.out.size)); clear hb1; have x0 := (blk_cell HK.out 0).trans rfl; have x1 := (blk_cell HK.out 1).trans rfl; have x2 := (blk_cell HK.out 2).trans rfl; have x3 := (blk_cell HK.out 3).trans rfl; have x4 := (blk_cell HK.out 4).trans rfl; have x5 := (blk_cell HK.out 5).trans rfl; have x6 := (blk_cell HK.out 6).trans rfl; have x7 := (blk_cell HK.out 7).trans rfl; have x8 := (blk_cell HK.out 8).trans rfl; have x9 := (blk_cell HK.out 9).trans rfl; have x10 := (blk_cell HK.out 10).trans rfl; have x11 := (blk_cell HK.out 11).trans rfl; have x12 := (blk_cell HK.out 12).trans rfl; have x13 := (blk_cell HK.out 13).trans rfl) | (go_at_call 35; refine (sizes.calls w.heap.size xid xn xview xstatus hn0 _ x0 x1 x2 x4).mono ?_; rintro e w' ⟨rfl, ⟨m, rfl⟩⟩; replace HB := Aside0.mk (pw_below_drewN HB.out m); replace HK := Aside0.mk (blk_below HK.out (pw_below_drewN (Below.refl _ _) m))))
                          go_ret
                          exact ⟨rfl, HB.out⟩
                        | false =>
                          cases c1 : ((xmarks.length : Int) != szK xid xn xview xstatus) with
                          | true =>
                            have e : checkV ⟨xid, xn, xview, xlast, xstatus, xlog, xcommit, xmat, xmarks, xsent, xbals, xelapsed, xtimeout, xdraws⟩ = false := by unfold checkV okA okB badC; dsimp only; simp only [s1, a0, a1, a2, a3, a4, b0, b1, b2, b3, b4, c0, c1]; first | rfl | (simp; done)
                            rw [e]
                            clear e
                            go_enter Try.func19, Try.ntmps19
                            go_wp2_with (first | (go_at_call 14; refine (within.calls _ _ _ _).mono ?_; rintro e w' ⟨rfl, rfl⟩) | (go_at_call 34; refine (mayLog.calls AL cL xlog _ (Rd.below HR.out HB.out).1.1).mono ?_; rw [b0]; rintro e w1 ⟨rfl, hb1⟩; replace HK := Aside0.mk (blk_below HK.out hb1); replace HB := Aside0.mk (HB.out.trans (hb1.mono HB.out.size)); clear hb1; have x0 := (blk_cell HK.out 0).trans rfl; have x1 := (blk_cell HK.out 1).trans rfl; have x2 := (blk_cell HK.out 2).trans rfl; have x3 := (blk_cell HK.out 3).trans rfl; have x4 := (blk_cell HK.out 4).trans rfl; have x5 := (blk_cell HK.out 5).trans rfl; have x6 := (blk_cell HK.out 6).trans rfl; have x7 := (blk_cell HK.out 7).trans rfl; have x8 := (blk_cell HK.out 8).trans rfl; have x9 := (blk_cell HK.out 9).trans rfl; have x10 := (blk_cell HK.out 10).trans rfl; have x11 := (blk_cell HK.out 11).trans rfl; have x12 := (blk_cell HK.out 12).trans rfl; have x13 := (blk_cell HK.out 13).trans rfl) | (go_at_call 35; refine (sizes.calls w.heap.size xid xn xview xstatus hn0 _ x0 x1 x2 x4).mono ?_; rintro e w' ⟨rfl, ⟨m, rfl⟩⟩; replace HB := Aside0.mk (pw_below_drewN HB.out m); replace HK := Aside0.mk (blk_below HK.out (pw_below_drewN (Below.refl _ _) m))))
                            go_ret
                            exact ⟨rfl, HB.out⟩
                          | false =>
                            cases c2 : ((xbals.length : Int) != szB xid xn xview xstatus) with
                            | true =>
                              have e : checkV ⟨xid, xn, xview, xlast, xstatus, xlog, xcommit, xmat, xmarks, xsent, xbals, xelapsed, xtimeout, xdraws⟩ = false := by unfold checkV okA okB badC; dsimp only; simp only [s1, a0, a1, a2, a3, a4, b0, b1, b2, b3, b4, c0, c1, c2]; first | rfl | (simp; done)
                              rw [e]
                              clear e
                              go_enter Try.func19, Try.ntmps19
                              go_wp2_with (first | (go_at_call 14; refine (within.calls _ _ _ _).mono ?_; rintro e w' ⟨rfl, rfl⟩) | (go_at_call 34; refine (mayLog.calls AL cL xlog _ (Rd.below HR.out HB.out).1.1).mono ?_; rw [b0]; rintro e w1 ⟨rfl, hb1⟩; replace HK := Aside0.mk (blk_below HK.out hb1); replace HB := Aside0.mk (HB.out.trans (hb1.mono HB.out.size)); clear hb1; have x0 := (blk_cell HK.out 0).trans rfl; have x1 := (blk_cell HK.out 1).trans rfl; have x2 := (blk_cell HK.out 2).trans rfl; have x3 := (blk_cell HK.out 3).trans rfl; have x4 := (blk_cell HK.out 4).trans rfl; have x5 := (blk_cell HK.out 5).trans rfl; have x6 := (blk_cell HK.out 6).trans rfl; have x7 := (blk_cell HK.out 7).trans rfl; have x8 := (blk_cell HK.out 8).trans rfl; have x9 := (blk_cell HK.out 9).trans rfl; have x10 := (blk_cell HK.out 10).trans rfl; have x11 := (blk_cell HK.out 11).trans rfl; have x12 := (blk_cell HK.out 12).trans rfl; have x13 := (blk_cell HK.out 13).trans rfl) | (go_at_call 35; refine (sizes.calls w.heap.size xid xn xview xstatus hn0 _ x0 x1 x2 x4).mono ?_; rintro e w' ⟨rfl, ⟨m, rfl⟩⟩; replace HB := Aside0.mk (pw_below_drewN HB.out m); replace HK := Aside0.mk (blk_below HK.out (pw_below_drewN (Below.refl _ _) m))))
                              go_ret
                              exact ⟨rfl, HB.out⟩
                            | false =>
                              cases c3 : xmat.any badN with
                              | true =>
                                have e : checkV ⟨xid, xn, xview, xlast, xstatus, xlog, xcommit, xmat, xmarks, xsent, xbals, xelapsed, xtimeout, xdraws⟩ = false := by unfold checkV okA okB badC; dsimp only; simp only [s1, a0, a1, a2, a3, a4, b0, b1, b2, b3, b4, c0, c1, c2, c3]; first | rfl | (simp; done)
                                rw [e]
                                clear e
                                go_enter Try.func19, Try.ntmps19
                                go_wp2_with (first | (go_at_call 14; refine (within.calls _ _ _ _).mono ?_; rintro e w' ⟨rfl, rfl⟩) | (go_at_call 34; refine (mayLog.calls AL cL xlog _ (Rd.below HR.out HB.out).1.1).mono ?_; rw [b0]; rintro e w1 ⟨rfl, hb1⟩; replace HK := Aside0.mk (blk_below HK.out hb1); replace HB := Aside0.mk (HB.out.trans (hb1.mono HB.out.size)); clear hb1; have x0 := (blk_cell HK.out 0).trans rfl; have x1 := (blk_cell HK.out 1).trans rfl; have x2 := (blk_cell HK.out 2).trans rfl; have x3 := (blk_cell HK.out 3).trans rfl; have x4 := (blk_cell HK.out 4).trans rfl; have x5 := (blk_cell HK.out 5).trans rfl; have x6 := (blk_cell HK.out 6).trans rfl; have x7 := (blk_cell HK.out 7).trans rfl; have x8 := (blk_cell HK.out 8).trans rfl; have x9 := (blk_cell HK.out 9).trans rfl; have x10 := (blk_cell HK.out 10).trans rfl; have x11 := (blk_cell HK.out 11).trans rfl; have x12 := (blk_cell HK.out 12).trans rfl; have x13 := (blk_cell HK.out 13).trans rfl) | (go_at_call 35; refine (sizes.calls w.heap.size xid xn xview xstatus hn0 _ x0 x1 x2 x4).mono ?_; rintro e w' ⟨rfl, ⟨m, rfl⟩⟩; replace HB := Aside0.mk (pw_below_drewN HB.out m); replace HK := Aside0.mk (blk_below HK.out (pw_below_drewN (Below.refl _ _) m))) | (go_at_call 37; refine (ContI.calls AM cM xmat _ (Rd.below HR.out HB.out).2.1.1).mono ?_; rw [c3]; rintro e w2 ⟨rfl, hb2⟩; replace HK := Aside0.mk (blk_below HK.out hb2); replace HB := Aside0.mk (HB.out.trans (hb2.mono HB.out.size)); clear hb2; have x10 := (blk_cell HK.out 10).trans rfl))
                                go_ret
                                exact ⟨rfl, HB.out⟩
                              | false =>
                                cases c4 : xbals.any mayNot with
                                | true =>
                                  have e : checkV ⟨xid, xn, xview, xlast, xstatus, xlog, xcommit, xmat, xmarks, xsent, xbals, xelapsed, xtimeout, xdraws⟩ = false := by unfold checkV okA okB badC; dsimp only; simp only [s1, a0, a1, a2, a3, a4, b0, b1, b2, b3, b4, c0, c1, c2, c3, c4]; first | rfl | (simp; done)
                                  rw [e]
                                  clear e
                                  go_enter Try.func19, Try.ntmps19
                                  go_wp2_with (first | (go_at_call 14; refine (within.calls _ _ _ _).mono ?_; rintro e w' ⟨rfl, rfl⟩) | (go_at_call 34; refine (mayLog.calls AL cL xlog _ (Rd.below HR.out HB.out).1.1).mono ?_; rw [b0]; rintro e w1 ⟨rfl, hb1⟩; replace HK := Aside0.mk (blk_below HK.out hb1); replace HB := Aside0.mk (HB.out.trans (hb1.mono HB.out.size)); clear hb1; have x0 := (blk_cell HK.out 0).trans rfl; have x1 := (blk_cell HK.out 1).trans rfl; have x2 := (blk_cell HK.out 2).trans rfl; have x3 := (blk_cell HK.out 3).trans rfl; have x4 := (blk_cell HK.out 4).trans rfl; have x5 := (blk_cell HK.out 5).trans rfl; have x6 := (blk_cell HK.out 6).trans rfl; have x7 := (blk_cell HK.out 7).trans rfl; have x8 := (blk_cell HK.out 8).trans rfl; have x9 := (blk_cell HK.out 9).trans rfl; have x10 := (blk_cell HK.out 10).trans rfl; have x11 := (blk_cell HK.out 11).trans rfl; have x12 := (blk_cell HK.out 12).trans rfl; have x13 := (blk_cell HK.out 13).trans rfl) | (go_at_call 35; refine (sizes.calls w.heap.size xid xn xview xstatus hn0 _ x0 x1 x2 x4).mono ?_; rintro e w' ⟨rfl, ⟨m, rfl⟩⟩; replace HB := Aside0.mk (pw_below_drewN HB.out m); replace HK := Aside0.mk (blk_below HK.out (pw_below_drewN (Below.refl _ _) m))) | (go_at_call 37; refine (ContI.calls AM cM xmat _ (Rd.below HR.out HB.out).2.1.1).mono ?_; rw [c3]; rintro e w2 ⟨rfl, hb2⟩; replace HK := Aside0.mk (blk_below HK.out hb2); replace HB := Aside0.mk (HB.out.trans (hb2.mono HB.out.size)); clear hb2; have x10 := (blk_cell HK.out 10).trans rfl) | (go_at_call 38; refine (ContB.calls AB cB xbals _ (Rd.below HR.out HB.out).2.2.2.1.1).mono ?_; rw [c4]; rintro e w3 ⟨rfl, hb3⟩; replace HK := Aside0.mk (blk_below HK.out hb3); replace HB := Aside0.mk (HB.out.trans (hb3.mono HB.out.size)); clear hb3))
                                  go_ret
                                  exact ⟨rfl, HB.out⟩
                                | false =>
                                  have e : checkV ⟨xid, xn, xview, xlast, xstatus, xlog, xcommit, xmat, xmarks, xsent, xbals, xelapsed, xtimeout, xdraws⟩ = true := by unfold checkV okA okB badC; dsimp only; simp only [s1, a0, a1, a2, a3, a4, b0, b1, b2, b3, b4, c0, c1, c2, c3, c4]; first | rfl | (simp; done)
                                  rw [e]
                                  clear e
                                  go_enter Try.func19, Try.ntmps19
                                  go_wp2_with (first | (go_at_call 14; refine (within.calls _ _ _ _).mono ?_; rintro e w' ⟨rfl, rfl⟩) | (go_at_call 34; refine (mayLog.calls AL cL xlog _ (Rd.below HR.out HB.out).1.1).mono ?_; rw [b0]; rintro e w1 ⟨rfl, hb1⟩; replace HK := Aside0.mk (blk_below HK.out hb1); replace HB := Aside0.mk (HB.out.trans (hb1.mono HB.out.size)); clear hb1; have x0 := (blk_cell HK.out 0).trans rfl; have x1 := (blk_cell HK.out 1).trans rfl; have x2 := (blk_cell HK.out 2).trans rfl; have x3 := (blk_cell HK.out 3).trans rfl; have x4 := (blk_cell HK.out 4).trans rfl; have x5 := (blk_cell HK.out 5).trans rfl; have x6 := (blk_cell HK.out 6).trans rfl; have x7 := (blk_cell HK.out 7).trans rfl; have x8 := (blk_cell HK.out 8).trans rfl; have x9 := (blk_cell HK.out 9).trans rfl; have x10 := (blk_cell HK.out 10).trans rfl; have x11 := (blk_cell HK.out 11).trans rfl; have x12 := (blk_cell HK.out 12).trans rfl; have x13 := (blk_cell HK.out 13).trans rfl) | (go_at_call 35; refine (sizes.calls w.heap.size xid xn xview xstatus hn0 _ x0 x1 x2 x4).mono ?_; rintro e w' ⟨rfl, ⟨m, rfl⟩⟩; replace HB := Aside0.mk (pw_below_drewN HB.out m); replace HK := Aside0.mk (blk_below HK.out (pw_below_drewN (Below.refl _ _) m))) | (go_at_call 37; refine (ContI.calls AM cM xmat _ (Rd.below HR.out HB.out).2.1.1).mono ?_; rw [c3]; rintro e w2 ⟨rfl, hb2⟩; replace HK := Aside0.mk (blk_below HK.out hb2); replace HB := Aside0.mk (HB.out.trans (hb2.mono HB.out.size)); clear hb2; have x10 := (blk_cell HK.out 10).trans rfl) | (go_at_call 38; refine (ContB.calls AB cB xbals _ (Rd.below HR.out HB.out).2.2.2.1.1).mono ?_; rw [c4]; rintro e w3 ⟨rfl, hb3⟩; replace HK := Aside0.mk (blk_below HK.out hb3); replace HB := Aside0.mk (HB.out.trans (hb3.mono HB.out.size)); clear hb3))
                                  go_ret
                                  exact ⟨rfl, HB.out⟩
  | false =>
    cases a0 : wi xn 1 9 with
    | false =>
      have e : checkV ⟨xid, xn, xview, xlast, xstatus, xlog, xcommit, xmat, xmarks, xsent, xbals, xelapsed, xtimeout, xdraws⟩ = false := by unfold checkV okA; dsimp only; simp only [s1, a0]; first | rfl | (simp; done)
      rw [e]
      clear e
      go_enter Try.func19, Try.ntmps19
      go_wp2_with (first | (go_at_call 14; refine (within.calls _ _ _ _).mono ?_; rintro e w' ⟨rfl, rfl⟩))
      go_ret
      exact ⟨rfl, HB.out⟩
    | true =>
      have hn := wi_iff.1 a0
      have hwn : wrap64 (xn - 1) = xn - 1 := by unfold wrap64; omega
      have hn0 : xn ≠ 0 := by omega
      clear hn
      cases a1 : wi xid 0 (xn - 1) with
      | false =>
        have e : checkV ⟨xid, xn, xview, xlast, xstatus, xlog, xcommit, xmat, xmarks, xsent, xbals, xelapsed, xtimeout, xdraws⟩ = false := by unfold checkV okA; dsimp only; simp only [s1, a0, a1]; first | rfl | (simp; done)
        rw [e]
        clear e
        go_enter Try.func19, Try.ntmps19
        go_wp2_with (first | (go_at_call 14; refine (within.calls _ _ _ _).mono ?_; rintro e w' ⟨rfl, rfl⟩))
        go_ret
        exact ⟨rfl, HB.out⟩
      | true =>
        cases a2 : wi xview 0 1099511627776 with
        | false =>
          have e : checkV ⟨xid, xn, xview, xlast, xstatus, xlog, xcommit, xmat, xmarks, xsent, xbals, xelapsed, xtimeout, xdraws⟩ = false := by unfold checkV okA; dsimp only; simp only [s1, a0, a1, a2]; first | rfl | (simp; done)
          rw [e]
          clear e
          go_enter Try.func19, Try.ntmps19
          go_wp2_with (first | (go_at_call 14; refine (within.calls _ _ _ _).mono ?_; rintro e w' ⟨rfl, rfl⟩))
          go_ret
          exact ⟨rfl, HB.out⟩
        | true =>
          cases a3 : wi xlast 0 xview with
          | false =>
            have e : checkV ⟨xid, xn, xview, xlast, xstatus, xlog, xcommit, xmat, xmarks, xsent, xbals, xelapsed, xtimeout, xdraws⟩ = false := by unfold checkV okA; dsimp only; simp only [s1, a0, a1, a2, a3]; first | rfl | (simp; done)
            rw [e]
            clear e
            go_enter Try.func19, Try.ntmps19
            go_wp2_with (first | (go_at_call 14; refine (within.calls _ _ _ _).mono ?_; rintro e w' ⟨rfl, rfl⟩))
            go_ret
            exact ⟨rfl, HB.out⟩
          | true =>
            cases a4 : wi xstatus 0 1 with
            | false =>
              have e : checkV ⟨xid, xn, xview, xlast, xstatus, xlog, xcommit, xmat, xmarks, xsent, xbals, xelapsed, xtimeout, xdraws⟩ = false := by unfold checkV okA; dsimp only; simp only [s1, a0, a1, a2, a3, a4]; first | rfl | (simp; done)
              rw [e]
              clear e
              go_enter Try.func19, Try.ntmps19
              go_wp2_with (first | (go_at_call 14; refine (within.calls _ _ _ _).mono ?_; rintro e w' ⟨rfl, rfl⟩))
              go_ret
              exact ⟨rfl, HB.out⟩
            | true =>
              cases a5 : (xlast == xview) with
              | false =>
                have e : checkV ⟨xid, xn, xview, xlast, xstatus, xlog, xcommit, xmat, xmarks, xsent, xbals, xelapsed, xtimeout, xdraws⟩ = false := by unfold checkV okA; dsimp only; simp only [s1, a0, a1, a2, a3, a4, a5]; first | rfl | (simp; done)
                rw [e]
                clear e
                go_enter Try.func19, Try.ntmps19
                go_wp2_with (first | (go_at_call 14; refine (within.calls _ _ _ _).mono ?_; rintro e w' ⟨rfl, rfl⟩))
                go_ret
                exact ⟨rfl, HB.out⟩
              | true =>
                cases b0 : mayLogV xlog with
                | false =>
                  have e : checkV ⟨xid, xn, xview, xlast, xstatus, xlog, xcommit, xmat, xmarks, xsent, xbals, xelapsed, xtimeout, xdraws⟩ = false := by unfold checkV okA okB; dsimp only; simp only [s1, a0, a1, a2, a3, a4, a5, b0]; first | rfl | (simp; done)
                  rw [e]
                  clear e
                  go_enter Try.func19, Try.ntmps19
                  go_wp2_with (first | (go_at_call 14; refine (within.calls _ _ _ _).mono ?_; rintro e w' ⟨rfl, rfl⟩) | (go_at_call 34; refine (mayLog.calls AL cL xlog _ (Rd.below HR.out HB.out).1.1).mono ?_; rw [b0]; rintro e w1 ⟨rfl, hb1⟩; replace HK := Aside0.mk (blk_below HK.out hb1); replace HB := Aside0.mk (HB.out.trans (hb1.mono HB.out.size)); clear hb1; have x0 := (blk_cell HK.out 0).trans rfl; have x1 := (blk_cell HK.out 1).trans rfl; have x2 := (blk_cell HK.out 2).trans rfl; have x3 := (blk_cell HK.out 3).trans rfl; have x4 := (blk_cell HK.out 4).trans rfl; have x5 := (blk_cell HK.out 5).trans rfl; have x6 := (blk_cell HK.out 6).trans rfl; have x7 := (blk_cell HK.out 7).trans rfl; have x8 := (blk_cell HK.out 8).trans rfl; have x9 := (blk_cell HK.out 9).trans rfl; have x10 := (blk_cell HK.out 10).trans rfl; have x11 := (blk_cell HK.out 11).trans rfl; have x12 := (blk_cell HK.out 12).trans rfl; have x13 := (blk_cell HK.out 13).trans rfl))
                  go_ret
                  exact ⟨rfl, HB.out⟩
                | true =>
                  cases b1 : wi xcommit 0 xlog.length with
                  | false =>
                    have e : checkV ⟨xid, xn, xview, xlast, xstatus, xlog, xcommit, xmat, xmarks, xsent, xbals, xelapsed, xtimeout, xdraws⟩ = false := by unfold checkV okA okB; dsimp only; simp only [s1, a0, a1, a2, a3, a4, a5, b0, b1]; first | rfl | (simp; done)
                    rw [e]
                    clear e
                    go_enter Try.func19, Try.ntmps19
                    go_wp2_with (first | (go_at_call 14; refine (within.calls _ _ _ _).mono ?_; rintro e w' ⟨rfl, rfl⟩) | (go_at_call 34; refine (mayLog.calls AL cL xlog _ (Rd.below HR.out HB.out).1.1).mono ?_; rw [b0]; rintro e w1 ⟨rfl, hb1⟩; replace HK := Aside0.mk (blk_below HK.out hb1); replace HB := Aside0.mk (HB.out.trans (hb1.mono HB.out.size)); clear hb1; have x0 := (blk_cell HK.out 0).trans rfl; have x1 := (blk_cell HK.out 1).trans rfl; have x2 := (blk_cell HK.out 2).trans rfl; have x3 := (blk_cell HK.out 3).trans rfl; have x4 := (blk_cell HK.out 4).trans rfl; have x5 := (blk_cell HK.out 5).trans rfl; have x6 := (blk_cell HK.out 6).trans rfl; have x7 := (blk_cell HK.out 7).trans rfl; have x8 := (blk_cell HK.out 8).trans rfl; have x9 := (blk_cell HK.out 9).trans rfl; have x10 := (blk_cell HK.out 10).trans rfl; have x11 := (blk_cell HK.out 11).trans rfl; have x12 := (blk_cell HK.out 12).trans rfl; have x13 := (blk_cell HK.out 13).trans rfl))
                    go_ret
                    exact ⟨rfl, HB.out⟩
                  | true =>
                    cases b2 : wi xelapsed 0 1073741824 with
                    | false =>
                      have e : checkV ⟨xid, xn, xview, xlast, xstatus, xlog, xcommit, xmat, xmarks, xsent, xbals, xelapsed, xtimeout, xdraws⟩ = false := by unfold checkV okA okB; dsimp only; simp only [s1, a0, a1, a2, a3, a4, a5, b0, b1, b2]; first | rfl | (simp; done)
                      rw [e]
                      clear e
                      go_enter Try.func19, Try.ntmps19
                      go_wp2_with (first | (go_at_call 14; refine (within.calls _ _ _ _).mono ?_; rintro e w' ⟨rfl, rfl⟩) | (go_at_call 34; refine (mayLog.calls AL cL xlog _ (Rd.below HR.out HB.out).1.1).mono ?_; rw [b0]; rintro e w1 ⟨rfl, hb1⟩; replace HK := Aside0.mk (blk_below HK.out hb1); replace HB := Aside0.mk (HB.out.trans (hb1.mono HB.out.size)); clear hb1; have x0 := (blk_cell HK.out 0).trans rfl; have x1 := (blk_cell HK.out 1).trans rfl; have x2 := (blk_cell HK.out 2).trans rfl; have x3 := (blk_cell HK.out 3).trans rfl; have x4 := (blk_cell HK.out 4).trans rfl; have x5 := (blk_cell HK.out 5).trans rfl; have x6 := (blk_cell HK.out 6).trans rfl; have x7 := (blk_cell HK.out 7).trans rfl; have x8 := (blk_cell HK.out 8).trans rfl; have x9 := (blk_cell HK.out 9).trans rfl; have x10 := (blk_cell HK.out 10).trans rfl; have x11 := (blk_cell HK.out 11).trans rfl; have x12 := (blk_cell HK.out 12).trans rfl; have x13 := (blk_cell HK.out 13).trans rfl))
                      go_ret
                      exact ⟨rfl, HB.out⟩
                    | true =>
                      cases b3 : wi xtimeout 0 1073741824 with
                      | false =>
                        have e : checkV ⟨xid, xn, xview, xlast, xstatus, xlog, xcommit, xmat, xmarks, xsent, xbals, xelapsed, xtimeout, xdraws⟩ = false := by unfold checkV okA okB; dsimp only; simp only [s1, a0, a1, a2, a3, a4, a5, b0, b1, b2, b3]; first | rfl | (simp; done)
                        rw [e]
                        clear e
                        go_enter Try.func19, Try.ntmps19
                        go_wp2_with (first | (go_at_call 14; refine (within.calls _ _ _ _).mono ?_; rintro e w' ⟨rfl, rfl⟩) | (go_at_call 34; refine (mayLog.calls AL cL xlog _ (Rd.below HR.out HB.out).1.1).mono ?_; rw [b0]; rintro e w1 ⟨rfl, hb1⟩; replace HK := Aside0.mk (blk_below HK.out hb1); replace HB := Aside0.mk (HB.out.trans (hb1.mono HB.out.size)); clear hb1; have x0 := (blk_cell HK.out 0).trans rfl; have x1 := (blk_cell HK.out 1).trans rfl; have x2 := (blk_cell HK.out 2).trans rfl; have x3 := (blk_cell HK.out 3).trans rfl; have x4 := (blk_cell HK.out 4).trans rfl; have x5 := (blk_cell HK.out 5).trans rfl; have x6 := (blk_cell HK.out 6).trans rfl; have x7 := (blk_cell HK.out 7).trans rfl; have x8 := (blk_cell HK.out 8).trans rfl; have x9 := (blk_cell HK.out 9).trans rfl; have x10 := (blk_cell HK.out 10).trans rfl; have x11 := (blk_cell HK.out 11).trans rfl; have x12 := (blk_cell HK.out 12).trans rfl; have x13 := (blk_cell HK.out 13).trans rfl))
                        go_ret
                        exact ⟨rfl, HB.out⟩
                      | true =>
                        cases b4 : decide ((xdraws.length : Int) ≤ 4096) with
                        | false =>
                          have e : checkV ⟨xid, xn, xview, xlast, xstatus, xlog, xcommit, xmat, xmarks, xsent, xbals, xelapsed, xtimeout, xdraws⟩ = false := by unfold checkV okA okB; dsimp only; simp only [s1, a0, a1, a2, a3, a4, a5, b0, b1, b2, b3, b4]; first | rfl | (simp; done)
                          rw [e]
                          clear e
                          go_enter Try.func19, Try.ntmps19
                          go_wp2_with (first | (go_at_call 14; refine (within.calls _ _ _ _).mono ?_; rintro e w' ⟨rfl, rfl⟩) | (go_at_call 34; refine (mayLog.calls AL cL xlog _ (Rd.below HR.out HB.out).1.1).mono ?_; rw [b0]; rintro e w1 ⟨rfl, hb1⟩; replace HK := Aside0.mk (blk_below HK.out hb1); replace HB := Aside0.mk (HB.out.trans (hb1.mono HB.out.size)); clear hb1; have x0 := (blk_cell HK.out 0).trans rfl; have x1 := (blk_cell HK.out 1).trans rfl; have x2 := (blk_cell HK.out 2).trans rfl; have x3 := (blk_cell HK.out 3).trans rfl; have x4 := (blk_cell HK.out 4).trans rfl; have x5 := (blk_cell HK.out 5).trans rfl; have x6 := (blk_cell HK.out 6).trans rfl; have x7 := (blk_cell HK.out 7).trans rfl; have x8 := (blk_cell HK.out 8).trans rfl; have x9 := (blk_cell HK.out 9).trans rfl; have x10 := (blk_cell HK.out 10).trans rfl; have x11 := (blk_cell HK.out 11).trans rfl; have x12 := (blk_cell HK.out 12).trans rfl; have x13 := (blk_cell HK.out 13).trans rfl))
                          go_ret
                          exact ⟨rfl, HB.out⟩
                        | true =>
                          cases xsent with
                          | true =>
                            have e : checkV ⟨xid, xn, xview, xlast, xstatus, xlog, xcommit, xmat, xmarks, true, xbals, xelapsed, xtimeout, xdraws⟩ = false := by unfold checkV okA okB; dsimp only; simp only [s1, a0, a1, a2, a3, a4, a5, b0, b1, b2, b3, b4]; first | rfl | (simp; done)
                            rw [e]
                            clear e
                            go_enter Try.func19, Try.ntmps19
                            go_wp2_with (first | (go_at_call 14; refine (within.calls _ _ _ _).mono ?_; rintro e w' ⟨rfl, rfl⟩) | (go_at_call 34; refine (mayLog.calls AL cL xlog _ (Rd.below HR.out HB.out).1.1).mono ?_; rw [b0]; rintro e w1 ⟨rfl, hb1⟩; replace HK := Aside0.mk (blk_below HK.out hb1); replace HB := Aside0.mk (HB.out.trans (hb1.mono HB.out.size)); clear hb1; have x0 := (blk_cell HK.out 0).trans rfl; have x1 := (blk_cell HK.out 1).trans rfl; have x2 := (blk_cell HK.out 2).trans rfl; have x3 := (blk_cell HK.out 3).trans rfl; have x4 := (blk_cell HK.out 4).trans rfl; have x5 := (blk_cell HK.out 5).trans rfl; have x6 := (blk_cell HK.out 6).trans rfl; have x7 := (blk_cell HK.out 7).trans rfl; have x8 := (blk_cell HK.out 8).trans rfl; have x9 := (blk_cell HK.out 9).trans rfl; have x10 := (blk_cell HK.out 10).trans rfl; have x11 := (blk_cell HK.out 11).trans rfl; have x12 := (blk_cell HK.out 12).trans rfl; have x13 := (blk_cell HK.out 13).trans rfl))
                            go_ret
                            exact ⟨rfl, HB.out⟩
                          | false =>
                            cases c0 : ((xmat.length : Int) != szM xid xn xview xstatus) with
                            | true =>
                              have e : checkV ⟨xid, xn, xview, xlast, xstatus, xlog, xcommit, xmat, xmarks, false, xbals, xelapsed, xtimeout, xdraws⟩ = false := by unfold checkV okA okB badC; dsimp only; simp only [s1, a0, a1, a2, a3, a4, a5, b0, b1, b2, b3, b4, c0]; first | rfl | (simp; done)
                              rw [e]
                              clear e
                              go_enter Try.func19, Try.ntmps19
                              go_wp2_with (first | (go_at_call 14; refine (within.calls _ _ _ _).mono ?_; rintro e w' ⟨rfl, rfl⟩) | (go_at_call 34; refine (mayLog.calls AL cL xlog _ (Rd.below HR.out HB.out).1.1).mono ?_; rw [b0]; rintro e w1 ⟨rfl, hb1⟩; replace HK := Aside0.mk (blk_below HK.out hb1); replace HB := Aside0.mk (HB.out.trans (hb1.mono HB.out.size)); clear hb1; have x0 := (blk_cell HK.out 0).trans rfl; have x1 := (blk_cell HK.out 1).trans rfl; have x2 := (blk_cell HK.out 2).trans rfl; have x3 := (blk_cell HK.out 3).trans rfl; have x4 := (blk_cell HK.out 4).trans rfl; have x5 := (blk_cell HK.out 5).trans rfl; have x6 := (blk_cell HK.out 6).trans rfl; have x7 := (blk_cell HK.out 7).trans rfl; have x8 := (blk_cell HK.out 8).trans rfl; have x9 := (blk_cell HK.out 9).trans rfl; have x10 := (blk_cell HK.out 10).trans rfl; have x11 := (blk_cell HK.out 11).trans rfl; have x12 := (blk_cell HK.out 12).trans rfl; have x13 := (blk_cell HK.out 13).trans rfl) | (go_at_call 35; refine (sizes.calls w.heap.size xid xn xview xstatus hn0 _ x0 x1 x2 x4).mono ?_; rintro e w' ⟨rfl, ⟨m, rfl⟩⟩; replace HB := Aside0.mk (pw_below_drewN HB.out m); replace HK := Aside0.mk (blk_below HK.out (pw_below_drewN (Below.refl _ _) m))))
                              go_ret
                              exact ⟨rfl, HB.out⟩
                            | false =>
                              cases c1 : ((xmarks.length : Int) != szK xid xn xview xstatus) with
                              | true =>
                                have e : checkV ⟨xid, xn, xview, xlast, xstatus, xlog, xcommit, xmat, xmarks, false, xbals, xelapsed, xtimeout, xdraws⟩ = false := by unfold checkV okA okB badC; dsimp only; simp only [s1, a0, a1, a2, a3, a4, a5, b0, b1, b2, b3, b4, c0, c1]; first | rfl | (simp; done)
                                rw [e]
                                clear e
                                go_enter Try.func19, Try.ntmps19
                                go_wp2_with (first | (go_at_call 14; refine (within.calls _ _ _ _).mono ?_; rintro e w' ⟨rfl, rfl⟩) | (go_at_call 34; refine (mayLog.calls AL cL xlog _ (Rd.below HR.out HB.out).1.1).mono ?_; rw [b0]; rintro e w1 ⟨rfl, hb1⟩; replace HK := Aside0.mk (blk_below HK.out hb1); replace HB := Aside0.mk (HB.out.trans (hb1.mono HB.out.size)); clear hb1; have x0 := (blk_cell HK.out 0).trans rfl; have x1 := (blk_cell HK.out 1).trans rfl; have x2 := (blk_cell HK.out 2).trans rfl; have x3 := (blk_cell HK.out 3).trans rfl; have x4 := (blk_cell HK.out 4).trans rfl; have x5 := (blk_cell HK.out 5).trans rfl; have x6 := (blk_cell HK.out 6).trans rfl; have x7 := (blk_cell HK.out 7).trans rfl; have x8 := (blk_cell HK.out 8).trans rfl; have x9 := (blk_cell HK.out 9).trans rfl; have x10 := (blk_cell HK.out 10).trans rfl; have x11 := (blk_cell HK.out 11).trans rfl; have x12 := (blk_cell HK.out 12).trans rfl; have x13 := (blk_cell HK.out 13).trans rfl) | (go_at_call 35; refine (sizes.calls w.heap.size xid xn xview xstatus hn0 _ x0 x1 x2 x4).mono ?_; rintro e w' ⟨rfl, ⟨m, rfl⟩⟩; replace HB := Aside0.mk (pw_below_drewN HB.out m); replace HK := Aside0.mk (blk_below HK.out (pw_below_drewN (Below.refl _ _) m))))
                                go_ret
                                exact ⟨rfl, HB.out⟩
                              | false =>
                                cases c2 : ((xbals.length : Int) != szB xid xn xview xstatus) with
                                | true =>
                                  have e : checkV ⟨xid, xn, xview, xlast, xstatus, xlog, xcommit, xmat, xmarks, false, xbals, xelapsed, xtimeout, xdraws⟩ = false := by unfold checkV okA okB badC; dsimp only; simp only [s1, a0, a1, a2, a3, a4, a5, b0, b1, b2, b3, b4, c0, c1, c2]; first | rfl | (simp; done)
                                  rw [e]
                                  clear e
                                  go_enter Try.func19, Try.ntmps19
                                  go_wp2_with (first | (go_at_call 14; refine (within.calls _ _ _ _).mono ?_; rintro e w' ⟨rfl, rfl⟩) | (go_at_call 34; refine (mayLog.calls AL cL xlog _ (Rd.below HR.out HB.out).1.1).mono ?_; rw [b0]; rintro e w1 ⟨rfl, hb1⟩; replace HK := Aside0.mk (blk_below HK.out hb1); replace HB := Aside0.mk (HB.out.trans (hb1.mono HB.out.size)); clear hb1; have x0 := (blk_cell HK.out 0).trans rfl; have x1 := (blk_cell HK.out 1).trans rfl; have x2 := (blk_cell HK.out 2).trans rfl; have x3 := (blk_cell HK.out 3).trans rfl; have x4 := (blk_cell HK.out 4).trans rfl; have x5 := (blk_cell HK.out 5).trans rfl; have x6 := (blk_cell HK.out 6).trans rfl; have x7 := (blk_cell HK.out 7).trans rfl; have x8 := (blk_cell HK.out 8).trans rfl; have x9 := (blk_cell HK.out 9).trans rfl; have x10 := (blk_cell HK.out 10).trans rfl; have x11 := (blk_cell HK.out 11).trans rfl; have x12 := (blk_cell HK.out 12).trans rfl; have x13 := (blk_cell HK.out 13).trans rfl) | (go_at_call 35; refine (sizes.calls w.heap.size xid xn xview xstatus hn0 _ x0 x1 x2 x4).mono ?_; rintro e w' ⟨rfl, ⟨m, rfl⟩⟩; replace HB := Aside0.mk (pw_below_drewN HB.out m); replace HK := Aside0.mk (blk_below HK.out (pw_below_drewN (Below.refl _ _) m))))
                                  go_ret
                                  exact ⟨rfl, HB.out⟩
                                | false =>
                                  cases c3 : xmat.any badN with
                                  | true =>
                                    have e : checkV ⟨xid, xn, xview, xlast, xstatus, xlog, xcommit, xmat, xmarks, false, xbals, xelapsed, xtimeout, xdraws⟩ = false := by unfold checkV okA okB badC; dsimp only; simp only [s1, a0, a1, a2, a3, a4, a5, b0, b1, b2, b3, b4, c0, c1, c2, c3]; first | rfl | (simp; done)
                                    rw [e]
                                    clear e
                                    go_enter Try.func19, Try.ntmps19
                                    go_wp2_with (first | (go_at_call 14; refine (within.calls _ _ _ _).mono ?_; rintro e w' ⟨rfl, rfl⟩) | (go_at_call 34; refine (mayLog.calls AL cL xlog _ (Rd.below HR.out HB.out).1.1).mono ?_; rw [b0]; rintro e w1 ⟨rfl, hb1⟩; replace HK := Aside0.mk (blk_below HK.out hb1); replace HB := Aside0.mk (HB.out.trans (hb1.mono HB.out.size)); clear hb1; have x0 := (blk_cell HK.out 0).trans rfl; have x1 := (blk_cell HK.out 1).trans rfl; have x2 := (blk_cell HK.out 2).trans rfl; have x3 := (blk_cell HK.out 3).trans rfl; have x4 := (blk_cell HK.out 4).trans rfl; have x5 := (blk_cell HK.out 5).trans rfl; have x6 := (blk_cell HK.out 6).trans rfl; have x7 := (blk_cell HK.out 7).trans rfl; have x8 := (blk_cell HK.out 8).trans rfl; have x9 := (blk_cell HK.out 9).trans rfl; have x10 := (blk_cell HK.out 10).trans rfl; have x11 := (blk_cell HK.out 11).trans rfl; have x12 := (blk_cell HK.out 12).trans rfl; have x13 := (blk_cell HK.out 13).trans rfl) | (go_at_call 35; refine (sizes.calls w.heap.size xid xn xview xstatus hn0 _ x0 x1 x2 x4).mono ?_; rintro e w' ⟨rfl, ⟨m, rfl⟩⟩; replace HB := Aside0.mk (pw_below_drewN HB.out m); replace HK := Aside0.mk (blk_below HK.out (pw_below_drewN (Below.refl _ _) m))) | (go_at_call 37; refine (ContI.calls AM cM xmat _ (Rd.below HR.out HB.out).2.1.1).mono ?_; rw [c3]; rintro e w2 ⟨rfl, hb2⟩; replace HK := Aside0.mk (blk_below HK.out hb2); replace HB := Aside0.mk (HB.out.trans (hb2.mono HB.out.size)); clear hb2; have x10 := (blk_cell HK.out 10).trans rfl))
                                    go_ret
                                    exact ⟨rfl, HB.out⟩
                                  | false =>
                                    cases c4 : xbals.any mayNot with
                                    | true =>
                                      have e : checkV ⟨xid, xn, xview, xlast, xstatus, xlog, xcommit, xmat, xmarks, false, xbals, xelapsed, xtimeout, xdraws⟩ = false := by unfold checkV okA okB badC; dsimp only; simp only [s1, a0, a1, a2, a3, a4, a5, b0, b1, b2, b3, b4, c0, c1, c2, c3, c4]; first | rfl | (simp; done)
                                      rw [e]
                                      clear e
                                      go_enter Try.func19, Try.ntmps19
                                      go_wp2_with (first | (go_at_call 14; refine (within.calls _ _ _ _).mono ?_; rintro e w' ⟨rfl, rfl⟩) | (go_at_call 34; refine (mayLog.calls AL cL xlog _ (Rd.below HR.out HB.out).1.1).mono ?_; rw [b0]; rintro e w1 ⟨rfl, hb1⟩; replace HK := Aside0.mk (blk_below HK.out hb1); replace HB := Aside0.mk (HB.out.trans (hb1.mono HB.out.size)); clear hb1; have x0 := (blk_cell HK.out 0).trans rfl; have x1 := (blk_cell HK.out 1).trans rfl; have x2 := (blk_cell HK.out 2).trans rfl; have x3 := (blk_cell HK.out 3).trans rfl; have x4 := (blk_cell HK.out 4).trans rfl; have x5 := (blk_cell HK.out 5).trans rfl; have x6 := (blk_cell HK.out 6).trans rfl; have x7 := (blk_cell HK.out 7).trans rfl; have x8 := (blk_cell HK.out 8).trans rfl; have x9 := (blk_cell HK.out 9).trans rfl; have x10 := (blk_cell HK.out 10).trans rfl; have x11 := (blk_cell HK.out 11).trans rfl; have x12 := (blk_cell HK.out 12).trans rfl; have x13 := (blk_cell HK.out 13).trans rfl) | (go_at_call 35; refine (sizes.calls w.heap.size xid xn xview xstatus hn0 _ x0 x1 x2 x4).mono ?_; rintro e w' ⟨rfl, ⟨m, rfl⟩⟩; replace HB := Aside0.mk (pw_below_drewN HB.out m); replace HK := Aside0.mk (blk_below HK.out (pw_below_drewN (Below.refl _ _) m))) | (go_at_call 37; refine (ContI.calls AM cM xmat _ (Rd.below HR.out HB.out).2.1.1).mono ?_; rw [c3]; rintro e w2 ⟨rfl, hb2⟩; replace HK := Aside0.mk (blk_below HK.out hb2); replace HB := Aside0.mk (HB.out.trans (hb2.mono HB.out.size)); clear hb2; have x10 := (blk_cell HK.out 10).trans rfl) | (go_at_call 38; refine (ContB.calls AB cB xbals _ (Rd.below HR.out HB.out).2.2.2.1.1).mono ?_; rw [c4]; rintro e w3 ⟨rfl, hb3⟩; replace HK := Aside0.mk (blk_below HK.out hb3); replace HB := Aside0.mk (HB.out.trans (hb3.mono HB.out.size)); clear hb3))
                                      go_ret
                                      exact ⟨rfl, HB.out⟩
                                    | false =>
                                      have e : checkV ⟨xid, xn, xview, xlast, xstatus, xlog, xcommit, xmat, xmarks, false, xbals, xelapsed, xtimeout, xdraws⟩ = true := by unfold checkV okA okB badC; dsimp only; simp only [s1, a0, a1, a2, a3, a4, a5, b0, b1, b2, b3, b4, c0, c1, c2, c3, c4]; first | rfl | (simp; done)
                                      rw [e]
                                      clear e
                                      go_enter Try.func19, Try.ntmps19
                                      go_wp2_with (first | (go_at_call 14; refine (within.calls _ _ _ _).mono ?_; rintro e w' ⟨rfl, rfl⟩) | (go_at_call 34; refine (mayLog.calls AL cL xlog _ (Rd.below HR.out HB.out).1.1).mono ?_; rw [b0]; rintro e w1 ⟨rfl, hb1⟩; replace HK := Aside0.mk (blk_below HK.out hb1); replace HB := Aside0.mk (HB.out.trans (hb1.mono HB.out.size)); clear hb1; have x0 := (blk_cell HK.out 0).trans rfl; have x1 := (blk_cell HK.out 1).trans rfl; have x2 := (blk_cell HK.out 2).trans rfl; have x3 := (blk_cell HK.out 3).trans rfl; have x4 := (blk_cell HK.out 4).trans rfl; have x5 := (blk_cell HK.out 5).trans rfl; have x6 := (blk_cell HK.out 6).trans rfl; have x7 := (blk_cell HK.out 7).trans rfl; have x8 := (blk_cell HK.out 8).trans rfl; have x9 := (blk_cell HK.out 9).trans rfl; have x10 := (blk_cell HK.out 10).trans rfl; have x11 := (blk_cell HK.out 11).trans rfl; have x12 := (blk_cell HK.out 12).trans rfl; have x13 := (blk_cell HK.out 13).trans rfl) | (go_at_call 35; refine (sizes.calls w.heap.size xid xn xview xstatus hn0 _ x0 x1 x2 x4).mono ?_; rintro e w' ⟨rfl, ⟨m, rfl⟩⟩; replace HB := Aside0.mk (pw_below_drewN HB.out m); replace HK := Aside0.mk (blk_below HK.out (pw_below_drewN (Below.refl _ _) m))) | (go_at_call 37; refine (ContI.calls AM cM xmat _ (Rd.below HR.out HB.out).2.1.1).mono ?_; rw [c3]; rintro e w2 ⟨rfl, hb2⟩; replace HK := Aside0.mk (blk_below HK.out hb2); replace HB := Aside0.mk (HB.out.trans (hb2.mono HB.out.size)); clear hb2; have x10 := (blk_cell HK.out 10).trans rfl) | (go_at_call 38; refine (ContB.calls AB cB xbals _ (Rd.below HR.out HB.out).2.2.2.1.1).mono ?_; rw [c4]; rintro e w3 ⟨rfl, hb3⟩; replace HK := Aside0.mk (blk_below HK.out hb3); replace HB := Aside0.mk (HB.out.trans (hb3.mono HB.out.size)); clear hb3))
                                      go_ret
                                      exact ⟨rfl, HB.out⟩
end Go.Proofs.Ytojjnifbnppliaa.T
