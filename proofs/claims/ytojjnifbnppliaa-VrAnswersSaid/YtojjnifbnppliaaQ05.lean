/- How long a state's lists have to be; whether a state may be. lead and draw, at whatever block a state lies in. New. The machine's fields, written; draw, lead, agree, told of the machine. -/
import Derived.Test.YtojjnifbnppliaaQ02
import Derived.Test.YtojjnifbnppliaaQ04
section
namespace Go.Proofs.Ytojjnifbnppliaa.T
open Go.RowKit Go.Proofs.YtojjnifbnppliaaW.PrintWords Go.Proofs.YtojjnifbnppliaaW.PrintLast Go.Proofs.YtojjnifbnppliaaW.PrintMore
attribute [local go_sem] max2_int min2_int max_two min_two max_three min_three max_four min_four
set_option linter.unusedVariables false
set_option linter.unusedSimpArgs false
def szM (id n view status : Int) : Int:=if leadsV id n view status = true then n else 0
def szK (id n view status : Int) : Int:=if leadsV id n view status = true then 0 else if(status == 1) = true then n else 0
def szB (id n view status : Int) : Int:=if leadsV id n view status = true then 0 else if(status == 1) = true then(if primaryV id n view = true then n else 0) else 0
set_option maxHeartbeats 2000000 in
theorem sizes.calls (b : Nat) (id n view status : Int) (hn : n ≠ 0) (w : World) (x0 : w.cell? ⟨b,0,none⟩ = some (.int .i64 id)) (x1 : w.cell? ⟨b,1,none⟩ = some (.int .i64 n)) (x2 : w.cell? ⟨b,2,none⟩ = some (.int .i64 view)) (x4 : w.cell? ⟨b,4,none⟩ = some (.int .i64 status)) :
    Calls Try.prog 35 #[.pointer (some ⟨b,0,none⟩)] w fun e w'=>e = .returned (.tuple #[.int .i64 (szM id n view status),.int .i64 (szK id n view status),.int .i64 (szB id n view status)])∧Drawn0 w w':=by
  unfold szM szK szB
  cases dl : leadsV id n view status with
  | true =>
    simp only [if_true]
    go_enter Try.func35,Try.ntmps35
    go_wp2_with (first|(go_at_call 16;refine(leads.calls b id n view status hn _ (by first|exact x0|(simp;exact x0)) (by first|exact x1|(simp;exact x1)) (by first|exact x2|(simp;exact x2)) (by first|exact x4|(simp;exact x4))).mono ?_;rw [dl];rintro e w' ⟨rfl,⟨m,rfl⟩⟩)|(go_at_call 33;refine(primary.calls b id n view hn _ (by first|exact x0|(simp;exact x0)) (by first|exact x1|(simp;exact x1)) (by first|exact x2|(simp;exact x2))).mono ?_;rintro e w' ⟨rfl,⟨m2,rfl⟩⟩))
    repeat (go_quiet (fail);try go_wp2)
    go_ret3
    exact⟨rfl,by repeat (first|exact Drawn0.refl _|apply Drawn0.step)⟩
  | false =>
    simp only [Bool.false_eq_true,if_false]
    cases d1 : (status == 1) with
    | false =>
      simp only [Bool.false_eq_true,if_false]
      go_enter Try.func35,Try.ntmps35
      go_wp2_with (first|(go_at_call 16;refine(leads.calls b id n view status hn _ (by first|exact x0|(simp;exact x0)) (by first|exact x1|(simp;exact x1)) (by first|exact x2|(simp;exact x2)) (by first|exact x4|(simp;exact x4))).mono ?_;rw [dl];rintro e w' ⟨rfl,⟨m,rfl⟩⟩)|(go_at_call 33;refine(primary.calls b id n view hn _ (by first|exact x0|(simp;exact x0)) (by first|exact x1|(simp;exact x1)) (by first|exact x2|(simp;exact x2))).mono ?_;rintro e w' ⟨rfl,⟨m2,rfl⟩⟩))
      repeat (go_quiet (fail);try go_wp2)
      go_ret3
      exact⟨rfl,by repeat (first|exact Drawn0.refl _|apply Drawn0.step)⟩
    | true =>
      simp only [if_true]
      cases dp : primaryV id n view with
      | true =>
        simp only [if_true]
        go_enter Try.func35,Try.ntmps35
        go_wp2_with (first|(go_at_call 16;refine(leads.calls b id n view status hn _ (by first|exact x0|(simp;exact x0)) (by first|exact x1|(simp;exact x1)) (by first|exact x2|(simp;exact x2)) (by first|exact x4|(simp;exact x4))).mono ?_;rw [dl];rintro e w' ⟨rfl,⟨m,rfl⟩⟩)|(go_at_call 33;refine(primary.calls b id n view hn _ (by first|exact x0|(simp;exact x0)) (by first|exact x1|(simp;exact x1)) (by first|exact x2|(simp;exact x2))).mono ?_;rw [dp];rintro e w' ⟨rfl,⟨m2,rfl⟩⟩))
        repeat (go_quiet (fail);try go_wp2)
        go_ret3
        exact⟨rfl,by repeat (first|exact Drawn0.refl _|apply Drawn0.step)⟩
      | false =>
        simp only [Bool.false_eq_true,if_false]
        go_enter Try.func35,Try.ntmps35
        go_wp2_with (first|(go_at_call 16;refine(leads.calls b id n view status hn _ (by first|exact x0|(simp;exact x0)) (by first|exact x1|(simp;exact x1)) (by first|exact x2|(simp;exact x2)) (by first|exact x4|(simp;exact x4))).mono ?_;rw [dl];rintro e w' ⟨rfl,⟨m,rfl⟩⟩)|(go_at_call 33;refine(primary.calls b id n view hn _ (by first|exact x0|(simp;exact x0)) (by first|exact x1|(simp;exact x1)) (by first|exact x2|(simp;exact x2))).mono ?_;rw [dp];rintro e w' ⟨rfl,⟨m2,rfl⟩⟩))
        repeat (go_quiet (fail);try go_wp2)
        go_ret3
        exact⟨rfl,by repeat (first|exact Drawn0.refl _|apply Drawn0.step)⟩
def okA (s : St) : Bool:=wi s.n 1 9 && (wi s.id 0 (s.n - 1) && (wi s.view 0 1099511627776 && (wi s.last 0 s.view && (wi s.status 0 1 && ((s.status == 1 || s.last == s.view))))))
def okB (s : St) : Bool:=mayLogV s.log && (wi s.commit 0 s.log.length && (wi s.elapsed 0 1073741824 && (wi s.timeout 0 1073741824 && (decide ((s.draws.length : Int) ≤ 4096) && ((s.status == 1 || !s.sent))))))
def badC (s : St) : Bool:=((s.mat.length : Int) != szM s.id s.n s.view s.status) || (((s.marks.length : Int) != szK s.id s.n s.view s.status) || (((s.bals.length : Int) != szB s.id s.n s.view s.status) || (s.mat.any badN || (s.bals.any mayNot))))
def checkV (s : St) : Bool:=okA s && (okB s && !(badC s))
set_option maxHeartbeats 40000000 in
set_option maxRecDepth 100000 in
theorem Check.calls (s : St) (AL : Option Addr) (cL : Nat) (AM : Option Addr) (cM : Nat) (AK : Option Addr) (cK : Nat) (AB : Option Addr) (cB : Nat) (AD : Option Addr) (cD : Nat) (w : World) (hr : Rd w s AL cL AM cM AK cK AB cB AD cD) :
    Calls Try.prog 19 #[.agg #[.int .i64 s.id,.int .i64 s.n,.int .i64 s.view,.int .i64 s.last,.int .i64 s.status,.slice AL s.log.length cL,.int .i64 s.commit,.slice AM s.mat.length cM,.slice AK s.marks.length cK,.bool s.sent,.slice AB s.bals.length cB,.int .i64 s.elapsed,.int .i64 s.timeout,.slice AD s.draws.length cD]] w fun e w'=>e = .returned (.int .i64 (if checkV s = true then 0 else 9))∧Below w.heap.size w w':=by
  obtain ⟨xid,xn,xview,xlast,xstatus,xlog,xcommit,xmat,xmarks,xsent,xbals,xelapsed,xtimeout,xdraws⟩:=s
  dsimp only
  have hu:=Try.underlying29
  have HR:=Aside0.mk hr
  have HB:=Aside0.mk (below_alloc (Below.refl w.heap.size w) (.cells #[.int .i64 xid,.int .i64 xn,.int .i64 xview,.int .i64 xlast,.int .i64 xstatus,.slice AL xlog.length cL,.int .i64 xcommit,.slice AM xmat.length cM,.slice AK xmarks.length cK,.bool xsent,.slice AB xbals.length cB,.int .i64 xelapsed,.int .i64 xtimeout,.slice AD xdraws.length cD] 29))
  have hk:=heap_alloc_new w (.cells #[.int .i64 xid,.int .i64 xn,.int .i64 xview,.int .i64 xlast,.int .i64 xstatus,.slice AL xlog.length cL,.int .i64 xcommit,.slice AM xmat.length cM,.slice AK xmarks.length cK,.bool xsent,.slice AB xbals.length cB,.int .i64 xelapsed,.int .i64 xtimeout,.slice AD xdraws.length cD] 29)
  have HK:=Aside0.mk hk
  clear hr hk
  cases s1 : (xstatus == 1) with
  | true =>
    cases a0 : wi xn 1 9 with
    | false =>
      have e : checkV ⟨xid,xn,xview,xlast,xstatus,xlog,xcommit,xmat,xmarks,xsent,xbals,xelapsed,xtimeout,xdraws⟩ = false:=by unfold checkV okA;dsimp only;simp only [s1,a0];first|rfl|(simp;done)
      rw [e]
      clear e
      go_enter Try.func19,Try.ntmps19
      go_wp2_with (first|(go_at_call 14;refine(within.calls _ _ _ _).mono ?_;rintro e w' ⟨rfl,rfl⟩))
      go_ret
      exact⟨rfl,HB.out⟩
    | true =>
      have hn:=wi_iff.1 a0
      have hwn : wrap64 (xn - 1) = xn - 1:=by unfold wrap64;omega
      have hn0 : xn ≠ 0:=by omega
      clear hn
      cases a1 : wi xid 0 (xn - 1) with
      | false =>
        have e : checkV ⟨xid,xn,xview,xlast,xstatus,xlog,xcommit,xmat,xmarks,xsent,xbals,xelapsed,xtimeout,xdraws⟩ = false:=by unfold checkV okA;dsimp only;simp only [s1,a0,a1];first|rfl|(simp;done)
        rw [e]
        clear e
        go_enter Try.func19,Try.ntmps19
        go_wp2_with (first|(go_at_call 14;refine(within.calls _ _ _ _).mono ?_;rintro e w' ⟨rfl,rfl⟩))
        go_ret
        exact⟨rfl,HB.out⟩
      | true =>
        cases a2 : wi xview 0 1099511627776 with
        | false =>
          have e : checkV ⟨xid,xn,xview,xlast,xstatus,xlog,xcommit,xmat,xmarks,xsent,xbals,xelapsed,xtimeout,xdraws⟩ = false:=by unfold checkV okA;dsimp only;simp only [s1,a0,a1,a2];first|rfl|(simp;done)
          rw [e]
          clear e
          go_enter Try.func19,Try.ntmps19
          go_wp2_with (first|(go_at_call 14;refine(within.calls _ _ _ _).mono ?_;rintro e w' ⟨rfl,rfl⟩))
          go_ret
          exact⟨rfl,HB.out⟩
        | true =>
          cases a3 : wi xlast 0 xview with
          | false =>
            have e : checkV ⟨xid,xn,xview,xlast,xstatus,xlog,xcommit,xmat,xmarks,xsent,xbals,xelapsed,xtimeout,xdraws⟩ = false:=by unfold checkV okA;dsimp only;simp only [s1,a0,a1,a2,a3];first|rfl|(simp;done)
            rw [e]
            clear e
            go_enter Try.func19,Try.ntmps19
            go_wp2_with (first|(go_at_call 14;refine(within.calls _ _ _ _).mono ?_;rintro e w' ⟨rfl,rfl⟩))
            go_ret
            exact⟨rfl,HB.out⟩
          | true =>
            cases a4 : wi xstatus 0 1 with
            | false =>
              have e : checkV ⟨xid,xn,xview,xlast,xstatus,xlog,xcommit,xmat,xmarks,xsent,xbals,xelapsed,xtimeout,xdraws⟩ = false:=by unfold checkV okA;dsimp only;simp only [s1,a0,a1,a2,a3,a4];first|rfl|(simp;done)
              rw [e]
              clear e
              go_enter Try.func19,Try.ntmps19
              go_wp2_with (first|(go_at_call 14;refine(within.calls _ _ _ _).mono ?_;rintro e w' ⟨rfl,rfl⟩))
              go_ret
              exact⟨rfl,HB.out⟩
            | true =>
              cases b0 : mayLogV xlog with
              | false =>
                have e : checkV ⟨xid,xn,xview,xlast,xstatus,xlog,xcommit,xmat,xmarks,xsent,xbals,xelapsed,xtimeout,xdraws⟩ = false:=by unfold checkV okA okB;dsimp only;simp only [s1,a0,a1,a2,a3,a4,b0];first|rfl|(simp;done)
                rw [e]
                clear e
                go_enter Try.func19,Try.ntmps19
                go_wp2_with (first|(go_at_call 14;refine(within.calls _ _ _ _).mono ?_;rintro e w' ⟨rfl,rfl⟩)|(go_at_call 34;refine(mayLog.calls AL cL xlog _ (Rd.below HR.out HB.out).1.1).mono ?_;rw [b0];rintro e w1 ⟨rfl,hb1⟩;replace HK:=Aside0.mk (blk_below HK.out hb1);replace HB:=Aside0.mk (HB.out.trans (hb1.mono HB.out.size));clear hb1;have x0:=(blk_cell HK.out 0).trans rfl;have x1:=(blk_cell HK.out 1).trans rfl;have x2:=(blk_cell HK.out 2).trans rfl;have x3:=(blk_cell HK.out 3).trans rfl;have x4:=(blk_cell HK.out 4).trans rfl;have x5:=(blk_cell HK.out 5).trans rfl;have x6:=(blk_cell HK.out 6).trans rfl;have x7:=(blk_cell HK.out 7).trans rfl;have x8:=(blk_cell HK.out 8).trans rfl;have x9:=(blk_cell HK.out 9).trans rfl;have x10:=(blk_cell HK.out 10).trans rfl;have x11:=(blk_cell HK.out 11).trans rfl;have x12:=(blk_cell HK.out 12).trans rfl;have x13:=(blk_cell HK.out 13).trans rfl))
                go_ret
                exact⟨rfl,HB.out⟩
              | true =>
                cases b1 : wi xcommit 0 xlog.length with
                | false =>
                  have e : checkV ⟨xid,xn,xview,xlast,xstatus,xlog,xcommit,xmat,xmarks,xsent,xbals,xelapsed,xtimeout,xdraws⟩ = false:=by unfold checkV okA okB;dsimp only;simp only [s1,a0,a1,a2,a3,a4,b0,b1];first|rfl|(simp;done)
                  rw [e]
                  clear e
                  go_enter Try.func19,Try.ntmps19
                  go_wp2_with (first|(go_at_call 14;refine(within.calls _ _ _ _).mono ?_;rintro e w' ⟨rfl,rfl⟩)|(go_at_call 34;refine(mayLog.calls AL cL xlog _ (Rd.below HR.out HB.out).1.1).mono ?_;rw [b0];rintro e w1 ⟨rfl,hb1⟩;replace HK:=Aside0.mk (blk_below HK.out hb1);replace HB:=Aside0.mk (HB.out.trans (hb1.mono HB.out.size));clear hb1;have x0:=(blk_cell HK.out 0).trans rfl;have x1:=(blk_cell HK.out 1).trans rfl;have x2:=(blk_cell HK.out 2).trans rfl;have x3:=(blk_cell HK.out 3).trans rfl;have x4:=(blk_cell HK.out 4).trans rfl;have x5:=(blk_cell HK.out 5).trans rfl;have x6:=(blk_cell HK.out 6).trans rfl;have x7:=(blk_cell HK.out 7).trans rfl;have x8:=(blk_cell HK.out 8).trans rfl;have x9:=(blk_cell HK.out 9).trans rfl;have x10:=(blk_cell HK.out 10).trans rfl;have x11:=(blk_cell HK.out 11).trans rfl;have x12:=(blk_cell HK.out 12).trans rfl;have x13:=(blk_cell HK.out 13).trans rfl))
                  go_ret
                  exact⟨rfl,HB.out⟩
                | true =>
                  cases b2 : wi xelapsed 0 1073741824 with
                  | false =>
                    have e : checkV ⟨xid,xn,xview,xlast,xstatus,xlog,xcommit,xmat,xmarks,xsent,xbals,xelapsed,xtimeout,xdraws⟩ = false:=by unfold checkV okA okB;dsimp only;simp only [s1,a0,a1,a2,a3,a4,b0,b1,b2];first|rfl|(simp;done)
                    rw [e]
                    clear e
                    go_enter Try.func19,Try.ntmps19
                    go_wp2_with (first|(go_at_call 14;refine(within.calls _ _ _ _).mono ?_;rintro e w' ⟨rfl,rfl⟩)|(go_at_call 34;refine(mayLog.calls AL cL xlog _ (Rd.below HR.out HB.out).1.1).mono ?_;rw [b0];rintro e w1 ⟨rfl,hb1⟩;replace HK:=Aside0.mk (blk_below HK.out hb1);replace HB:=Aside0.mk (HB.out.trans (hb1.mono HB.out.size));clear hb1;have x0:=(blk_cell HK.out 0).trans rfl;have x1:=(blk_cell HK.out 1).trans rfl;have x2:=(blk_cell HK.out 2).trans rfl;have x3:=(blk_cell HK.out 3).trans rfl;have x4:=(blk_cell HK.out 4).trans rfl;have x5:=(blk_cell HK.out 5).trans rfl;have x6:=(blk_cell HK.out 6).trans rfl;have x7:=(blk_cell HK.out 7).trans rfl;have x8:=(blk_cell HK.out 8).trans rfl;have x9:=(blk_cell HK.out 9).trans rfl;have x10:=(blk_cell HK.out 10).trans rfl;have x11:=(blk_cell HK.out 11).trans rfl;have x12:=(blk_cell HK.out 12).trans rfl;have x13:=(blk_cell HK.out 13).trans rfl))
                    go_ret
                    exact⟨rfl,HB.out⟩
                  | true =>
                    cases b3 : wi xtimeout 0 1073741824 with
                    | false =>
                      have e : checkV ⟨xid,xn,xview,xlast,xstatus,xlog,xcommit,xmat,xmarks,xsent,xbals,xelapsed,xtimeout,xdraws⟩ = false:=by unfold checkV okA okB;dsimp only;simp only [s1,a0,a1,a2,a3,a4,b0,b1,b2,b3];first|rfl|(simp;done)
                      rw [e]
                      clear e
                      go_enter Try.func19,Try.ntmps19
                      go_wp2_with (first|(go_at_call 14;refine(within.calls _ _ _ _).mono ?_;rintro e w' ⟨rfl,rfl⟩)|(go_at_call 34;refine(mayLog.calls AL cL xlog _ (Rd.below HR.out HB.out).1.1).mono ?_;rw [b0];rintro e w1 ⟨rfl,hb1⟩;replace HK:=Aside0.mk (blk_below HK.out hb1);replace HB:=Aside0.mk (HB.out.trans (hb1.mono HB.out.size));clear hb1;have x0:=(blk_cell HK.out 0).trans rfl;have x1:=(blk_cell HK.out 1).trans rfl;have x2:=(blk_cell HK.out 2).trans rfl;have x3:=(blk_cell HK.out 3).trans rfl;have x4:=(blk_cell HK.out 4).trans rfl;have x5:=(blk_cell HK.out 5).trans rfl;have x6:=(blk_cell HK.out 6).trans rfl;have x7:=(blk_cell HK.out 7).trans rfl;have x8:=(blk_cell HK.out 8).trans rfl;have x9:=(blk_cell HK.out 9).trans rfl;have x10:=(blk_cell HK.out 10).trans rfl;have x11:=(blk_cell HK.out 11).trans rfl;have x12:=(blk_cell HK.out 12).trans rfl;have x13:=(blk_cell HK.out 13).trans rfl))
                      go_ret
                      exact⟨rfl,HB.out⟩
                    | true =>
                      cases b4 : decide ((xdraws.length : Int) ≤ 4096) with
                      | false =>
                        have e : checkV ⟨xid,xn,xview,xlast,xstatus,xlog,xcommit,xmat,xmarks,xsent,xbals,xelapsed,xtimeout,xdraws⟩ = false:=by unfold checkV okA okB;dsimp only;simp only [s1,a0,a1,a2,a3,a4,b0,b1,b2,b3,b4];first|rfl|(simp;done)
                        rw [e]
                        clear e
                        go_enter Try.func19,Try.ntmps19
                        go_wp2_with (first|(go_at_call 14;refine(within.calls _ _ _ _).mono ?_;rintro e w' ⟨rfl,rfl⟩)|(go_at_call 34;refine(mayLog.calls AL cL xlog _ (Rd.below HR.out HB.out).1.1).mono ?_;rw [b0];rintro e w1 ⟨rfl,hb1⟩;replace HK:=Aside0.mk (blk_below HK.out hb1);replace HB:=Aside0.mk (HB.out.trans (hb1.mono HB.out.size));clear hb1;have x0:=(blk_cell HK.out 0).trans rfl;have x1:=(blk_cell HK.out 1).trans rfl;have x2:=(blk_cell HK.out 2).trans rfl;have x3:=(blk_cell HK.out 3).trans rfl;have x4:=(blk_cell HK.out 4).trans rfl;have x5:=(blk_cell HK.out 5).trans rfl;have x6:=(blk_cell HK.out 6).trans rfl;have x7:=(blk_cell HK.out 7).trans rfl;have x8:=(blk_cell HK.out 8).trans rfl;have x9:=(blk_cell HK.out 9).trans rfl;have x10:=(blk_cell HK.out 10).trans rfl;have x11:=(blk_cell HK.out 11).trans rfl;have x12:=(blk_cell HK.out 12).trans rfl;have x13:=(blk_cell HK.out 13).trans rfl))
                        go_ret
                        exact⟨rfl,HB.out⟩
                      | true =>
                        cases c0 : ((xmat.length : Int) != szM xid xn xview xstatus) with
                        | true =>
                          have e : checkV ⟨xid,xn,xview,xlast,xstatus,xlog,xcommit,xmat,xmarks,xsent,xbals,xelapsed,xtimeout,xdraws⟩ = false:=by unfold checkV okA okB badC;dsimp only;simp only [s1,a0,a1,a2,a3,a4,b0,b1,b2,b3,b4,c0];first|rfl|(simp;done)
                          rw [e]
                          clear e
                          go_enter Try.func19,Try.ntmps19
                          go_wp2_with (first|(go_at_call 14;refine(within.calls _ _ _ _).mono ?_;rintro e w' ⟨rfl,rfl⟩)|(go_at_call 34;refine(mayLog.calls AL cL xlog _ (Rd.below HR.out HB.out).1.1).mono ?_;rw [b0];rintro e w1 ⟨rfl,hb1⟩;replace HK:=Aside0.mk (blk_below HK.out hb1);replace HB:=Aside0.mk (HB.out.trans (hb1.mono HB.out.size));clear hb1;have x0:=(blk_cell HK.out 0).trans rfl;have x1:=(blk_cell HK.out 1).trans rfl;have x2:=(blk_cell HK.out 2).trans rfl;have x3:=(blk_cell HK.out 3).trans rfl;have x4:=(blk_cell HK.out 4).trans rfl;have x5:=(blk_cell HK.out 5).trans rfl;have x6:=(blk_cell HK.out 6).trans rfl;have x7:=(blk_cell HK.out 7).trans rfl;have x8:=(blk_cell HK.out 8).trans rfl;have x9:=(blk_cell HK.out 9).trans rfl;have x10:=(blk_cell HK.out 10).trans rfl;have x11:=(blk_cell HK.out 11).trans rfl;have x12:=(blk_cell HK.out 12).trans rfl;have x13:=(blk_cell HK.out 13).trans rfl)|(go_at_call 35;refine(sizes.calls w.heap.size xid xn xview xstatus hn0 _ x0 x1 x2 x4).mono ?_;rintro e w' ⟨rfl,⟨m,rfl⟩⟩;replace HB:=Aside0.mk (pw_below_drewN HB.out m);replace HK:=Aside0.mk (blk_below HK.out (pw_below_drewN (Below.refl _ _) m))))
                          go_ret
                          exact⟨rfl,HB.out⟩
                        | false =>
                          cases c1 : ((xmarks.length : Int) != szK xid xn xview xstatus) with
                          | true =>
                            have e : checkV ⟨xid,xn,xview,xlast,xstatus,xlog,xcommit,xmat,xmarks,xsent,xbals,xelapsed,xtimeout,xdraws⟩ = false:=by unfold checkV okA okB badC;dsimp only;simp only [s1,a0,a1,a2,a3,a4,b0,b1,b2,b3,b4,c0,c1];first|rfl|(simp;done)
                            rw [e]
                            clear e
                            go_enter Try.func19,Try.ntmps19
                            go_wp2_with (first|(go_at_call 14;refine(within.calls _ _ _ _).mono ?_;rintro e w' ⟨rfl,rfl⟩)|(go_at_call 34;refine(mayLog.calls AL cL xlog _ (Rd.below HR.out HB.out).1.1).mono ?_;rw [b0];rintro e w1 ⟨rfl,hb1⟩;replace HK:=Aside0.mk (blk_below HK.out hb1);replace HB:=Aside0.mk (HB.out.trans (hb1.mono HB.out.size));clear hb1;have x0:=(blk_cell HK.out 0).trans rfl;have x1:=(blk_cell HK.out 1).trans rfl;have x2:=(blk_cell HK.out 2).trans rfl;have x3:=(blk_cell HK.out 3).trans rfl;have x4:=(blk_cell HK.out 4).trans rfl;have x5:=(blk_cell HK.out 5).trans rfl;have x6:=(blk_cell HK.out 6).trans rfl;have x7:=(blk_cell HK.out 7).trans rfl;have x8:=(blk_cell HK.out 8).trans rfl;have x9:=(blk_cell HK.out 9).trans rfl;have x10:=(blk_cell HK.out 10).trans rfl;have x11:=(blk_cell HK.out 11).trans rfl;have x12:=(blk_cell HK.out 12).trans rfl;have x13:=(blk_cell HK.out 13).trans rfl)|(go_at_call 35;refine(sizes.calls w.heap.size xid xn xview xstatus hn0 _ x0 x1 x2 x4).mono ?_;rintro e w' ⟨rfl,⟨m,rfl⟩⟩;replace HB:=Aside0.mk (pw_below_drewN HB.out m);replace HK:=Aside0.mk (blk_below HK.out (pw_below_drewN (Below.refl _ _) m))))
                            go_ret
                            exact⟨rfl,HB.out⟩
                          | false =>
                            cases c2 : ((xbals.length : Int) != szB xid xn xview xstatus) with
                            | true =>
                              have e : checkV ⟨xid,xn,xview,xlast,xstatus,xlog,xcommit,xmat,xmarks,xsent,xbals,xelapsed,xtimeout,xdraws⟩ = false:=by unfold checkV okA okB badC;dsimp only;simp only [s1,a0,a1,a2,a3,a4,b0,b1,b2,b3,b4,c0,c1,c2];first|rfl|(simp;done)
                              rw [e]
                              clear e
                              go_enter Try.func19,Try.ntmps19
                              go_wp2_with (first|(go_at_call 14;refine(within.calls _ _ _ _).mono ?_;rintro e w' ⟨rfl,rfl⟩)|(go_at_call 34;refine(mayLog.calls AL cL xlog _ (Rd.below HR.out HB.out).1.1).mono ?_;rw [b0];rintro e w1 ⟨rfl,hb1⟩;replace HK:=Aside0.mk (blk_below HK.out hb1);replace HB:=Aside0.mk (HB.out.trans (hb1.mono HB.out.size));clear hb1;have x0:=(blk_cell HK.out 0).trans rfl;have x1:=(blk_cell HK.out 1).trans rfl;have x2:=(blk_cell HK.out 2).trans rfl;have x3:=(blk_cell HK.out 3).trans rfl;have x4:=(blk_cell HK.out 4).trans rfl;have x5:=(blk_cell HK.out 5).trans rfl;have x6:=(blk_cell HK.out 6).trans rfl;have x7:=(blk_cell HK.out 7).trans rfl;have x8:=(blk_cell HK.out 8).trans rfl;have x9:=(blk_cell HK.out 9).trans rfl;have x10:=(blk_cell HK.out 10).trans rfl;have x11:=(blk_cell HK.out 11).trans rfl;have x12:=(blk_cell HK.out 12).trans rfl;have x13:=(blk_cell HK.out 13).trans rfl)|(go_at_call 35;refine(sizes.calls w.heap.size xid xn xview xstatus hn0 _ x0 x1 x2 x4).mono ?_;rintro e w' ⟨rfl,⟨m,rfl⟩⟩;replace HB:=Aside0.mk (pw_below_drewN HB.out m);replace HK:=Aside0.mk (blk_below HK.out (pw_below_drewN (Below.refl _ _) m))))
                              go_ret
                              exact⟨rfl,HB.out⟩
                            | false =>
                              cases c3 : xmat.any badN with
                              | true =>
                                have e : checkV ⟨xid,xn,xview,xlast,xstatus,xlog,xcommit,xmat,xmarks,xsent,xbals,xelapsed,xtimeout,xdraws⟩ = false:=by unfold checkV okA okB badC;dsimp only;simp only [s1,a0,a1,a2,a3,a4,b0,b1,b2,b3,b4,c0,c1,c2,c3];first|rfl|(simp;done)
                                rw [e]
                                clear e
                                go_enter Try.func19,Try.ntmps19
                                go_wp2_with (first|(go_at_call 14;refine(within.calls _ _ _ _).mono ?_;rintro e w' ⟨rfl,rfl⟩)|(go_at_call 34;refine(mayLog.calls AL cL xlog _ (Rd.below HR.out HB.out).1.1).mono ?_;rw [b0];rintro e w1 ⟨rfl,hb1⟩;replace HK:=Aside0.mk (blk_below HK.out hb1);replace HB:=Aside0.mk (HB.out.trans (hb1.mono HB.out.size));clear hb1;have x0:=(blk_cell HK.out 0).trans rfl;have x1:=(blk_cell HK.out 1).trans rfl;have x2:=(blk_cell HK.out 2).trans rfl;have x3:=(blk_cell HK.out 3).trans rfl;have x4:=(blk_cell HK.out 4).trans rfl;have x5:=(blk_cell HK.out 5).trans rfl;have x6:=(blk_cell HK.out 6).trans rfl;have x7:=(blk_cell HK.out 7).trans rfl;have x8:=(blk_cell HK.out 8).trans rfl;have x9:=(blk_cell HK.out 9).trans rfl;have x10:=(blk_cell HK.out 10).trans rfl;have x11:=(blk_cell HK.out 11).trans rfl;have x12:=(blk_cell HK.out 12).trans rfl;have x13:=(blk_cell HK.out 13).trans rfl)|(go_at_call 35;refine(sizes.calls w.heap.size xid xn xview xstatus hn0 _ x0 x1 x2 x4).mono ?_;rintro e w' ⟨rfl,⟨m,rfl⟩⟩;replace HB:=Aside0.mk (pw_below_drewN HB.out m);replace HK:=Aside0.mk (blk_below HK.out (pw_below_drewN (Below.refl _ _) m)))|(go_at_call 37;refine(ContI.calls AM cM xmat _ (Rd.below HR.out HB.out).2.1.1).mono ?_;rw [c3];rintro e w2 ⟨rfl,hb2⟩;replace HK:=Aside0.mk (blk_below HK.out hb2);replace HB:=Aside0.mk (HB.out.trans (hb2.mono HB.out.size));clear hb2;have x10:=(blk_cell HK.out 10).trans rfl))
                                go_ret
                                exact⟨rfl,HB.out⟩
                              | false =>
                                cases c4 : xbals.any mayNot with
                                | true =>
                                  have e : checkV ⟨xid,xn,xview,xlast,xstatus,xlog,xcommit,xmat,xmarks,xsent,xbals,xelapsed,xtimeout,xdraws⟩ = false:=by unfold checkV okA okB badC;dsimp only;simp only [s1,a0,a1,a2,a3,a4,b0,b1,b2,b3,b4,c0,c1,c2,c3,c4];first|rfl|(simp;done)
                                  rw [e]
                                  clear e
                                  go_enter Try.func19,Try.ntmps19
                                  go_wp2_with (first|(go_at_call 14;refine(within.calls _ _ _ _).mono ?_;rintro e w' ⟨rfl,rfl⟩)|(go_at_call 34;refine(mayLog.calls AL cL xlog _ (Rd.below HR.out HB.out).1.1).mono ?_;rw [b0];rintro e w1 ⟨rfl,hb1⟩;replace HK:=Aside0.mk (blk_below HK.out hb1);replace HB:=Aside0.mk (HB.out.trans (hb1.mono HB.out.size));clear hb1;have x0:=(blk_cell HK.out 0).trans rfl;have x1:=(blk_cell HK.out 1).trans rfl;have x2:=(blk_cell HK.out 2).trans rfl;have x3:=(blk_cell HK.out 3).trans rfl;have x4:=(blk_cell HK.out 4).trans rfl;have x5:=(blk_cell HK.out 5).trans rfl;have x6:=(blk_cell HK.out 6).trans rfl;have x7:=(blk_cell HK.out 7).trans rfl;have x8:=(blk_cell HK.out 8).trans rfl;have x9:=(blk_cell HK.out 9).trans rfl;have x10:=(blk_cell HK.out 10).trans rfl;have x11:=(blk_cell HK.out 11).trans rfl;have x12:=(blk_cell HK.out 12).trans rfl;have x13:=(blk_cell HK.out 13).trans rfl)|(go_at_call 35;refine(sizes.calls w.heap.size xid xn xview xstatus hn0 _ x0 x1 x2 x4).mono ?_;rintro e w' ⟨rfl,⟨m,rfl⟩⟩;replace HB:=Aside0.mk (pw_below_drewN HB.out m);replace HK:=Aside0.mk (blk_below HK.out (pw_below_drewN (Below.refl _ _) m)))|(go_at_call 37;refine(ContI.calls AM cM xmat _ (Rd.below HR.out HB.out).2.1.1).mono ?_;rw [c3];rintro e w2 ⟨rfl,hb2⟩;replace HK:=Aside0.mk (blk_below HK.out hb2);replace HB:=Aside0.mk (HB.out.trans (hb2.mono HB.out.size));clear hb2;have x10:=(blk_cell HK.out 10).trans rfl)|(go_at_call 38;refine(ContB.calls AB cB xbals _ (Rd.below HR.out HB.out).2.2.2.1.1).mono ?_;rw [c4];rintro e w3 ⟨rfl,hb3⟩;replace HK:=Aside0.mk (blk_below HK.out hb3);replace HB:=Aside0.mk (HB.out.trans (hb3.mono HB.out.size));clear hb3))
                                  go_ret
                                  exact⟨rfl,HB.out⟩
                                | false =>
                                  have e : checkV ⟨xid,xn,xview,xlast,xstatus,xlog,xcommit,xmat,xmarks,xsent,xbals,xelapsed,xtimeout,xdraws⟩ = true:=by unfold checkV okA okB badC;dsimp only;simp only [s1,a0,a1,a2,a3,a4,b0,b1,b2,b3,b4,c0,c1,c2,c3,c4];first|rfl|(simp;done)
                                  rw [e]
                                  clear e
                                  go_enter Try.func19,Try.ntmps19
                                  go_wp2_with (first|(go_at_call 14;refine(within.calls _ _ _ _).mono ?_;rintro e w' ⟨rfl,rfl⟩)|(go_at_call 34;refine(mayLog.calls AL cL xlog _ (Rd.below HR.out HB.out).1.1).mono ?_;rw [b0];rintro e w1 ⟨rfl,hb1⟩;replace HK:=Aside0.mk (blk_below HK.out hb1);replace HB:=Aside0.mk (HB.out.trans (hb1.mono HB.out.size));clear hb1;have x0:=(blk_cell HK.out 0).trans rfl;have x1:=(blk_cell HK.out 1).trans rfl;have x2:=(blk_cell HK.out 2).trans rfl;have x3:=(blk_cell HK.out 3).trans rfl;have x4:=(blk_cell HK.out 4).trans rfl;have x5:=(blk_cell HK.out 5).trans rfl;have x6:=(blk_cell HK.out 6).trans rfl;have x7:=(blk_cell HK.out 7).trans rfl;have x8:=(blk_cell HK.out 8).trans rfl;have x9:=(blk_cell HK.out 9).trans rfl;have x10:=(blk_cell HK.out 10).trans rfl;have x11:=(blk_cell HK.out 11).trans rfl;have x12:=(blk_cell HK.out 12).trans rfl;have x13:=(blk_cell HK.out 13).trans rfl)|(go_at_call 35;refine(sizes.calls w.heap.size xid xn xview xstatus hn0 _ x0 x1 x2 x4).mono ?_;rintro e w' ⟨rfl,⟨m,rfl⟩⟩;replace HB:=Aside0.mk (pw_below_drewN HB.out m);replace HK:=Aside0.mk (blk_below HK.out (pw_below_drewN (Below.refl _ _) m)))|(go_at_call 37;refine(ContI.calls AM cM xmat _ (Rd.below HR.out HB.out).2.1.1).mono ?_;rw [c3];rintro e w2 ⟨rfl,hb2⟩;replace HK:=Aside0.mk (blk_below HK.out hb2);replace HB:=Aside0.mk (HB.out.trans (hb2.mono HB.out.size));clear hb2;have x10:=(blk_cell HK.out 10).trans rfl)|(go_at_call 38;refine(ContB.calls AB cB xbals _ (Rd.below HR.out HB.out).2.2.2.1.1).mono ?_;rw [c4];rintro e w3 ⟨rfl,hb3⟩;replace HK:=Aside0.mk (blk_below HK.out hb3);replace HB:=Aside0.mk (HB.out.trans (hb3.mono HB.out.size));clear hb3))
                                  go_ret
                                  exact⟨rfl,HB.out⟩
  | false =>
    cases a0 : wi xn 1 9 with
    | false =>
      have e : checkV ⟨xid,xn,xview,xlast,xstatus,xlog,xcommit,xmat,xmarks,xsent,xbals,xelapsed,xtimeout,xdraws⟩ = false:=by unfold checkV okA;dsimp only;simp only [s1,a0];first|rfl|(simp;done)
      rw [e]
      clear e
      go_enter Try.func19,Try.ntmps19
      go_wp2_with (first|(go_at_call 14;refine(within.calls _ _ _ _).mono ?_;rintro e w' ⟨rfl,rfl⟩))
      go_ret
      exact⟨rfl,HB.out⟩
    | true =>
      have hn:=wi_iff.1 a0
      have hwn : wrap64 (xn - 1) = xn - 1:=by unfold wrap64;omega
      have hn0 : xn ≠ 0:=by omega
      clear hn
      cases a1 : wi xid 0 (xn - 1) with
      | false =>
        have e : checkV ⟨xid,xn,xview,xlast,xstatus,xlog,xcommit,xmat,xmarks,xsent,xbals,xelapsed,xtimeout,xdraws⟩ = false:=by unfold checkV okA;dsimp only;simp only [s1,a0,a1];first|rfl|(simp;done)
        rw [e]
        clear e
        go_enter Try.func19,Try.ntmps19
        go_wp2_with (first|(go_at_call 14;refine(within.calls _ _ _ _).mono ?_;rintro e w' ⟨rfl,rfl⟩))
        go_ret
        exact⟨rfl,HB.out⟩
      | true =>
        cases a2 : wi xview 0 1099511627776 with
        | false =>
          have e : checkV ⟨xid,xn,xview,xlast,xstatus,xlog,xcommit,xmat,xmarks,xsent,xbals,xelapsed,xtimeout,xdraws⟩ = false:=by unfold checkV okA;dsimp only;simp only [s1,a0,a1,a2];first|rfl|(simp;done)
          rw [e]
          clear e
          go_enter Try.func19,Try.ntmps19
          go_wp2_with (first|(go_at_call 14;refine(within.calls _ _ _ _).mono ?_;rintro e w' ⟨rfl,rfl⟩))
          go_ret
          exact⟨rfl,HB.out⟩
        | true =>
          cases a3 : wi xlast 0 xview with
          | false =>
            have e : checkV ⟨xid,xn,xview,xlast,xstatus,xlog,xcommit,xmat,xmarks,xsent,xbals,xelapsed,xtimeout,xdraws⟩ = false:=by unfold checkV okA;dsimp only;simp only [s1,a0,a1,a2,a3];first|rfl|(simp;done)
            rw [e]
            clear e
            go_enter Try.func19,Try.ntmps19
            go_wp2_with (first|(go_at_call 14;refine(within.calls _ _ _ _).mono ?_;rintro e w' ⟨rfl,rfl⟩))
            go_ret
            exact⟨rfl,HB.out⟩
          | true =>
            cases a4 : wi xstatus 0 1 with
            | false =>
              have e : checkV ⟨xid,xn,xview,xlast,xstatus,xlog,xcommit,xmat,xmarks,xsent,xbals,xelapsed,xtimeout,xdraws⟩ = false:=by unfold checkV okA;dsimp only;simp only [s1,a0,a1,a2,a3,a4];first|rfl|(simp;done)
              rw [e]
              clear e
              go_enter Try.func19,Try.ntmps19
              go_wp2_with (first|(go_at_call 14;refine(within.calls _ _ _ _).mono ?_;rintro e w' ⟨rfl,rfl⟩))
              go_ret
              exact⟨rfl,HB.out⟩
            | true =>
              cases a5 : (xlast == xview) with
              | false =>
                have e : checkV ⟨xid,xn,xview,xlast,xstatus,xlog,xcommit,xmat,xmarks,xsent,xbals,xelapsed,xtimeout,xdraws⟩ = false:=by unfold checkV okA;dsimp only;simp only [s1,a0,a1,a2,a3,a4,a5];first|rfl|(simp;done)
                rw [e]
                clear e
                go_enter Try.func19,Try.ntmps19
                go_wp2_with (first|(go_at_call 14;refine(within.calls _ _ _ _).mono ?_;rintro e w' ⟨rfl,rfl⟩))
                go_ret
                exact⟨rfl,HB.out⟩
              | true =>
                cases b0 : mayLogV xlog with
                | false =>
                  have e : checkV ⟨xid,xn,xview,xlast,xstatus,xlog,xcommit,xmat,xmarks,xsent,xbals,xelapsed,xtimeout,xdraws⟩ = false:=by unfold checkV okA okB;dsimp only;simp only [s1,a0,a1,a2,a3,a4,a5,b0];first|rfl|(simp;done)
                  rw [e]
                  clear e
                  go_enter Try.func19,Try.ntmps19
                  go_wp2_with (first|(go_at_call 14;refine(within.calls _ _ _ _).mono ?_;rintro e w' ⟨rfl,rfl⟩)|(go_at_call 34;refine(mayLog.calls AL cL xlog _ (Rd.below HR.out HB.out).1.1).mono ?_;rw [b0];rintro e w1 ⟨rfl,hb1⟩;replace HK:=Aside0.mk (blk_below HK.out hb1);replace HB:=Aside0.mk (HB.out.trans (hb1.mono HB.out.size));clear hb1;have x0:=(blk_cell HK.out 0).trans rfl;have x1:=(blk_cell HK.out 1).trans rfl;have x2:=(blk_cell HK.out 2).trans rfl;have x3:=(blk_cell HK.out 3).trans rfl;have x4:=(blk_cell HK.out 4).trans rfl;have x5:=(blk_cell HK.out 5).trans rfl;have x6:=(blk_cell HK.out 6).trans rfl;have x7:=(blk_cell HK.out 7).trans rfl;have x8:=(blk_cell HK.out 8).trans rfl;have x9:=(blk_cell HK.out 9).trans rfl;have x10:=(blk_cell HK.out 10).trans rfl;have x11:=(blk_cell HK.out 11).trans rfl;have x12:=(blk_cell HK.out 12).trans rfl;have x13:=(blk_cell HK.out 13).trans rfl))
                  go_ret
                  exact⟨rfl,HB.out⟩
                | true =>
                  cases b1 : wi xcommit 0 xlog.length with
                  | false =>
                    have e : checkV ⟨xid,xn,xview,xlast,xstatus,xlog,xcommit,xmat,xmarks,xsent,xbals,xelapsed,xtimeout,xdraws⟩ = false:=by unfold checkV okA okB;dsimp only;simp only [s1,a0,a1,a2,a3,a4,a5,b0,b1];first|rfl|(simp;done)
                    rw [e]
                    clear e
                    go_enter Try.func19,Try.ntmps19
                    go_wp2_with (first|(go_at_call 14;refine(within.calls _ _ _ _).mono ?_;rintro e w' ⟨rfl,rfl⟩)|(go_at_call 34;refine(mayLog.calls AL cL xlog _ (Rd.below HR.out HB.out).1.1).mono ?_;rw [b0];rintro e w1 ⟨rfl,hb1⟩;replace HK:=Aside0.mk (blk_below HK.out hb1);replace HB:=Aside0.mk (HB.out.trans (hb1.mono HB.out.size));clear hb1;have x0:=(blk_cell HK.out 0).trans rfl;have x1:=(blk_cell HK.out 1).trans rfl;have x2:=(blk_cell HK.out 2).trans rfl;have x3:=(blk_cell HK.out 3).trans rfl;have x4:=(blk_cell HK.out 4).trans rfl;have x5:=(blk_cell HK.out 5).trans rfl;have x6:=(blk_cell HK.out 6).trans rfl;have x7:=(blk_cell HK.out 7).trans rfl;have x8:=(blk_cell HK.out 8).trans rfl;have x9:=(blk_cell HK.out 9).trans rfl;have x10:=(blk_cell HK.out 10).trans rfl;have x11:=(blk_cell HK.out 11).trans rfl;have x12:=(blk_cell HK.out 12).trans rfl;have x13:=(blk_cell HK.out 13).trans rfl))
                    go_ret
                    exact⟨rfl,HB.out⟩
                  | true =>
                    cases b2 : wi xelapsed 0 1073741824 with
                    | false =>
                      have e : checkV ⟨xid,xn,xview,xlast,xstatus,xlog,xcommit,xmat,xmarks,xsent,xbals,xelapsed,xtimeout,xdraws⟩ = false:=by unfold checkV okA okB;dsimp only;simp only [s1,a0,a1,a2,a3,a4,a5,b0,b1,b2];first|rfl|(simp;done)
                      rw [e]
                      clear e
                      go_enter Try.func19,Try.ntmps19
                      go_wp2_with (first|(go_at_call 14;refine(within.calls _ _ _ _).mono ?_;rintro e w' ⟨rfl,rfl⟩)|(go_at_call 34;refine(mayLog.calls AL cL xlog _ (Rd.below HR.out HB.out).1.1).mono ?_;rw [b0];rintro e w1 ⟨rfl,hb1⟩;replace HK:=Aside0.mk (blk_below HK.out hb1);replace HB:=Aside0.mk (HB.out.trans (hb1.mono HB.out.size));clear hb1;have x0:=(blk_cell HK.out 0).trans rfl;have x1:=(blk_cell HK.out 1).trans rfl;have x2:=(blk_cell HK.out 2).trans rfl;have x3:=(blk_cell HK.out 3).trans rfl;have x4:=(blk_cell HK.out 4).trans rfl;have x5:=(blk_cell HK.out 5).trans rfl;have x6:=(blk_cell HK.out 6).trans rfl;have x7:=(blk_cell HK.out 7).trans rfl;have x8:=(blk_cell HK.out 8).trans rfl;have x9:=(blk_cell HK.out 9).trans rfl;have x10:=(blk_cell HK.out 10).trans rfl;have x11:=(blk_cell HK.out 11).trans rfl;have x12:=(blk_cell HK.out 12).trans rfl;have x13:=(blk_cell HK.out 13).trans rfl))
                      go_ret
                      exact⟨rfl,HB.out⟩
                    | true =>
                      cases b3 : wi xtimeout 0 1073741824 with
                      | false =>
                        have e : checkV ⟨xid,xn,xview,xlast,xstatus,xlog,xcommit,xmat,xmarks,xsent,xbals,xelapsed,xtimeout,xdraws⟩ = false:=by unfold checkV okA okB;dsimp only;simp only [s1,a0,a1,a2,a3,a4,a5,b0,b1,b2,b3];first|rfl|(simp;done)
                        rw [e]
                        clear e
                        go_enter Try.func19,Try.ntmps19
                        go_wp2_with (first|(go_at_call 14;refine(within.calls _ _ _ _).mono ?_;rintro e w' ⟨rfl,rfl⟩)|(go_at_call 34;refine(mayLog.calls AL cL xlog _ (Rd.below HR.out HB.out).1.1).mono ?_;rw [b0];rintro e w1 ⟨rfl,hb1⟩;replace HK:=Aside0.mk (blk_below HK.out hb1);replace HB:=Aside0.mk (HB.out.trans (hb1.mono HB.out.size));clear hb1;have x0:=(blk_cell HK.out 0).trans rfl;have x1:=(blk_cell HK.out 1).trans rfl;have x2:=(blk_cell HK.out 2).trans rfl;have x3:=(blk_cell HK.out 3).trans rfl;have x4:=(blk_cell HK.out 4).trans rfl;have x5:=(blk_cell HK.out 5).trans rfl;have x6:=(blk_cell HK.out 6).trans rfl;have x7:=(blk_cell HK.out 7).trans rfl;have x8:=(blk_cell HK.out 8).trans rfl;have x9:=(blk_cell HK.out 9).trans rfl;have x10:=(blk_cell HK.out 10).trans rfl;have x11:=(blk_cell HK.out 11).trans rfl;have x12:=(blk_cell HK.out 12).trans rfl;have x13:=(blk_cell HK.out 13).trans rfl))
                        go_ret
                        exact⟨rfl,HB.out⟩
                      | true =>
                        cases b4 : decide ((xdraws.length : Int) ≤ 4096) with
                        | false =>
                          have e : checkV ⟨xid,xn,xview,xlast,xstatus,xlog,xcommit,xmat,xmarks,xsent,xbals,xelapsed,xtimeout,xdraws⟩ = false:=by unfold checkV okA okB;dsimp only;simp only [s1,a0,a1,a2,a3,a4,a5,b0,b1,b2,b3,b4];first|rfl|(simp;done)
                          rw [e]
                          clear e
                          go_enter Try.func19,Try.ntmps19
                          go_wp2_with (first|(go_at_call 14;refine(within.calls _ _ _ _).mono ?_;rintro e w' ⟨rfl,rfl⟩)|(go_at_call 34;refine(mayLog.calls AL cL xlog _ (Rd.below HR.out HB.out).1.1).mono ?_;rw [b0];rintro e w1 ⟨rfl,hb1⟩;replace HK:=Aside0.mk (blk_below HK.out hb1);replace HB:=Aside0.mk (HB.out.trans (hb1.mono HB.out.size));clear hb1;have x0:=(blk_cell HK.out 0).trans rfl;have x1:=(blk_cell HK.out 1).trans rfl;have x2:=(blk_cell HK.out 2).trans rfl;have x3:=(blk_cell HK.out 3).trans rfl;have x4:=(blk_cell HK.out 4).trans rfl;have x5:=(blk_cell HK.out 5).trans rfl;have x6:=(blk_cell HK.out 6).trans rfl;have x7:=(blk_cell HK.out 7).trans rfl;have x8:=(blk_cell HK.out 8).trans rfl;have x9:=(blk_cell HK.out 9).trans rfl;have x10:=(blk_cell HK.out 10).trans rfl;have x11:=(blk_cell HK.out 11).trans rfl;have x12:=(blk_cell HK.out 12).trans rfl;have x13:=(blk_cell HK.out 13).trans rfl))
                          go_ret
                          exact⟨rfl,HB.out⟩
                        | true =>
                          cases xsent with
                          | true =>
                            have e : checkV ⟨xid,xn,xview,xlast,xstatus,xlog,xcommit,xmat,xmarks,true,xbals,xelapsed,xtimeout,xdraws⟩ = false:=by unfold checkV okA okB;dsimp only;simp only [s1,a0,a1,a2,a3,a4,a5,b0,b1,b2,b3,b4];first|rfl|(simp;done)
                            rw [e]
                            clear e
                            go_enter Try.func19,Try.ntmps19
                            go_wp2_with (first|(go_at_call 14;refine(within.calls _ _ _ _).mono ?_;rintro e w' ⟨rfl,rfl⟩)|(go_at_call 34;refine(mayLog.calls AL cL xlog _ (Rd.below HR.out HB.out).1.1).mono ?_;rw [b0];rintro e w1 ⟨rfl,hb1⟩;replace HK:=Aside0.mk (blk_below HK.out hb1);replace HB:=Aside0.mk (HB.out.trans (hb1.mono HB.out.size));clear hb1;have x0:=(blk_cell HK.out 0).trans rfl;have x1:=(blk_cell HK.out 1).trans rfl;have x2:=(blk_cell HK.out 2).trans rfl;have x3:=(blk_cell HK.out 3).trans rfl;have x4:=(blk_cell HK.out 4).trans rfl;have x5:=(blk_cell HK.out 5).trans rfl;have x6:=(blk_cell HK.out 6).trans rfl;have x7:=(blk_cell HK.out 7).trans rfl;have x8:=(blk_cell HK.out 8).trans rfl;have x9:=(blk_cell HK.out 9).trans rfl;have x10:=(blk_cell HK.out 10).trans rfl;have x11:=(blk_cell HK.out 11).trans rfl;have x12:=(blk_cell HK.out 12).trans rfl;have x13:=(blk_cell HK.out 13).trans rfl))
                            go_ret
                            exact⟨rfl,HB.out⟩
                          | false =>
                            cases c0 : ((xmat.length : Int) != szM xid xn xview xstatus) with
                            | true =>
                              have e : checkV ⟨xid,xn,xview,xlast,xstatus,xlog,xcommit,xmat,xmarks,false,xbals,xelapsed,xtimeout,xdraws⟩ = false:=by unfold checkV okA okB badC;dsimp only;simp only [s1,a0,a1,a2,a3,a4,a5,b0,b1,b2,b3,b4,c0];first|rfl|(simp;done)
                              rw [e]
                              clear e
                              go_enter Try.func19,Try.ntmps19
                              go_wp2_with (first|(go_at_call 14;refine(within.calls _ _ _ _).mono ?_;rintro e w' ⟨rfl,rfl⟩)|(go_at_call 34;refine(mayLog.calls AL cL xlog _ (Rd.below HR.out HB.out).1.1).mono ?_;rw [b0];rintro e w1 ⟨rfl,hb1⟩;replace HK:=Aside0.mk (blk_below HK.out hb1);replace HB:=Aside0.mk (HB.out.trans (hb1.mono HB.out.size));clear hb1;have x0:=(blk_cell HK.out 0).trans rfl;have x1:=(blk_cell HK.out 1).trans rfl;have x2:=(blk_cell HK.out 2).trans rfl;have x3:=(blk_cell HK.out 3).trans rfl;have x4:=(blk_cell HK.out 4).trans rfl;have x5:=(blk_cell HK.out 5).trans rfl;have x6:=(blk_cell HK.out 6).trans rfl;have x7:=(blk_cell HK.out 7).trans rfl;have x8:=(blk_cell HK.out 8).trans rfl;have x9:=(blk_cell HK.out 9).trans rfl;have x10:=(blk_cell HK.out 10).trans rfl;have x11:=(blk_cell HK.out 11).trans rfl;have x12:=(blk_cell HK.out 12).trans rfl;have x13:=(blk_cell HK.out 13).trans rfl)|(go_at_call 35;refine(sizes.calls w.heap.size xid xn xview xstatus hn0 _ x0 x1 x2 x4).mono ?_;rintro e w' ⟨rfl,⟨m,rfl⟩⟩;replace HB:=Aside0.mk (pw_below_drewN HB.out m);replace HK:=Aside0.mk (blk_below HK.out (pw_below_drewN (Below.refl _ _) m))))
                              go_ret
                              exact⟨rfl,HB.out⟩
                            | false =>
                              cases c1 : ((xmarks.length : Int) != szK xid xn xview xstatus) with
                              | true =>
                                have e : checkV ⟨xid,xn,xview,xlast,xstatus,xlog,xcommit,xmat,xmarks,false,xbals,xelapsed,xtimeout,xdraws⟩ = false:=by unfold checkV okA okB badC;dsimp only;simp only [s1,a0,a1,a2,a3,a4,a5,b0,b1,b2,b3,b4,c0,c1];first|rfl|(simp;done)
                                rw [e]
                                clear e
                                go_enter Try.func19,Try.ntmps19
                                go_wp2_with (first|(go_at_call 14;refine(within.calls _ _ _ _).mono ?_;rintro e w' ⟨rfl,rfl⟩)|(go_at_call 34;refine(mayLog.calls AL cL xlog _ (Rd.below HR.out HB.out).1.1).mono ?_;rw [b0];rintro e w1 ⟨rfl,hb1⟩;replace HK:=Aside0.mk (blk_below HK.out hb1);replace HB:=Aside0.mk (HB.out.trans (hb1.mono HB.out.size));clear hb1;have x0:=(blk_cell HK.out 0).trans rfl;have x1:=(blk_cell HK.out 1).trans rfl;have x2:=(blk_cell HK.out 2).trans rfl;have x3:=(blk_cell HK.out 3).trans rfl;have x4:=(blk_cell HK.out 4).trans rfl;have x5:=(blk_cell HK.out 5).trans rfl;have x6:=(blk_cell HK.out 6).trans rfl;have x7:=(blk_cell HK.out 7).trans rfl;have x8:=(blk_cell HK.out 8).trans rfl;have x9:=(blk_cell HK.out 9).trans rfl;have x10:=(blk_cell HK.out 10).trans rfl;have x11:=(blk_cell HK.out 11).trans rfl;have x12:=(blk_cell HK.out 12).trans rfl;have x13:=(blk_cell HK.out 13).trans rfl)|(go_at_call 35;refine(sizes.calls w.heap.size xid xn xview xstatus hn0 _ x0 x1 x2 x4).mono ?_;rintro e w' ⟨rfl,⟨m,rfl⟩⟩;replace HB:=Aside0.mk (pw_below_drewN HB.out m);replace HK:=Aside0.mk (blk_below HK.out (pw_below_drewN (Below.refl _ _) m))))
                                go_ret
                                exact⟨rfl,HB.out⟩
                              | false =>
                                cases c2 : ((xbals.length : Int) != szB xid xn xview xstatus) with
                                | true =>
                                  have e : checkV ⟨xid,xn,xview,xlast,xstatus,xlog,xcommit,xmat,xmarks,false,xbals,xelapsed,xtimeout,xdraws⟩ = false:=by unfold checkV okA okB badC;dsimp only;simp only [s1,a0,a1,a2,a3,a4,a5,b0,b1,b2,b3,b4,c0,c1,c2];first|rfl|(simp;done)
                                  rw [e]
                                  clear e
                                  go_enter Try.func19,Try.ntmps19
                                  go_wp2_with (first|(go_at_call 14;refine(within.calls _ _ _ _).mono ?_;rintro e w' ⟨rfl,rfl⟩)|(go_at_call 34;refine(mayLog.calls AL cL xlog _ (Rd.below HR.out HB.out).1.1).mono ?_;rw [b0];rintro e w1 ⟨rfl,hb1⟩;replace HK:=Aside0.mk (blk_below HK.out hb1);replace HB:=Aside0.mk (HB.out.trans (hb1.mono HB.out.size));clear hb1;have x0:=(blk_cell HK.out 0).trans rfl;have x1:=(blk_cell HK.out 1).trans rfl;have x2:=(blk_cell HK.out 2).trans rfl;have x3:=(blk_cell HK.out 3).trans rfl;have x4:=(blk_cell HK.out 4).trans rfl;have x5:=(blk_cell HK.out 5).trans rfl;have x6:=(blk_cell HK.out 6).trans rfl;have x7:=(blk_cell HK.out 7).trans rfl;have x8:=(blk_cell HK.out 8).trans rfl;have x9:=(blk_cell HK.out 9).trans rfl;have x10:=(blk_cell HK.out 10).trans rfl;have x11:=(blk_cell HK.out 11).trans rfl;have x12:=(blk_cell HK.out 12).trans rfl;have x13:=(blk_cell HK.out 13).trans rfl)|(go_at_call 35;refine(sizes.calls w.heap.size xid xn xview xstatus hn0 _ x0 x1 x2 x4).mono ?_;rintro e w' ⟨rfl,⟨m,rfl⟩⟩;replace HB:=Aside0.mk (pw_below_drewN HB.out m);replace HK:=Aside0.mk (blk_below HK.out (pw_below_drewN (Below.refl _ _) m))))
                                  go_ret
                                  exact⟨rfl,HB.out⟩
                                | false =>
                                  cases c3 : xmat.any badN with
                                  | true =>
                                    have e : checkV ⟨xid,xn,xview,xlast,xstatus,xlog,xcommit,xmat,xmarks,false,xbals,xelapsed,xtimeout,xdraws⟩ = false:=by unfold checkV okA okB badC;dsimp only;simp only [s1,a0,a1,a2,a3,a4,a5,b0,b1,b2,b3,b4,c0,c1,c2,c3];first|rfl|(simp;done)
                                    rw [e]
                                    clear e
                                    go_enter Try.func19,Try.ntmps19
                                    go_wp2_with (first|(go_at_call 14;refine(within.calls _ _ _ _).mono ?_;rintro e w' ⟨rfl,rfl⟩)|(go_at_call 34;refine(mayLog.calls AL cL xlog _ (Rd.below HR.out HB.out).1.1).mono ?_;rw [b0];rintro e w1 ⟨rfl,hb1⟩;replace HK:=Aside0.mk (blk_below HK.out hb1);replace HB:=Aside0.mk (HB.out.trans (hb1.mono HB.out.size));clear hb1;have x0:=(blk_cell HK.out 0).trans rfl;have x1:=(blk_cell HK.out 1).trans rfl;have x2:=(blk_cell HK.out 2).trans rfl;have x3:=(blk_cell HK.out 3).trans rfl;have x4:=(blk_cell HK.out 4).trans rfl;have x5:=(blk_cell HK.out 5).trans rfl;have x6:=(blk_cell HK.out 6).trans rfl;have x7:=(blk_cell HK.out 7).trans rfl;have x8:=(blk_cell HK.out 8).trans rfl;have x9:=(blk_cell HK.out 9).trans rfl;have x10:=(blk_cell HK.out 10).trans rfl;have x11:=(blk_cell HK.out 11).trans rfl;have x12:=(blk_cell HK.out 12).trans rfl;have x13:=(blk_cell HK.out 13).trans rfl)|(go_at_call 35;refine(sizes.calls w.heap.size xid xn xview xstatus hn0 _ x0 x1 x2 x4).mono ?_;rintro e w' ⟨rfl,⟨m,rfl⟩⟩;replace HB:=Aside0.mk (pw_below_drewN HB.out m);replace HK:=Aside0.mk (blk_below HK.out (pw_below_drewN (Below.refl _ _) m)))|(go_at_call 37;refine(ContI.calls AM cM xmat _ (Rd.below HR.out HB.out).2.1.1).mono ?_;rw [c3];rintro e w2 ⟨rfl,hb2⟩;replace HK:=Aside0.mk (blk_below HK.out hb2);replace HB:=Aside0.mk (HB.out.trans (hb2.mono HB.out.size));clear hb2;have x10:=(blk_cell HK.out 10).trans rfl))
                                    go_ret
                                    exact⟨rfl,HB.out⟩
                                  | false =>
                                    cases c4 : xbals.any mayNot with
                                    | true =>
                                      have e : checkV ⟨xid,xn,xview,xlast,xstatus,xlog,xcommit,xmat,xmarks,false,xbals,xelapsed,xtimeout,xdraws⟩ = false:=by unfold checkV okA okB badC;dsimp only;simp only [s1,a0,a1,a2,a3,a4,a5,b0,b1,b2,b3,b4,c0,c1,c2,c3,c4];first|rfl|(simp;done)
                                      rw [e]
                                      clear e
                                      go_enter Try.func19,Try.ntmps19
                                      go_wp2_with (first|(go_at_call 14;refine(within.calls _ _ _ _).mono ?_;rintro e w' ⟨rfl,rfl⟩)|(go_at_call 34;refine(mayLog.calls AL cL xlog _ (Rd.below HR.out HB.out).1.1).mono ?_;rw [b0];rintro e w1 ⟨rfl,hb1⟩;replace HK:=Aside0.mk (blk_below HK.out hb1);replace HB:=Aside0.mk (HB.out.trans (hb1.mono HB.out.size));clear hb1;have x0:=(blk_cell HK.out 0).trans rfl;have x1:=(blk_cell HK.out 1).trans rfl;have x2:=(blk_cell HK.out 2).trans rfl;have x3:=(blk_cell HK.out 3).trans rfl;have x4:=(blk_cell HK.out 4).trans rfl;have x5:=(blk_cell HK.out 5).trans rfl;have x6:=(blk_cell HK.out 6).trans rfl;have x7:=(blk_cell HK.out 7).trans rfl;have x8:=(blk_cell HK.out 8).trans rfl;have x9:=(blk_cell HK.out 9).trans rfl;have x10:=(blk_cell HK.out 10).trans rfl;have x11:=(blk_cell HK.out 11).trans rfl;have x12:=(blk_cell HK.out 12).trans rfl;have x13:=(blk_cell HK.out 13).trans rfl)|(go_at_call 35;refine(sizes.calls w.heap.size xid xn xview xstatus hn0 _ x0 x1 x2 x4).mono ?_;rintro e w' ⟨rfl,⟨m,rfl⟩⟩;replace HB:=Aside0.mk (pw_below_drewN HB.out m);replace HK:=Aside0.mk (blk_below HK.out (pw_below_drewN (Below.refl _ _) m)))|(go_at_call 37;refine(ContI.calls AM cM xmat _ (Rd.below HR.out HB.out).2.1.1).mono ?_;rw [c3];rintro e w2 ⟨rfl,hb2⟩;replace HK:=Aside0.mk (blk_below HK.out hb2);replace HB:=Aside0.mk (HB.out.trans (hb2.mono HB.out.size));clear hb2;have x10:=(blk_cell HK.out 10).trans rfl)|(go_at_call 38;refine(ContB.calls AB cB xbals _ (Rd.below HR.out HB.out).2.2.2.1.1).mono ?_;rw [c4];rintro e w3 ⟨rfl,hb3⟩;replace HK:=Aside0.mk (blk_below HK.out hb3);replace HB:=Aside0.mk (HB.out.trans (hb3.mono HB.out.size));clear hb3))
                                      go_ret
                                      exact⟨rfl,HB.out⟩
                                    | false =>
                                      have e : checkV ⟨xid,xn,xview,xlast,xstatus,xlog,xcommit,xmat,xmarks,false,xbals,xelapsed,xtimeout,xdraws⟩ = true:=by unfold checkV okA okB badC;dsimp only;simp only [s1,a0,a1,a2,a3,a4,a5,b0,b1,b2,b3,b4,c0,c1,c2,c3,c4];first|rfl|(simp;done)
                                      rw [e]
                                      clear e
                                      go_enter Try.func19,Try.ntmps19
                                      go_wp2_with (first|(go_at_call 14;refine(within.calls _ _ _ _).mono ?_;rintro e w' ⟨rfl,rfl⟩)|(go_at_call 34;refine(mayLog.calls AL cL xlog _ (Rd.below HR.out HB.out).1.1).mono ?_;rw [b0];rintro e w1 ⟨rfl,hb1⟩;replace HK:=Aside0.mk (blk_below HK.out hb1);replace HB:=Aside0.mk (HB.out.trans (hb1.mono HB.out.size));clear hb1;have x0:=(blk_cell HK.out 0).trans rfl;have x1:=(blk_cell HK.out 1).trans rfl;have x2:=(blk_cell HK.out 2).trans rfl;have x3:=(blk_cell HK.out 3).trans rfl;have x4:=(blk_cell HK.out 4).trans rfl;have x5:=(blk_cell HK.out 5).trans rfl;have x6:=(blk_cell HK.out 6).trans rfl;have x7:=(blk_cell HK.out 7).trans rfl;have x8:=(blk_cell HK.out 8).trans rfl;have x9:=(blk_cell HK.out 9).trans rfl;have x10:=(blk_cell HK.out 10).trans rfl;have x11:=(blk_cell HK.out 11).trans rfl;have x12:=(blk_cell HK.out 12).trans rfl;have x13:=(blk_cell HK.out 13).trans rfl)|(go_at_call 35;refine(sizes.calls w.heap.size xid xn xview xstatus hn0 _ x0 x1 x2 x4).mono ?_;rintro e w' ⟨rfl,⟨m,rfl⟩⟩;replace HB:=Aside0.mk (pw_below_drewN HB.out m);replace HK:=Aside0.mk (blk_below HK.out (pw_below_drewN (Below.refl _ _) m)))|(go_at_call 37;refine(ContI.calls AM cM xmat _ (Rd.below HR.out HB.out).2.1.1).mono ?_;rw [c3];rintro e w2 ⟨rfl,hb2⟩;replace HK:=Aside0.mk (blk_below HK.out hb2);replace HB:=Aside0.mk (HB.out.trans (hb2.mono HB.out.size));clear hb2;have x10:=(blk_cell HK.out 10).trans rfl)|(go_at_call 38;refine(ContB.calls AB cB xbals _ (Rd.below HR.out HB.out).2.2.2.1.1).mono ?_;rw [c4];rintro e w3 ⟨rfl,hb3⟩;replace HK:=Aside0.mk (blk_below HK.out hb3);replace HB:=Aside0.mk (HB.out.trans (hb3.mono HB.out.size));clear hb3))
                                      go_ret
                                      exact⟨rfl,HB.out⟩
end Go.Proofs.Ytojjnifbnppliaa.T
end
section
namespace Go.Proofs.Ytojjnifbnppliaa.T
open Go.RowKit Go.Proofs.YtojjnifbnppliaaW.PrintWords Go.Proofs.YtojjnifbnppliaaW.PrintLast Go.Proofs.YtojjnifbnppliaaW.PrintMore
attribute [local go_sem] max2_int min2_int max_two min_two max_three min_three max_four min_four
set_option linter.unusedVariables false
set_option linter.unusedSimpArgs false
set_option maxHeartbeats 4000000 in
set_option maxRecDepth 100000 in
theorem lead.calls (b t : Nat) (cs : Array Value) (id n : Int) (AL : Option Addr) (cL : Nat) (L : List (List Int)) (v7 : Value) (w : World) (hb : w.heap[b]? = some (.cells cs t (0,0))) (e0 : cs[0]? = some (.int .i64 id)) (e1 : cs[1]? = some (.int .i64 n)) (e5 : cs[5]? = some (.slice AL L.length cL)) (e7 : cs[7]? = some v7) (hn : 1 ≤ n∧n ≤ 9) (hid : 0 ≤ id∧id < n) :
    Calls Try.prog 17 #[.pointer (some ⟨b,0,none⟩)] w fun e w'=>∃ vM : Value,e = .returned (.tuple #[])∧w'.heap[b]? = some (.cells (cs.setIfInBounds 7 vM) t (0,0))∧(Kd.int .i64).R 3 w' w.heap.size (fun _=>True) vM ((List.replicate n.toNat (0 : Int)).set id.toNat L.length)∧Keeps w w' (fun k=>k = b):=by
  obtain ⟨m,rfl⟩ : ∃ m : Nat,n = (m : Int):=⟨n.toNat,by omega⟩
  rw [Int.toNat_natCast]
  have hu:=Try.underlying23
  have x0:=(blk_cell hb 0).trans e0
  have x1:=(blk_cell hb 1).trans e1
  have x5:=(blk_cell hb 5).trans e5
  have x7:=(blk_cell hb 7).trans e7
  have f7:=blk_frozen hb 7
  have HN:=Aside0.mk (And.intro hn hid)
  have HBK:=Aside0.mk hb
  have E7:=Aside0.mk e7
  have ES:=Aside0.mk (And.intro e0 e5)
  have HBL:=Aside0.mk (blk_lt hb)
  clear hn hid e0 e1 e5 e7 hb
  go_enter Try.func17,Try.ntmps17
  go_wp2_with ((with_reducible refine gate_dst (N:=7) rfl ?_);refine Kd.R_make (Kd.int .i64) (w0:=w) w.heap.size 3 rfl rfl 23 (.tmp 6) (.tmp 6) rfl (m : Int) rfl rfl Try.underlying23 (.int .i64 0) 8 info3 rfl (by decide) (by omega) (0 : Int) (ok:=fun _=>True) (okp:=fun _=>False) rfl (fun _ hk=>hk.elim) trivial (by have:=HN.out;omega) (by have:=HN.out;omega) (Below.refl _ _) (Nat.le_refl _) ?_;intro v1 w1 hr hb1 hg hown;rw [Int.toNat_natCast] at hr;obtain ⟨g,hg1,hg2⟩:=hown;obtain ⟨gg,cap,hv,hgs,hgl,hcells⟩:=Kd.R_form hr (by rw [List.length_replicate];have:=HN.out;omega);rw [List.length_replicate] at hv;subst hv;have R1:=Aside0.mk hr;have B1:=Aside0.mk hb1;have GS:=Aside0.mk (show w.heap.size ≤ gg from hgs);replace x0:=(hb1.cell (World.block_lt_of_cell? _ _ x0)).trans x0;replace x1:=(hb1.cell (World.block_lt_of_cell? _ _ x1)).trans x1;replace x5:=(hb1.cell (World.block_lt_of_cell? _ _ x5)).trans x5;replace x7:=(hb1.cell (World.block_lt_of_cell? _ _ x7)).trans x7;replace HBK:=Aside0.mk (blk_below HBK.out hb1);replace f7:=blk_frozen HBK.out 7;clear hr hb1 hg hg1 hg2 hgl hcells)
  have i0 : (0 ≤ id) = True:=eq_true HN.out.2.1
  have i1 : (id < (m : Int)) = True:=eq_true HN.out.2.2
  have K2:=blk_set HBK.out 7 (.slice (some ⟨gg,0,none⟩) m cap)
  have R2:=Kd.R_mono (ok':=fun _=>True) (Kd.R_far (p:=⟨b,7,none⟩) (Kd.R_bound R1.out) (fun k hk=>by have h1:=hk.2.1;have h2:=HBL.out;show k ≠ b;omega) (.slice (some ⟨gg,0,none⟩) m cap)) (fun _ _=>trivial)
  have KB2 : Keeps w (w1.setCell ⟨b,7,none⟩ (.slice (some ⟨gg,0,none⟩) m cap)) (fun k=>k = b):=Keeps.set_ (Keeps.of_belows B1.out _) 7 _
  clear x0 x1 x5 x7 f7 HBK R1 B1
  generalize w1.setCell ⟨b,7,none⟩ (.slice (some ⟨gg,0,none⟩) m cap) = W2 at *
  have hne : ∀ i : Nat,i ≠ 7→(cs.setIfInBounds 7 (.slice (some ⟨gg,0,none⟩) m cap))[i]? = cs[i]?:=fun i hi=>Array.getElem?_setIfInBounds_ne (by omega)
  have x0:=(blk_cell K2 0).trans ((hne 0 (by decide)).trans ES.out.1)
  have x5:=(blk_cell K2 5).trans ((hne 5 (by decide)).trans ES.out.2)
  have x7 : W2.cell? ⟨b,7,none⟩ = some (.slice (some ⟨gg,0,none⟩) m cap):=(blk_cell K2 7).trans (by
    rw [Array.getElem?_setIfInBounds_self]
    have:=(Array.getElem?_eq_some_iff.1 E7.out).1
    rw [if_pos this])
  have xg : W2.cell? ⟨gg,id.toNat,none⟩ = some (.int .i64 0):=by
    obtain ⟨c,hc,hM,hcell,_⟩:=Kd.R_elem R2 (0 : Int) id HN.out.2.1 (by have:=HN.out;omega)
    have h0 : c = [.int .i64 ((List.replicate m (0 : Int)).getD id.toNat 0)]:=hM
    have hz : (List.replicate m (0 : Int)).getD id.toNat 0 = 0:=by rw [List.getD_eq_getElem?_getD,List.getElem?_replicate];split <;> rfl
    rw [hz] at h0
    have:=hcell 0 _ (by rw [h0];rfl)
    simpa [Kd.int,Kd.scalar] using this
  have fg:=(by obtain ⟨_,_,_,_,hf⟩:=Kd.R_elem R2 (0 : Int) id HN.out.2.1 (by have:=HN.out;omega);simpa [Kd.int,Kd.scalar] using hf 0 : W2.frozen? ⟨gg,id.toNat,none⟩ = false)
  have Z:=Aside0.mk (And.intro K2 (And.intro R2 KB2))
  have HGB:=Aside0.mk (show gg ≠ b from fun e=>by have h2:=HBL.out;omega)
  clear K2 R2 KB2 hne
  go_still_tail 13,(by kernel_rfl)
  change wpList _ _ _ _ _ W2.drew
  go_wp2_with fail
  obtain ⟨K2,R2,KB2⟩:=Z.out
  go_end0
  refine⟨.slice (some ⟨gg,0,none⟩) m cap,rfl,?_,?_,?_⟩
  · exact blk_far K2 (p:=⟨gg,id.toNat,none⟩) (fun e=>HGB.out e.symm) (.int .i64 L.length)
  · exact Kd.R_drew (Kd.R_putn R2 id (L.length : Int))
  · exact(KB2.setCell (p:=⟨gg,id.toNat,none⟩) (.inr GS.out) _).drew
def drawV (id : Int) (d : List Int) : Int:=if d = [] then id + 10 else((rd d 0).tmod 10 + 10).tmod 10 + 10
theorem rd_mod (x : Int) : 0 ≤ (x.tmod 10 + 10).tmod 10∧(x.tmod 10 + 10).tmod 10 < 10∧wrap64 (x.tmod 10 + 10) = x.tmod 10 + 10∧wrap64 ((x.tmod 10 + 10).tmod 10 + 10) = (x.tmod 10 + 10).tmod 10 + 10:=by
  have h1 : -10 < x.tmod 10∧x.tmod 10 < 10:=⟨Int.lt_tmod_of_pos x (by omega),Int.tmod_lt_of_pos x (by omega)⟩
  have h2 : 0 ≤ (x.tmod 10 + 10).tmod 10:=Int.tmod_nonneg _ (by omega)
  have h3 : (x.tmod 10 + 10).tmod 10 < 10:=Int.tmod_lt_of_pos _ (by omega)
  refine⟨h2,h3,?_,?_⟩
  · unfold wrap64;omega
  · generalize (x.tmod 10 + 10).tmod 10 = y at *
    unfold wrap64;omega
set_option maxHeartbeats 4000000 in
set_option maxRecDepth 100000 in
theorem draw.calls (b t : Nat) (cs : Array Value) (id : Int) (AD : Option Addr) (cD : Nat) (d : List Int) (v12 : Value) (w : World) (hb : w.heap[b]? = some (.cells cs t (0,0))) (e0 : cs[0]? = some (.int .i64 id)) (e12 : cs[12]? = some v12) (e13 : cs[13]? = some (.slice AD d.length cD)) (hid : 0 ≤ id∧id < 9) (hC : Kd.C (Kd.int .i64) w AD d.length d) (hc : d.length ≤ cD) (hfar : ∀ a : Addr,AD = some a→0 < d.length→a.block ≠ b) :
    Calls Try.prog 18 #[.pointer (some ⟨b,0,none⟩)] w fun e w'=>∃ (A : Option Addr) (c : Nat),e = .returned (.tuple #[])∧w'.heap[b]? = some (.cells ((cs.setIfInBounds 12 (.int .i64 (drawV id d))).setIfInBounds 13 (.slice A d.tail.length c)) t (0,0))∧d.tail.length ≤ c∧(∀ W,Kd.C (Kd.int .i64) W AD d.length d→Kd.C (Kd.int .i64) W A d.tail.length d.tail)∧Keeps w w' (fun k=>k = b):=by
  have hu:=Try.underlying23
  have x0:=(blk_cell hb 0).trans e0
  have x12:=(blk_cell hb 12).trans e12
  have x13:=(blk_cell hb 13).trans e13
  have f12:=blk_frozen hb 12
  have f13:=blk_frozen hb 13
  have hw1 : wrap64 (id + 10) = id + 10:=by unfold wrap64;omega
  have HB:=Aside0.mk (And.intro hb (And.intro e12 e13))
  have HC:=Aside0.mk (And.intro hC hc)
  clear hb e0 e12 e13 hid
  by_cases hd : d = []
  · subst hd
    simp only [List.length_nil,List.tail_nil] at *
    go_enter Try.func18,Try.ntmps18
    go_wp2
    go_end0
    refine⟨AD,cD,rfl,?_,Nat.zero_le _,fun _ h=>h,?_⟩
    · have h1:=blk_set HB.out.1 12 (.int .i64 (id + 10))
      rw [h1]
      congr 2
      apply Array.ext_getElem?
      intro j
      by_cases hj : j = 13
      · subst hj
        rw [Array.getElem?_setIfInBounds_ne (by decide),HB.out.2.2]
        have h13:=(Array.getElem?_eq_some_iff.1 HB.out.2.2).1
        rw [Array.getElem?_setIfInBounds_self,if_pos (by simpa using h13)]
      · rw [Array.getElem?_setIfInBounds_ne (i:=13) (by omega)];rfl
    · exact Keeps.set_ (Keeps.refl w _) 12 _
  · have hpos : 0 < d.length:=List.length_pos_iff.2 hd
    obtain ⟨ad,rfl,hx⟩:=Kd.at_int HC.out.1 0 (by omega) (by omega)
    have HF:=Aside0.mk (hfar ad rfl hpos)
    obtain ⟨r1,r2,r3,r4⟩:=rd_mod (rd d 0)
    have hdd : drawV id d = ((rd d 0).tmod 10 + 10).tmod 10 + 10:=by unfold drawV;rw [if_neg hd]
    rw [hdd]
    have d1 : decide (0 < (d.length : Int)) = true:=decide_eq_true (by omega)
    have q1 : (0 < d.length) = True:=eq_true hpos
    have q2 : (1 ≤ d.length) = True:=eq_true hpos
    have q3 : decide (0 < d.length) = true:=decide_eq_true hpos
    have hxs : (w.setCell ⟨b,12,none⟩ (.int .i64 (id + 10))).cell? ad = some (.int .i64 (rd d 0)):=by
      have h0 : ad.add (0 : Int).toNat = ad:=by cases ad;rfl
      rw [h0] at hx
      have h1:=Below.heap_setCell w ⟨b,12,none⟩ (.int .i64 (id + 10)) ad.block HF.out
      simpa [World.cell?,h1] using hx
    clear hx
    have q4 : (1 ≤ (d.length : Int)) = True:=eq_true (by omega)
    have HP:=Aside0.mk hpos
    have hcc:=HC.out.2
    clear r1 r2 hdd hfar hd hpos hC hc
    have fin : ∀ (A : Option Addr) (c : Nat),A = (if cD = 1 then some ad else some (ad.add 1))→c = cD - 1→d.tail.length ≤ c∧(∀ W,Kd.C (Kd.int .i64) W (some ad) d.length d→Kd.C (Kd.int .i64) W A d.tail.length d.tail):=by
      rintro A c rfl rfl
      refine⟨by rw [List.length_tail];omega,fun W h=>?_⟩
      have h2:=Kd.C_drop (m:=1) (c:=cD) h (by have:=HP.out;omega) hcc
      rw [List.drop_one] at h2
      have e : (if cD = 1 then some ad else(some ad).map (·.add (1 * (Kd.int .i64).sz))) = (if cD = 1 then some ad else some (ad.add 1)):=rfl
      rw [e] at h2
      exact h2
    have FIN:=Aside0.mk fin
    have HCC:=Aside0.mk hcc
    clear fin hcc
    have last : ∀ (A : Option Addr) (c : Nat),((((w.setCell ⟨b,12,none⟩ (.int .i64 (id + 10))).setCell ⟨b,12,none⟩ (.int .i64 (((rd d 0).tmod 10 + 10).tmod 10 + 10))).setCell ⟨b,13,none⟩ (.slice A d.tail.length c))).heap[b]? = some (.cells ((cs.setIfInBounds 12 (.int .i64 (((rd d 0).tmod 10 + 10).tmod 10 + 10))).setIfInBounds 13 (.slice A d.tail.length c)) t (0,0)):=fun A c=>by
      have h1:=blk_set (blk_set (blk_set HB.out.1 12 (.int .i64 (id + 10))) 12 (.int .i64 (((rd d 0).tmod 10 + 10).tmod 10 + 10))) 13 (.slice A d.tail.length c)
      rw [h1,Array.setIfInBounds_setIfInBounds]
    have LAST:=Aside0.mk last
    clear last
    by_cases hc1 : cD = 1
    · have FI:=Aside0.mk (FIN.out (some ad) 0 (by rw [if_pos hc1]) (by omega))
      go_enter Try.func18,Try.ntmps18
      go_wp2
      go_end0
      have hl : d.tail.length = d.length - 1:=List.length_tail
      refine⟨some ad,0,rfl,?_,FI.out.1,FI.out.2,?_⟩
      · rw [← hl];exact LAST.out _ _
      · exact Keeps.set_ (Keeps.set_ (Keeps.set_ (Keeps.refl w _) 12 _) 12 _) 13 _
    · have FI:=Aside0.mk (FIN.out (some (ad.add 1)) (cD - 1) (by rw [if_neg hc1]) rfl)
      go_enter Try.func18,Try.ntmps18
      go_wp2
      go_end0
      have hl : d.tail.length = d.length - 1:=List.length_tail
      refine⟨some (ad.add 1),cD - 1,rfl,?_,FI.out.1,FI.out.2,?_⟩
      · rw [← hl];exact LAST.out _ _
      · exact Keeps.set_ (Keeps.set_ (Keeps.set_ (Keeps.refl w _) 12 _) 12 _) 13 _
end Go.Proofs.Ytojjnifbnppliaa.T
end
section
namespace Go.Proofs.Ytojjnifbnppliaa.T
open Go.RowKit Go.Proofs.YtojjnifbnppliaaW.PrintWords Go.Proofs.YtojjnifbnppliaaW.PrintLast Go.Proofs.YtojjnifbnppliaaW.PrintMore
attribute [local go_sem] max2_int min2_int max_two min_two max_three min_three max_four min_four
set_option linter.unusedVariables false
set_option linter.unusedSimpArgs false
theorem far_of {A : Option Addr} {d : List Int} {w : World} {b : Nat} (h : Kd.C (Kd.int .i64) w A d.length d) (hb : w.heap.size ≤ b) : ∀ a : Addr,A = some a→0 < d.length→a.block ≠ b:=by
  rintro a rfl hp e
  obtain ⟨ad,he,hx⟩:=Kd.at_int h 0 (by omega) (by omega)
  cases he
  have h2:=World.block_lt_of_cell? _ _ hx
  rw [add_block] at h2
  omega
theorem keep_of {α : Type} {d : Kd α} {A : Option Addr} {l : List α} {w : World} {b : Nat} (h : d.C w A l.length l) (hb : w.heap.size ≤ b) : ∀ W,Keeps w W (fun k=>k = b)→d.C W A l.length l:=fun W hk=>Kd.C_below h (hk.to_below (Nat.le_refl _) (fun k hk=>by omega))
def zSt : St:=⟨0,0,0,0,0,[],0,[],[],false,[],0,0,[]⟩
theorem Rd.zero (w : World) : Rd w zSt none 0 none 0 none 0 none 0 none 0:=⟨⟨Kd.C_nil _ _,Nat.le_refl _⟩,⟨Kd.C_nil _ _,Nat.le_refl _⟩,⟨Kd.C_nil _ _,Nat.le_refl _⟩,⟨Kd.C_nil _ _,Nat.le_refl _⟩,⟨Kd.C_nil _ _,Nat.le_refl _⟩⟩
def newM (id n : Int) : List Int:=if leadsV id n 0 0 = true then(List.replicate n.toNat (0 : Int)).set id.toNat 0 else []
def newS (id n : Int) (d : List Int) : St:=⟨id,n,0,0,0,[],0,newM id n,[],false,[],0,drawV id d,d.tail⟩
def newF (id n : Int) (d : List Int) : St × Int:=if wi n 1 9 = true∧wi id 0 (n - 1) = true then(if(d.length : Int) > 4096 then(zSt,3) else(newS id n d,0)) else(zSt,4)
set_option maxHeartbeats 8000000 in
set_option maxRecDepth 100000 in
theorem New.calls (id n : Int) (A : Option Addr) (c : Nat) (d : List Int) (w : World) (hC : Kd.C (Kd.int .i64) w A d.length d) (hc : d.length ≤ c) :
    Calls Try.prog 7 #[.int .i64 id,.int .i64 n,.slice A d.length c] w fun e w'=>∃ (AL : Option Addr) (cL : Nat) (AM : Option Addr) (cM : Nat) (AK : Option Addr) (cK : Nat) (AB : Option Addr) (cB : Nat) (AD : Option Addr) (cD : Nat),e = .returned (.tuple #[.agg #[.int .i64 (newF id n d).1.id,.int .i64 (newF id n d).1.n,.int .i64 (newF id n d).1.view,.int .i64 (newF id n d).1.last,.int .i64 (newF id n d).1.status,.slice AL (newF id n d).1.log.length cL,.int .i64 (newF id n d).1.commit,.slice AM (newF id n d).1.mat.length cM,.slice AK (newF id n d).1.marks.length cK,.bool (newF id n d).1.sent,.slice AB (newF id n d).1.bals.length cB,.int .i64 (newF id n d).1.elapsed,.int .i64 (newF id n d).1.timeout,.slice AD (newF id n d).1.draws.length cD],.int .i64 (newF id n d).2])∧Rd w' (newF id n d).1 AL cL AM cM AK cK AB cB AD cD∧Below w.heap.size w w':=by
  have hu:=Try.underlying29
  have HC:=Aside0.mk (And.intro hC hc)
  have HB:=Aside0.mk (below_alloc (Below.refl w.heap.size w) (.cells #[.int .i64 0,.int .i64 0,.int .i64 0,.int .i64 0,.int .i64 0,.slice none 0 0,.int .i64 0,.slice none 0 0,.slice none 0 0,.bool false,.slice none 0 0,.int .i64 0,.int .i64 0,.slice none 0 0] 29))
  have HK:=Aside0.mk (heap_alloc_new w (.cells #[.int .i64 0,.int .i64 0,.int .i64 0,.int .i64 0,.int .i64 0,.slice none 0 0,.int .i64 0,.slice none 0 0,.slice none 0 0,.bool false,.slice none 0 0,.int .i64 0,.int .i64 0,.slice none 0 0] 29))
  clear hC hc
  cases h1 : wi n 1 9 with
  | false =>
    have e : newF id n d = (zSt,4):=by unfold newF;rw [if_neg (by rw [h1];simp)]
    rw [e]
    clear e
    go_enter Try.func7,Try.ntmps7
    go_wp2_with (first|(go_at_call 14;refine(within.calls _ _ _ _).mono ?_;rintro e w' ⟨rfl,rfl⟩))
    refine bodyPost_ret (results_list (rs:=[.cell 6 29,.tmp 7]) rfl (by simp) (.cell w.heap.size 29 #[.int .i64 0,.int .i64 0,.int .i64 0,.int .i64 0,.int .i64 0,.slice none 0 0,.int .i64 0,.slice none 0 0,.slice none 0 0,.bool false,.slice none 0 0,.int .i64 0,.int .i64 0,.slice none 0 0] (0,0) _ rfl HK.out Try.underlying29 rfl (by kernel_rfl) (.tmp .nil))) rfl ?_
    exact⟨none,0,none,0,none,0,none,0,none,0,rfl,Rd.zero _,HB.out⟩
  | true =>
    have hn:=wi_iff.1 h1
    have hwn : wrap64 (n - 1) = n - 1:=by unfold wrap64;omega
    cases h2 : wi id 0 (n - 1) with
    | false =>
      have e : newF id n d = (zSt,4):=by unfold newF;rw [if_neg (by rw [h2];simp)]
      rw [e]
      clear e
      go_enter Try.func7,Try.ntmps7
      go_wp2_with (first|(go_at_call 14;refine(within.calls _ _ _ _).mono ?_;rintro e w' ⟨rfl,rfl⟩))
      refine bodyPost_ret (results_list (rs:=[.cell 6 29,.tmp 7]) rfl (by simp) (.cell w.heap.size 29 #[.int .i64 0,.int .i64 0,.int .i64 0,.int .i64 0,.int .i64 0,.slice none 0 0,.int .i64 0,.slice none 0 0,.slice none 0 0,.bool false,.slice none 0 0,.int .i64 0,.int .i64 0,.slice none 0 0] (0,0) _ rfl HK.out Try.underlying29 rfl (by kernel_rfl) (.tmp .nil))) rfl ?_
      exact⟨none,0,none,0,none,0,none,0,none,0,rfl,Rd.zero _,HB.out⟩
    | true =>
      by_cases h3 : (d.length : Int) > 4096
      · have d3 : decide (4096 < (d.length : Int)) = true:=decide_eq_true h3
        have d4 : decide (4096 < d.length) = true:=decide_eq_true (by omega)
        have e : newF id n d = (zSt,3):=by unfold newF;rw [if_pos ⟨h1,h2⟩,if_pos h3]
        rw [e]
        clear e
        go_enter Try.func7,Try.ntmps7
        go_wp2_with (first|(go_at_call 14;refine(within.calls _ _ _ _).mono ?_;rintro e w' ⟨rfl,rfl⟩))
        refine bodyPost_ret (results_list (rs:=[.cell 6 29,.tmp 7]) rfl (by simp) (.cell w.heap.size 29 #[.int .i64 0,.int .i64 0,.int .i64 0,.int .i64 0,.int .i64 0,.slice none 0 0,.int .i64 0,.slice none 0 0,.slice none 0 0,.bool false,.slice none 0 0,.int .i64 0,.int .i64 0,.slice none 0 0] (0,0) _ rfl HK.out Try.underlying29 rfl (by kernel_rfl) (.tmp .nil))) rfl ?_
        exact⟨none,0,none,0,none,0,none,0,none,0,rfl,Rd.zero _,HB.out⟩
      · have d3 : decide (4096 < (d.length : Int)) = false:=decide_eq_false h3
        have d4 : decide (4096 < d.length) = false:=decide_eq_false (by omega)
        have e : newF id n d = (newS id n d,0):=by unfold newF;rw [if_pos ⟨h1,h2⟩,if_neg h3]
        rw [e]
        have hid:=wi_iff.1 h2
        have HN:=Aside0.mk (And.intro hn hid)
        have HD:=Aside0.mk (show d.length * 8 < 140737488355328 by omega)
        have hn0 : n ≠ 0:=by omega
        clear e h3 hn hid
        go_enter Try.func7,Try.ntmps7
        cases hl : leadsV id n 0 0 with
        | true =>
          go_wp2_with (first|(go_at_call 14;refine(within.calls _ _ _ _).mono ?_;rintro e w' ⟨rfl,rfl⟩)|(go_at_call 15;refine(CloneI.calls A c d _ (Kd.C_below HC.out.1 HB.out) HD.out).mono ?_;rintro e w1 ⟨v,rfl,hr1,hb1⟩;obtain ⟨A1,c1,hv,hc1,hC1⟩:=Kd.R_reads hr1;subst hv;have R1:=Aside0.mk (Kd.R_mono (ok':=fun k=>w.heap.size < k∧k < w1.heap.size) (Kd.R_bound hr1) (fun k hk=>⟨by have h:=hk.2.1;simp at h;omega,hk.2.2.1⟩));have C1:=Aside0.mk (And.intro hC1 hc1);have FAR:=Aside0.mk (far_of hC1 (Nat.le_refl _));have C1K:=Aside0.mk (keep_of (b:=w1.heap.size) hC1 (Nat.le_refl _));replace HK:=Aside0.mk (blk_below HK.out hb1);replace HB:=Aside0.mk (HB.out.trans (hb1.mono HB.out.size));have G1:=Aside0.mk (blk_lt HK.out);clear hr1 hb1 hC1 hc1;have x0 : (w1.alloc (.cells #[.int .i64 id,.int .i64 n,.int .i64 0,.int .i64 0,.int .i64 0,.slice none 0 0,.int .i64 0,(.slice none 0 0),.slice none 0 0,.bool false,.slice none 0 0,.int .i64 0,.int .i64 0,.slice A1 d.length c1] 29)).cell? ⟨w1.heap.size,0,none⟩ = some (.int .i64 id):=(blk_cell (heap_alloc_new w1 (.cells #[.int .i64 id,.int .i64 n,.int .i64 0,.int .i64 0,.int .i64 0,.slice none 0 0,.int .i64 0,(.slice none 0 0),.slice none 0 0,.bool false,.slice none 0 0,.int .i64 0,.int .i64 0,.slice A1 d.length c1] 29)) 0).trans rfl;have x1 : (w1.alloc (.cells #[.int .i64 id,.int .i64 n,.int .i64 0,.int .i64 0,.int .i64 0,.slice none 0 0,.int .i64 0,(.slice none 0 0),.slice none 0 0,.bool false,.slice none 0 0,.int .i64 0,.int .i64 0,.slice A1 d.length c1] 29)).cell? ⟨w1.heap.size,1,none⟩ = some (.int .i64 n):=(blk_cell (heap_alloc_new w1 (.cells #[.int .i64 id,.int .i64 n,.int .i64 0,.int .i64 0,.int .i64 0,.slice none 0 0,.int .i64 0,(.slice none 0 0),.slice none 0 0,.bool false,.slice none 0 0,.int .i64 0,.int .i64 0,.slice A1 d.length c1] 29)) 1).trans rfl;have x2 : (w1.alloc (.cells #[.int .i64 id,.int .i64 n,.int .i64 0,.int .i64 0,.int .i64 0,.slice none 0 0,.int .i64 0,(.slice none 0 0),.slice none 0 0,.bool false,.slice none 0 0,.int .i64 0,.int .i64 0,.slice A1 d.length c1] 29)).cell? ⟨w1.heap.size,2,none⟩ = some (.int .i64 0):=(blk_cell (heap_alloc_new w1 (.cells #[.int .i64 id,.int .i64 n,.int .i64 0,.int .i64 0,.int .i64 0,.slice none 0 0,.int .i64 0,(.slice none 0 0),.slice none 0 0,.bool false,.slice none 0 0,.int .i64 0,.int .i64 0,.slice A1 d.length c1] 29)) 2).trans rfl;have x4 : (w1.alloc (.cells #[.int .i64 id,.int .i64 n,.int .i64 0,.int .i64 0,.int .i64 0,.slice none 0 0,.int .i64 0,(.slice none 0 0),.slice none 0 0,.bool false,.slice none 0 0,.int .i64 0,.int .i64 0,.slice A1 d.length c1] 29)).cell? ⟨w1.heap.size,4,none⟩ = some (.int .i64 0):=(blk_cell (heap_alloc_new w1 (.cells #[.int .i64 id,.int .i64 n,.int .i64 0,.int .i64 0,.int .i64 0,.slice none 0 0,.int .i64 0,(.slice none 0 0),.slice none 0 0,.bool false,.slice none 0 0,.int .i64 0,.int .i64 0,.slice A1 d.length c1] 29)) 4).trans rfl)|(go_at_call 16;refine(leads.calls w1.heap.size id n 0 0 hn0 _ x0 x1 x2 x4).mono ?_;rw [hl];rintro e w' ⟨rfl,⟨m,rfl⟩⟩;have K8:=Aside0.mk (blk_below (heap_alloc_new w1 (.cells #[.int .i64 id,.int .i64 n,.int .i64 0,.int .i64 0,.int .i64 0,.slice none 0 0,.int .i64 0,(.slice none 0 0),.slice none 0 0,.bool false,.slice none 0 0,.int .i64 0,.int .i64 0,.slice A1 d.length c1] 29)) (pw_below_drewN (Below.refl _ _) m));have B8:=Aside0.mk (Keeps.drewN (Keeps.alloc (Keeps.refl w1 (fun k=>k = w1.heap.size)) (.cells #[.int .i64 id,.int .i64 n,.int .i64 0,.int .i64 0,.int .i64 0,.slice none 0 0,.int .i64 0,(.slice none 0 0),.slice none 0 0,.bool false,.slice none 0 0,.int .i64 0,.int .i64 0,.slice A1 d.length c1] 29)) m);clear x0 x1 x2 x4)|(go_at_call 17;refine(lead.calls w1.heap.size 29 #[.int .i64 id,.int .i64 n,.int .i64 0,.int .i64 0,.int .i64 0,.slice none 0 0,.int .i64 0,(.slice none 0 0),.slice none 0 0,.bool false,.slice none 0 0,.int .i64 0,.int .i64 0,.slice A1 d.length c1] id n none 0 [] (.slice none 0 0) _ K8.out rfl rfl rfl rfl HN.out.1 (by have:=HN.out;omega)).mono ?_;rintro e w2 ⟨vM,rfl,hk,hrM,hkp⟩;obtain ⟨A7,c7,hv7,hc7,hC7⟩:=Kd.R_reads hrM;subst hv7;have RM:=Aside0.mk (Kd.R_mono (ok':=fun k=>w1.heap.size < k) (Kd.R_bound hrM) (fun k hk=>by have h:=hk.2.1;simp at h;omega));have CM:=Aside0.mk hc7;replace K8:=Aside0.mk (show w2.heap[w1.heap.size]? = some (.cells #[.int .i64 id,.int .i64 n,.int .i64 0,.int .i64 0,.int .i64 0,.slice none 0 0,.int .i64 0,(.slice A7 ((List.replicate n.toNat (0 : Int)).set id.toNat ([] : List (List Int)).length).length c7),.slice none 0 0,.bool false,.slice none 0 0,.int .i64 0,.int .i64 0,.slice A1 d.length c1] 29 (0,0)) from hk);replace B8:=Aside0.mk (B8.out.trans hkp);clear hk hrM hkp hC7 hc7)|(go_at_call 18;refine(draw.calls w1.heap.size 29 #[.int .i64 id,.int .i64 n,.int .i64 0,.int .i64 0,.int .i64 0,.slice none 0 0,.int .i64 0,(.slice A7 ((List.replicate n.toNat (0 : Int)).set id.toNat ([] : List (List Int)).length).length c7),.slice none 0 0,.bool false,.slice none 0 0,.int .i64 0,.int .i64 0,.slice A1 d.length c1] id A1 c1 d (.int .i64 0) _ K8.out rfl rfl rfl (by have:=HN.out;omega) (C1K.out _ B8.out) C1.out.2 FAR.out).mono ?_;rintro e w3 ⟨A2,c2,rfl,hk,hc2,hC2,hkp⟩;have CD:=Aside0.mk (And.intro hC2 hc2);have KP:=Aside0.mk hkp;obtain ⟨r,hr⟩ : ∃ r : St,r = newS id n d:=⟨_,rfl⟩;have HR:=Aside0.mk hr;have KR : Aside0 (w3.heap[w1.heap.size]? = some (.cells #[.int .i64 r.id,.int .i64 r.n,.int .i64 r.view,.int .i64 r.last,.int .i64 r.status,.slice none r.log.length 0,.int .i64 r.commit,.slice A7 r.mat.length c7,.slice none r.marks.length 0,.bool r.sent,.slice none r.bals.length 0,.int .i64 r.elapsed,.int .i64 r.timeout,.slice A2 r.draws.length c2] 29 (0,0))):=⟨by rw [hr];rw [show(newS id n d).mat = (List.replicate n.toNat (0 : Int)).set id.toNat ([] : List (List Int)).length from by unfold newS newM;rw [hl];rfl];exact hk⟩;replace B8:=Aside0.mk (B8.out.trans hkp);clear hk hc2 hC2 hkp hr;have y0 : w3.cell? ⟨w1.heap.size,0,none⟩ = some (.int .i64 r.id):=(blk_cell KR.out 0).trans rfl;have y1 : w3.cell? ⟨w1.heap.size,1,none⟩ = some (.int .i64 r.n):=(blk_cell KR.out 1).trans rfl;have y2 : w3.cell? ⟨w1.heap.size,2,none⟩ = some (.int .i64 r.view):=(blk_cell KR.out 2).trans rfl;have y3 : w3.cell? ⟨w1.heap.size,3,none⟩ = some (.int .i64 r.last):=(blk_cell KR.out 3).trans rfl;have y4 : w3.cell? ⟨w1.heap.size,4,none⟩ = some (.int .i64 r.status):=(blk_cell KR.out 4).trans rfl;have y5 : w3.cell? ⟨w1.heap.size,5,none⟩ = some (.slice none r.log.length 0):=(blk_cell KR.out 5).trans rfl;have y6 : w3.cell? ⟨w1.heap.size,6,none⟩ = some (.int .i64 r.commit):=(blk_cell KR.out 6).trans rfl;have y7 : w3.cell? ⟨w1.heap.size,7,none⟩ = some (.slice A7 r.mat.length c7):=(blk_cell KR.out 7).trans rfl;have y8 : w3.cell? ⟨w1.heap.size,8,none⟩ = some (.slice none r.marks.length 0):=(blk_cell KR.out 8).trans rfl;have y9 : w3.cell? ⟨w1.heap.size,9,none⟩ = some (.bool r.sent):=(blk_cell KR.out 9).trans rfl;have y10 : w3.cell? ⟨w1.heap.size,10,none⟩ = some (.slice none r.bals.length 0):=(blk_cell KR.out 10).trans rfl;have y11 : w3.cell? ⟨w1.heap.size,11,none⟩ = some (.int .i64 r.elapsed):=(blk_cell KR.out 11).trans rfl;have y12 : w3.cell? ⟨w1.heap.size,12,none⟩ = some (.int .i64 r.timeout):=(blk_cell KR.out 12).trans rfl;have y13 : w3.cell? ⟨w1.heap.size,13,none⟩ = some (.slice A2 r.draws.length c2):=(blk_cell KR.out 13).trans rfl;have KZ:=Aside0.mk (blk_keeps HK.out B8.out (fun e=>by have:=G1.out;omega)))|((with_reducible refine gate_ (.store 29 (.tmp 6) (.tmp 32)) rfl ?_);refine wpList_store_row rfl 29 (.tmp 6) (.tmp 32) rfl w.heap.size #[.int .i64 r.id,.int .i64 r.n,.int .i64 r.view,.int .i64 r.last,.int .i64 r.status,.slice none r.log.length 0,.int .i64 r.commit,.slice A7 r.mat.length c7,.slice none r.marks.length 0,.bool r.sent,.slice none r.bals.length 0,.int .i64 r.elapsed,.int .i64 r.timeout,.slice A2 r.draws.length c2] rfl rfl 29 #[.int .i64 0,.int .i64 0,.int .i64 0,.int .i64 0,.int .i64 0,.slice none 0 0,.int .i64 0,.slice none 0 0,.slice none 0 0,.bool false,.slice none 0 0,.int .i64 0,.int .i64 0,.slice none 0 0] KZ.out (by kernel_rfl) rfl (by kernel_rfl) ?_))
          refine bodyPost_ret (results_list (rs:=[.cell 6 29,.tmp 7]) rfl (by simp) (.cell w.heap.size 29 #[.int .i64 r.id,.int .i64 r.n,.int .i64 r.view,.int .i64 r.last,.int .i64 r.status,.slice none r.log.length 0,.int .i64 r.commit,.slice A7 r.mat.length c7,.slice none r.marks.length 0,.bool r.sent,.slice none r.bals.length 0,.int .i64 r.elapsed,.int .i64 r.timeout,.slice A2 r.draws.length c2] (0,0) _ rfl (setRow_heap _ _ _ _ _ _ KZ.out) Try.underlying29 rfl (by kernel_rfl) (.tmp .nil))) rfl ?_
          have hfb : Below w.heap.size w (w3.setRow w.heap.size #[.int .i64 r.id,.int .i64 r.n,.int .i64 r.view,.int .i64 r.last,.int .i64 r.status,.slice none r.log.length 0,.int .i64 r.commit,.slice A7 r.mat.length c7,.slice none r.marks.length 0,.bool r.sent,.slice none r.bals.length 0,.int .i64 r.elapsed,.int .i64 r.timeout,.slice A2 r.draws.length c2]):=below_row (Below.keeps HB.out B8.out HB.out.size (fun k hk=>by have:=G1.out;omega)) (Nat.le_refl _) _
          have hst : Keeps w3 (w3.setRow w.heap.size #[.int .i64 r.id,.int .i64 r.n,.int .i64 r.view,.int .i64 r.last,.int .i64 r.status,.slice none r.log.length 0,.int .i64 r.commit,.slice A7 r.mat.length c7,.slice none r.marks.length 0,.bool r.sent,.slice none r.bals.length 0,.int .i64 r.elapsed,.int .i64 r.timeout,.slice A2 r.draws.length c2]) (fun k=>k = w.heap.size):=⟨rfl,rfl,rfl,by simp,fun k _ hk=>setRow_other w3 w.heap.size k _ hk⟩
          obtain rfl:=HR.out
          have hm : (newS id n d).mat = (List.replicate n.toNat (0 : Int)).set id.toNat ([] : List (List Int)).length:=by unfold newS newM;rw [hl];rfl
          have rm:=Kd.R_reads' (Kd.R_keeps (Kd.R_keeps RM.out KP.out (fun k hk=>by omega)) hst (fun k hk=>by have:=G1.out;omega))
          have rd:=Kd.R_reads' (Kd.R_keeps (Kd.R_keeps R1.out B8.out (fun k hk=>by omega)) hst (fun k hk=>by omega))
          refine⟨none,0,A7,c7,none,0,none,0,A2,c2,rfl,⟨⟨Kd.C_nil _ _,Nat.le_refl _⟩,⟨?_,?_⟩,⟨Kd.C_nil _ _,Nat.le_refl _⟩,⟨Kd.C_nil _ _,Nat.le_refl _⟩,⟨CD.out.1 _ rd.2.2,CD.out.2⟩⟩,hfb⟩
          · show Kd.C (Kd.int .i64) _ A7 (newS id n d).mat.length (newS id n d).mat;exact(fun (l : List Int) (h : l = (List.replicate n.toNat (0 : Int)).set id.toNat ([] : List (List Int)).length)=>(by subst h;exact rm.2.2 : Kd.C (Kd.int .i64) _ A7 l.length l)) _ hm
          · show(newS id n d).mat.length ≤ c7;rw [hm];exact CM.out
        | false =>
          go_wp2_with (first|(go_at_call 14;refine(within.calls _ _ _ _).mono ?_;rintro e w' ⟨rfl,rfl⟩)|(go_at_call 15;refine(CloneI.calls A c d _ (Kd.C_below HC.out.1 HB.out) HD.out).mono ?_;rintro e w1 ⟨v,rfl,hr1,hb1⟩;obtain ⟨A1,c1,hv,hc1,hC1⟩:=Kd.R_reads hr1;subst hv;have R1:=Aside0.mk (Kd.R_mono (ok':=fun k=>w.heap.size < k∧k < w1.heap.size) (Kd.R_bound hr1) (fun k hk=>⟨by have h:=hk.2.1;simp at h;omega,hk.2.2.1⟩));have C1:=Aside0.mk (And.intro hC1 hc1);have FAR:=Aside0.mk (far_of hC1 (Nat.le_refl _));have C1K:=Aside0.mk (keep_of (b:=w1.heap.size) hC1 (Nat.le_refl _));replace HK:=Aside0.mk (blk_below HK.out hb1);replace HB:=Aside0.mk (HB.out.trans (hb1.mono HB.out.size));have G1:=Aside0.mk (blk_lt HK.out);clear hr1 hb1 hC1 hc1;have x0 : (w1.alloc (.cells #[.int .i64 id,.int .i64 n,.int .i64 0,.int .i64 0,.int .i64 0,.slice none 0 0,.int .i64 0,(.slice none 0 0),.slice none 0 0,.bool false,.slice none 0 0,.int .i64 0,.int .i64 0,.slice A1 d.length c1] 29)).cell? ⟨w1.heap.size,0,none⟩ = some (.int .i64 id):=(blk_cell (heap_alloc_new w1 (.cells #[.int .i64 id,.int .i64 n,.int .i64 0,.int .i64 0,.int .i64 0,.slice none 0 0,.int .i64 0,(.slice none 0 0),.slice none 0 0,.bool false,.slice none 0 0,.int .i64 0,.int .i64 0,.slice A1 d.length c1] 29)) 0).trans rfl;have x1 : (w1.alloc (.cells #[.int .i64 id,.int .i64 n,.int .i64 0,.int .i64 0,.int .i64 0,.slice none 0 0,.int .i64 0,(.slice none 0 0),.slice none 0 0,.bool false,.slice none 0 0,.int .i64 0,.int .i64 0,.slice A1 d.length c1] 29)).cell? ⟨w1.heap.size,1,none⟩ = some (.int .i64 n):=(blk_cell (heap_alloc_new w1 (.cells #[.int .i64 id,.int .i64 n,.int .i64 0,.int .i64 0,.int .i64 0,.slice none 0 0,.int .i64 0,(.slice none 0 0),.slice none 0 0,.bool false,.slice none 0 0,.int .i64 0,.int .i64 0,.slice A1 d.length c1] 29)) 1).trans rfl;have x2 : (w1.alloc (.cells #[.int .i64 id,.int .i64 n,.int .i64 0,.int .i64 0,.int .i64 0,.slice none 0 0,.int .i64 0,(.slice none 0 0),.slice none 0 0,.bool false,.slice none 0 0,.int .i64 0,.int .i64 0,.slice A1 d.length c1] 29)).cell? ⟨w1.heap.size,2,none⟩ = some (.int .i64 0):=(blk_cell (heap_alloc_new w1 (.cells #[.int .i64 id,.int .i64 n,.int .i64 0,.int .i64 0,.int .i64 0,.slice none 0 0,.int .i64 0,(.slice none 0 0),.slice none 0 0,.bool false,.slice none 0 0,.int .i64 0,.int .i64 0,.slice A1 d.length c1] 29)) 2).trans rfl;have x4 : (w1.alloc (.cells #[.int .i64 id,.int .i64 n,.int .i64 0,.int .i64 0,.int .i64 0,.slice none 0 0,.int .i64 0,(.slice none 0 0),.slice none 0 0,.bool false,.slice none 0 0,.int .i64 0,.int .i64 0,.slice A1 d.length c1] 29)).cell? ⟨w1.heap.size,4,none⟩ = some (.int .i64 0):=(blk_cell (heap_alloc_new w1 (.cells #[.int .i64 id,.int .i64 n,.int .i64 0,.int .i64 0,.int .i64 0,.slice none 0 0,.int .i64 0,(.slice none 0 0),.slice none 0 0,.bool false,.slice none 0 0,.int .i64 0,.int .i64 0,.slice A1 d.length c1] 29)) 4).trans rfl)|(go_at_call 16;refine(leads.calls w1.heap.size id n 0 0 hn0 _ x0 x1 x2 x4).mono ?_;rw [hl];rintro e w' ⟨rfl,⟨m,rfl⟩⟩;have K8:=Aside0.mk (blk_below (heap_alloc_new w1 (.cells #[.int .i64 id,.int .i64 n,.int .i64 0,.int .i64 0,.int .i64 0,.slice none 0 0,.int .i64 0,(.slice none 0 0),.slice none 0 0,.bool false,.slice none 0 0,.int .i64 0,.int .i64 0,.slice A1 d.length c1] 29)) (pw_below_drewN (Below.refl _ _) m));have B8:=Aside0.mk (Keeps.drewN (Keeps.alloc (Keeps.refl w1 (fun k=>k = w1.heap.size)) (.cells #[.int .i64 id,.int .i64 n,.int .i64 0,.int .i64 0,.int .i64 0,.slice none 0 0,.int .i64 0,(.slice none 0 0),.slice none 0 0,.bool false,.slice none 0 0,.int .i64 0,.int .i64 0,.slice A1 d.length c1] 29)) m);clear x0 x1 x2 x4)|(go_at_call 18;refine(draw.calls w1.heap.size 29 #[.int .i64 id,.int .i64 n,.int .i64 0,.int .i64 0,.int .i64 0,.slice none 0 0,.int .i64 0,(.slice none 0 0),.slice none 0 0,.bool false,.slice none 0 0,.int .i64 0,.int .i64 0,.slice A1 d.length c1] id A1 c1 d (.int .i64 0) _ K8.out rfl rfl rfl (by have:=HN.out;omega) (C1K.out _ B8.out) C1.out.2 FAR.out).mono ?_;rintro e w3 ⟨A2,c2,rfl,hk,hc2,hC2,hkp⟩;have CD:=Aside0.mk (And.intro hC2 hc2);have KP:=Aside0.mk hkp;obtain ⟨r,hr⟩ : ∃ r : St,r = newS id n d:=⟨_,rfl⟩;have HR:=Aside0.mk hr;have KR : Aside0 (w3.heap[w1.heap.size]? = some (.cells #[.int .i64 r.id,.int .i64 r.n,.int .i64 r.view,.int .i64 r.last,.int .i64 r.status,.slice none r.log.length 0,.int .i64 r.commit,.slice none r.mat.length 0,.slice none r.marks.length 0,.bool r.sent,.slice none r.bals.length 0,.int .i64 r.elapsed,.int .i64 r.timeout,.slice A2 r.draws.length c2] 29 (0,0))):=⟨by rw [hr];rw [show(newS id n d).mat = [] from by unfold newS newM;rw [hl];rfl];exact hk⟩;replace B8:=Aside0.mk (B8.out.trans hkp);clear hk hc2 hC2 hkp hr;have y0 : w3.cell? ⟨w1.heap.size,0,none⟩ = some (.int .i64 r.id):=(blk_cell KR.out 0).trans rfl;have y1 : w3.cell? ⟨w1.heap.size,1,none⟩ = some (.int .i64 r.n):=(blk_cell KR.out 1).trans rfl;have y2 : w3.cell? ⟨w1.heap.size,2,none⟩ = some (.int .i64 r.view):=(blk_cell KR.out 2).trans rfl;have y3 : w3.cell? ⟨w1.heap.size,3,none⟩ = some (.int .i64 r.last):=(blk_cell KR.out 3).trans rfl;have y4 : w3.cell? ⟨w1.heap.size,4,none⟩ = some (.int .i64 r.status):=(blk_cell KR.out 4).trans rfl;have y5 : w3.cell? ⟨w1.heap.size,5,none⟩ = some (.slice none r.log.length 0):=(blk_cell KR.out 5).trans rfl;have y6 : w3.cell? ⟨w1.heap.size,6,none⟩ = some (.int .i64 r.commit):=(blk_cell KR.out 6).trans rfl;have y7 : w3.cell? ⟨w1.heap.size,7,none⟩ = some (.slice none r.mat.length 0):=(blk_cell KR.out 7).trans rfl;have y8 : w3.cell? ⟨w1.heap.size,8,none⟩ = some (.slice none r.marks.length 0):=(blk_cell KR.out 8).trans rfl;have y9 : w3.cell? ⟨w1.heap.size,9,none⟩ = some (.bool r.sent):=(blk_cell KR.out 9).trans rfl;have y10 : w3.cell? ⟨w1.heap.size,10,none⟩ = some (.slice none r.bals.length 0):=(blk_cell KR.out 10).trans rfl;have y11 : w3.cell? ⟨w1.heap.size,11,none⟩ = some (.int .i64 r.elapsed):=(blk_cell KR.out 11).trans rfl;have y12 : w3.cell? ⟨w1.heap.size,12,none⟩ = some (.int .i64 r.timeout):=(blk_cell KR.out 12).trans rfl;have y13 : w3.cell? ⟨w1.heap.size,13,none⟩ = some (.slice A2 r.draws.length c2):=(blk_cell KR.out 13).trans rfl;have KZ:=Aside0.mk (blk_keeps HK.out B8.out (fun e=>by have:=G1.out;omega)))|((with_reducible refine gate_ (.store 29 (.tmp 6) (.tmp 32)) rfl ?_);refine wpList_store_row rfl 29 (.tmp 6) (.tmp 32) rfl w.heap.size #[.int .i64 r.id,.int .i64 r.n,.int .i64 r.view,.int .i64 r.last,.int .i64 r.status,.slice none r.log.length 0,.int .i64 r.commit,.slice none r.mat.length 0,.slice none r.marks.length 0,.bool r.sent,.slice none r.bals.length 0,.int .i64 r.elapsed,.int .i64 r.timeout,.slice A2 r.draws.length c2] rfl rfl 29 #[.int .i64 0,.int .i64 0,.int .i64 0,.int .i64 0,.int .i64 0,.slice none 0 0,.int .i64 0,.slice none 0 0,.slice none 0 0,.bool false,.slice none 0 0,.int .i64 0,.int .i64 0,.slice none 0 0] KZ.out (by kernel_rfl) rfl (by kernel_rfl) ?_))
          refine bodyPost_ret (results_list (rs:=[.cell 6 29,.tmp 7]) rfl (by simp) (.cell w.heap.size 29 #[.int .i64 r.id,.int .i64 r.n,.int .i64 r.view,.int .i64 r.last,.int .i64 r.status,.slice none r.log.length 0,.int .i64 r.commit,.slice none r.mat.length 0,.slice none r.marks.length 0,.bool r.sent,.slice none r.bals.length 0,.int .i64 r.elapsed,.int .i64 r.timeout,.slice A2 r.draws.length c2] (0,0) _ rfl (setRow_heap _ _ _ _ _ _ KZ.out) Try.underlying29 rfl (by kernel_rfl) (.tmp .nil))) rfl ?_
          have hfb : Below w.heap.size w (w3.setRow w.heap.size #[.int .i64 r.id,.int .i64 r.n,.int .i64 r.view,.int .i64 r.last,.int .i64 r.status,.slice none r.log.length 0,.int .i64 r.commit,.slice none r.mat.length 0,.slice none r.marks.length 0,.bool r.sent,.slice none r.bals.length 0,.int .i64 r.elapsed,.int .i64 r.timeout,.slice A2 r.draws.length c2]):=below_row (Below.keeps HB.out B8.out HB.out.size (fun k hk=>by have:=G1.out;omega)) (Nat.le_refl _) _
          have hst : Keeps w3 (w3.setRow w.heap.size #[.int .i64 r.id,.int .i64 r.n,.int .i64 r.view,.int .i64 r.last,.int .i64 r.status,.slice none r.log.length 0,.int .i64 r.commit,.slice none r.mat.length 0,.slice none r.marks.length 0,.bool r.sent,.slice none r.bals.length 0,.int .i64 r.elapsed,.int .i64 r.timeout,.slice A2 r.draws.length c2]) (fun k=>k = w.heap.size):=⟨rfl,rfl,rfl,by simp,fun k _ hk=>setRow_other w3 w.heap.size k _ hk⟩
          obtain rfl:=HR.out
          have hm : (newS id n d).mat = []:=by unfold newS newM;rw [hl];rfl
          have rd:=Kd.R_reads' (Kd.R_keeps (Kd.R_keeps R1.out B8.out (fun k hk=>by omega)) hst (fun k hk=>by omega))
          refine⟨none,0,none,0,none,0,none,0,A2,c2,rfl,⟨⟨Kd.C_nil _ _,Nat.le_refl _⟩,⟨?_,?_⟩,⟨Kd.C_nil _ _,Nat.le_refl _⟩,⟨Kd.C_nil _ _,Nat.le_refl _⟩,⟨CD.out.1 _ rd.2.2,CD.out.2⟩⟩,hfb⟩
          · show Kd.C (Kd.int .i64) _ none (newS id n d).mat.length (newS id n d).mat;rw [hm];exact Kd.C_nil _ _
          · show(newS id n d).mat.length ≤ 0;rw [hm];exact Nat.le_refl _
end Go.Proofs.Ytojjnifbnppliaa.T
end
section
namespace Go.Proofs.Ytojjnifbnppliaa.T
open Go.RowKit Go.Proofs.YtojjnifbnppliaaW.PrintWords Go.Proofs.YtojjnifbnppliaaW.PrintLast Go.Proofs.YtojjnifbnppliaaW.PrintMore
attribute [local go_sem] max2_int min2_int max_two min_two max_three min_three max_four min_four
set_option linter.unusedVariables false
set_option linter.unusedSimpArgs false
section
variable {w w1 : World} {b gd : Nat} {P : Nat→Prop} {s : St} {out : List Ms}
theorem Mac.gdlt (h : Mac w b gd P s out) : gd < w.heap.size:=h.1
theorem Mac.blt (h : Mac w b gd P s out) : b < w.heap.size:=by
  obtain ⟨_,AL,cL,AM,cM,AK,cK,AB,cB,AD,cD,AO,cO,hb,_⟩:=h
  exact blk_lt hb
theorem Mac.set_view (h : Mac w b gd P s out) (hg : gd ≠ b) (v : Int) : Mac (w.setCell ⟨b,2,none⟩ (.int .i64 v)) b gd P { s with view:=v } out:=by
  obtain ⟨hgl,AL,cL,AM,cM,AK,cK,AB,cB,AD,cD,AO,cO,hb,h1,h2,h3,h4,h5,h6,h7⟩:=h
  exact⟨by simpa using hgl,AL,cL,AM,cM,AK,cK,AB,cB,AD,cD,AO,cO,blk_put hb 2 (.int .i64 v) rfl,Kd.R_set h1 hb (by decide) 2 _,Kd.R_set h2 hb (by decide) 2 _,Kd.R_set h3 hb (by decide) 2 _,Kd.R_set h4 hb (by decide) 2 _,Kd.R_set h5 hb (by decide) 2 _,h6,Kd.F_step h7 (fun k hk _=>Below.heap_setCell w _ _ k (by have e : k = gd:=hk;subst e;exact hg))⟩
theorem Mac.set_last (h : Mac w b gd P s out) (hg : gd ≠ b) (v : Int) : Mac (w.setCell ⟨b,3,none⟩ (.int .i64 v)) b gd P { s with last:=v } out:=by
  obtain ⟨hgl,AL,cL,AM,cM,AK,cK,AB,cB,AD,cD,AO,cO,hb,h1,h2,h3,h4,h5,h6,h7⟩:=h
  exact⟨by simpa using hgl,AL,cL,AM,cM,AK,cK,AB,cB,AD,cD,AO,cO,blk_put hb 3 (.int .i64 v) rfl,Kd.R_set h1 hb (by decide) 3 _,Kd.R_set h2 hb (by decide) 3 _,Kd.R_set h3 hb (by decide) 3 _,Kd.R_set h4 hb (by decide) 3 _,Kd.R_set h5 hb (by decide) 3 _,h6,Kd.F_step h7 (fun k hk _=>Below.heap_setCell w _ _ k (by have e : k = gd:=hk;subst e;exact hg))⟩
theorem Mac.set_status (h : Mac w b gd P s out) (hg : gd ≠ b) (v : Int) : Mac (w.setCell ⟨b,4,none⟩ (.int .i64 v)) b gd P { s with status:=v } out:=by
  obtain ⟨hgl,AL,cL,AM,cM,AK,cK,AB,cB,AD,cD,AO,cO,hb,h1,h2,h3,h4,h5,h6,h7⟩:=h
  exact⟨by simpa using hgl,AL,cL,AM,cM,AK,cK,AB,cB,AD,cD,AO,cO,blk_put hb 4 (.int .i64 v) rfl,Kd.R_set h1 hb (by decide) 4 _,Kd.R_set h2 hb (by decide) 4 _,Kd.R_set h3 hb (by decide) 4 _,Kd.R_set h4 hb (by decide) 4 _,Kd.R_set h5 hb (by decide) 4 _,h6,Kd.F_step h7 (fun k hk _=>Below.heap_setCell w _ _ k (by have e : k = gd:=hk;subst e;exact hg))⟩
theorem Mac.set_commit (h : Mac w b gd P s out) (hg : gd ≠ b) (v : Int) : Mac (w.setCell ⟨b,6,none⟩ (.int .i64 v)) b gd P { s with commit:=v } out:=by
  obtain ⟨hgl,AL,cL,AM,cM,AK,cK,AB,cB,AD,cD,AO,cO,hb,h1,h2,h3,h4,h5,h6,h7⟩:=h
  exact⟨by simpa using hgl,AL,cL,AM,cM,AK,cK,AB,cB,AD,cD,AO,cO,blk_put hb 6 (.int .i64 v) rfl,Kd.R_set h1 hb (by decide) 6 _,Kd.R_set h2 hb (by decide) 6 _,Kd.R_set h3 hb (by decide) 6 _,Kd.R_set h4 hb (by decide) 6 _,Kd.R_set h5 hb (by decide) 6 _,h6,Kd.F_step h7 (fun k hk _=>Below.heap_setCell w _ _ k (by have e : k = gd:=hk;subst e;exact hg))⟩
theorem Mac.set_sent (h : Mac w b gd P s out) (hg : gd ≠ b) (v : Bool) : Mac (w.setCell ⟨b,9,none⟩ (.bool v)) b gd P { s with sent:=v } out:=by
  obtain ⟨hgl,AL,cL,AM,cM,AK,cK,AB,cB,AD,cD,AO,cO,hb,h1,h2,h3,h4,h5,h6,h7⟩:=h
  exact⟨by simpa using hgl,AL,cL,AM,cM,AK,cK,AB,cB,AD,cD,AO,cO,blk_put hb 9 (.bool v) rfl,Kd.R_set h1 hb (by decide) 9 _,Kd.R_set h2 hb (by decide) 9 _,Kd.R_set h3 hb (by decide) 9 _,Kd.R_set h4 hb (by decide) 9 _,Kd.R_set h5 hb (by decide) 9 _,h6,Kd.F_step h7 (fun k hk _=>Below.heap_setCell w _ _ k (by have e : k = gd:=hk;subst e;exact hg))⟩
theorem Mac.set_elapsed (h : Mac w b gd P s out) (hg : gd ≠ b) (v : Int) : Mac (w.setCell ⟨b,11,none⟩ (.int .i64 v)) b gd P { s with elapsed:=v } out:=by
  obtain ⟨hgl,AL,cL,AM,cM,AK,cK,AB,cB,AD,cD,AO,cO,hb,h1,h2,h3,h4,h5,h6,h7⟩:=h
  exact⟨by simpa using hgl,AL,cL,AM,cM,AK,cK,AB,cB,AD,cD,AO,cO,blk_put hb 11 (.int .i64 v) rfl,Kd.R_set h1 hb (by decide) 11 _,Kd.R_set h2 hb (by decide) 11 _,Kd.R_set h3 hb (by decide) 11 _,Kd.R_set h4 hb (by decide) 11 _,Kd.R_set h5 hb (by decide) 11 _,h6,Kd.F_step h7 (fun k hk _=>Below.heap_setCell w _ _ k (by have e : k = gd:=hk;subst e;exact hg))⟩
theorem Mac.set_log (h : Mac w b gd P s out) (hg : gd ≠ b) {A' : Option Addr} {c' : Nat} {l : List (List Int)} (hr : (Kd.slice 5 (Kd.int .u8)).R 22 w 0 P (.slice A' l.length c') l) : Mac (w.setCell ⟨b,5,none⟩ (.slice A' l.length c')) b gd P { s with log:=l } out:=by
  obtain ⟨hgl,AL,cL,AM,cM,AK,cK,AB,cB,AD,cD,AO,cO,hb,h1,h2,h3,h4,h5,h6,h7⟩:=h
  exact⟨by simpa using hgl,A',c',AM,cM,AK,cK,AB,cB,AD,cD,AO,cO,blk_put hb 5 (.slice A' l.length c') rfl,Kd.R_set hr hb (by decide) 5 _,Kd.R_set h2 hb (by decide) 5 _,Kd.R_set h3 hb (by decide) 5 _,Kd.R_set h4 hb (by decide) 5 _,Kd.R_set h5 hb (by decide) 5 _,h6,Kd.F_step h7 (fun k hk _=>Below.heap_setCell w _ _ k (by have e : k = gd:=hk;subst e;exact hg))⟩
theorem Mac.set_mat (h : Mac w b gd P s out) (hg : gd ≠ b) {A' : Option Addr} {c' : Nat} {l : List Int} (hr : (Kd.int .i64).R 3 w 0 P (.slice A' l.length c') l) : Mac (w.setCell ⟨b,7,none⟩ (.slice A' l.length c')) b gd P { s with mat:=l } out:=by
  obtain ⟨hgl,AL,cL,AM,cM,AK,cK,AB,cB,AD,cD,AO,cO,hb,h1,h2,h3,h4,h5,h6,h7⟩:=h
  exact⟨by simpa using hgl,AL,cL,A',c',AK,cK,AB,cB,AD,cD,AO,cO,blk_put hb 7 (.slice A' l.length c') rfl,Kd.R_set h1 hb (by decide) 7 _,Kd.R_set hr hb (by decide) 7 _,Kd.R_set h3 hb (by decide) 7 _,Kd.R_set h4 hb (by decide) 7 _,Kd.R_set h5 hb (by decide) 7 _,h6,Kd.F_step h7 (fun k hk _=>Below.heap_setCell w _ _ k (by have e : k = gd:=hk;subst e;exact hg))⟩
theorem Mac.set_marks (h : Mac w b gd P s out) (hg : gd ≠ b) {A' : Option Addr} {c' : Nat} {l : List Bool} (hr : Kd.bool.R 4 w 0 P (.slice A' l.length c') l) : Mac (w.setCell ⟨b,8,none⟩ (.slice A' l.length c')) b gd P { s with marks:=l } out:=by
  obtain ⟨hgl,AL,cL,AM,cM,AK,cK,AB,cB,AD,cD,AO,cO,hb,h1,h2,h3,h4,h5,h6,h7⟩:=h
  exact⟨by simpa using hgl,AL,cL,AM,cM,A',c',AB,cB,AD,cD,AO,cO,blk_put hb 8 (.slice A' l.length c') rfl,Kd.R_set h1 hb (by decide) 8 _,Kd.R_set h2 hb (by decide) 8 _,Kd.R_set hr hb (by decide) 8 _,Kd.R_set h4 hb (by decide) 8 _,Kd.R_set h5 hb (by decide) 8 _,h6,Kd.F_step h7 (fun k hk _=>Below.heap_setCell w _ _ k (by have e : k = gd:=hk;subst e;exact hg))⟩
theorem Mac.set_bals (h : Mac w b gd P s out) (hg : gd ≠ b) {A' : Option Addr} {c' : Nat} {l : List S69} (hr : k69.R 69 w 0 P (.slice A' l.length c') l) : Mac (w.setCell ⟨b,10,none⟩ (.slice A' l.length c')) b gd P { s with bals:=l } out:=by
  obtain ⟨hgl,AL,cL,AM,cM,AK,cK,AB,cB,AD,cD,AO,cO,hb,h1,h2,h3,h4,h5,h6,h7⟩:=h
  exact⟨by simpa using hgl,AL,cL,AM,cM,AK,cK,A',c',AD,cD,AO,cO,blk_put hb 10 (.slice A' l.length c') rfl,Kd.R_set h1 hb (by decide) 10 _,Kd.R_set h2 hb (by decide) 10 _,Kd.R_set h3 hb (by decide) 10 _,Kd.R_set hr hb (by decide) 10 _,Kd.R_set h5 hb (by decide) 10 _,h6,Kd.F_step h7 (fun k hk _=>Below.heap_setCell w _ _ k (by have e : k = gd:=hk;subst e;exact hg))⟩
theorem Keeps.fld {w : World} {b : Nat} {P : Nat→Prop} (i : Nat) (v : Value) : Keeps w (w.setCell ⟨b,i,none⟩ v) (fun k=>k = b∨P k):=(Keeps.refl w _).setCell (p:=⟨b,i,none⟩) (.inl (.inl rfl)) v
end
def drawS (s : St) : St:={ s with timeout:=drawV s.id s.draws,draws:=s.draws.tail }
set_option maxHeartbeats 1000000 in
theorem draw.mac (b gd : Nat) (P : Nat→Prop) (s : St) (out : List Ms) (w : World) (hM : Mac w b gd P s out) (hg : gd ≠ b) (hid : 0 ≤ s.id∧s.id < 9) :
    Calls Try.prog 18 #[.pointer (some ⟨b,0,none⟩)] w fun e w'=>e = .returned (.tuple #[])∧Keeps w w' (fun k=>k = b∨P k)∧(¬ P b→Mac w' b gd P (drawS s) out):=by
  obtain ⟨hgl,AL,cL,AM,cM,AK,cK,AB,cB,AD,cD,AO,cO,hb,h1,h2,h3,h4,h5,h6,h7⟩:=hM
  refine(draw.calls b _ _ s.id AD cD s.draws (.int .i64 s.timeout) w hb rfl rfl rfl hid (Kd.F_now h7) h6 (fun a ha hp=>by have e:=Kd.F_in h7 ha hp (by decide);have e2 : a.block = gd:=e;rw [e2];exact hg)).mono ?_
  rintro e w' ⟨A,c,rfl,hb',hc,hC,hk⟩
  refine⟨rfl,hk.mono (fun k hk=>.inl hk),fun hPb=>?_⟩
  have hne : ∀ k,P k→¬ k = b:=fun k hk e=>hPb (e ▸ hk)
  refine⟨Nat.lt_of_lt_of_le hgl hk.size,AL,cL,AM,cM,AK,cK,AB,cB,A,c,AO,cO,hb',Kd.R_keeps h1 hk hne,Kd.R_keeps h2 hk hne,Kd.R_keeps h3 hk hne,Kd.R_keeps h4 hk hne,Kd.R_keeps h5 hk hne,hc,?_⟩
  exact Kd.F_imp (Kd.F_step h7 (fun k hk2 hlt=>hk.block k hlt (fun e=>by have e2 : k = gd:=hk2;exact hg (e2 ▸ e)))) (fun W hW=>hC W hW)
def leadS (s : St) : St:={ s with mat:=(List.replicate s.n.toNat (0 : Int)).set s.id.toNat s.log.length }
set_option maxHeartbeats 1000000 in
theorem lead.mac (b gd : Nat) (P : Nat→Prop) (s : St) (out : List Ms) (w : World) (hM : Mac w b gd P s out) (hP : ∀ k,w.heap.size ≤ k→P k) (hg : gd ≠ b) (hPb : ¬ P b) (hn : 1 ≤ s.n∧s.n ≤ 9) (hid : 0 ≤ s.id∧s.id < s.n) :
    Calls Try.prog 17 #[.pointer (some ⟨b,0,none⟩)] w fun e w'=>e = .returned (.tuple #[])∧Keeps w w' (fun k=>k = b∨P k)∧Mac w' b gd P (leadS s) out:=by
  obtain ⟨hgl,AL,cL,AM,cM,AK,cK,AB,cB,AD,cD,AO,cO,hb,h1,h2,h3,h4,h5,h6,h7⟩:=hM
  refine(lead.calls b _ _ s.id s.n AL cL s.log (.slice AM s.mat.length cM) w hb rfl rfl rfl rfl hn hid).mono ?_
  rintro e w' ⟨vM,rfl,hb',hr,hk⟩
  obtain ⟨A,c,rfl⟩:=Kd.R_slice hr
  have hne : ∀ k,P k→¬ k = b:=fun k hk e=>hPb (e ▸ hk)
  refine⟨rfl,hk.mono (fun k hk=>.inl hk),Nat.lt_of_lt_of_le hgl hk.size,AL,cL,A,c,AK,cK,AB,cB,AD,cD,AO,cO,hb',Kd.R_keeps h1 hk hne,?_,Kd.R_keeps h3 hk hne,Kd.R_keeps h4 hk hne,Kd.R_keeps h5 hk hne,h6,Kd.F_step h7 (fun k hk2 hlt=>hk.block k hlt (fun e=>by have e2 : k = gd:=hk2;exact hg (e2 ▸ e)))⟩
  exact Kd.R_mono (Kd.R_lower (Kd.R_bound hr) (Nat.zero_le _)) (fun k hk=>hP k hk.2.1)
def agreeS (s : St) : St:={ s with commit:=agreeV s.n s.mat s.log.length s.commit }
set_option maxHeartbeats 1000000 in
theorem agree.mac (b gd : Nat) (P : Nat→Prop) (s : St) (out : List Ms) (w : World) (hM : Mac w b gd P s out) (hg : gd ≠ b) (hPb : ¬ P b) (hn : 1 ≤ s.n∧s.n ≤ 9) (hc : 0 ≤ s.commit∧s.commit ≤ s.log.length) (hL : s.log.length ≤ 1000000) :
    Calls Try.prog 55 #[.pointer (some ⟨b,0,none⟩)] w fun e w'=>e = .returned (.tuple #[])∧Keeps w w' (fun k=>k = b∨P k)∧Mac w' b gd P (agreeS s) out:=by
  obtain ⟨hgl,AL,cL,AM,cM,AK,cK,AB,cB,AD,cD,AO,cO,hb,h1,h2,h3,h4,h5,h6,h7⟩:=hM
  have hne : ∀ k,P k→¬ k = b:=fun k hk e=>hPb (e ▸ hk)
  refine(agree.calls b _ _ s.n s.commit AL cL s.log AM cM s.mat w hb rfl rfl rfl rfl hn hc hL (fun W hW=>(Kd.R_reads' (Kd.R_keeps h2 hW hne)).2.2)).mono ?_
  rintro e w' ⟨rfl,hb',hk⟩
  exact⟨rfl,hk.mono (fun k hk=>.inl hk),Nat.lt_of_lt_of_le hgl hk.size,AL,cL,AM,cM,AK,cK,AB,cB,AD,cD,AO,cO,hb',Kd.R_keeps h1 hk hne,Kd.R_keeps h2 hk hne,Kd.R_keeps h3 hk hne,Kd.R_keeps h4 hk hne,Kd.R_keeps h5 hk hne,h6,Kd.F_step h7 (fun k hk2 hlt=>hk.block k hlt (fun e=>by have e2 : k = gd:=hk2;exact hg (e2 ▸ e)))⟩
end Go.Proofs.Ytojjnifbnppliaa.T
end
