/- An answer that is heard. -/
import Derived.Test.YtojjnifbnppliaaVj
namespace Go.Proofs.Ytojjnifbnppliaa.T
open Go.RowKit Go.Proofs.YtojjnifbnppliaaW.PrintWords Go.Proofs.YtojjnifbnppliaaW.PrintLast Go.Proofs.YtojjnifbnppliaaW.PrintMore
attribute [local go_sem] max2_int min2_int max_two min_two max_three min_three max_four min_four
set_option linter.unusedVariables false
set_option linter.unusedSimpArgs false
/-- The message may be: what hear asks. -/
structure MsgOk (id n : Int) (x : Ms) : Prop where
  kind : wi x.kind 1 7 = true
  fro : wi x.fro 0 (n - 1) = true
  dst : (x.dst != id) = false
  own : (x.fro == id) = false
  view : wi x.view 0 1099511627776 = true
  len : x.log.length ≤ 512
  log : mayLogV x.log = true
  prev : wi x.prev 0 512 = true
  commit : wi x.commit 0 512 = true
  mat : wi x.mat 0 512 = true
/-- The method values, by kind. -/
def mths (p : Value) : Value := .agg #[.nilFunc, .func (.func 47) #[p] #[], .func (.func 48) #[p] #[], .func (.func 49) #[p] #[], .func (.func 50) #[p] #[], .func (.func 51) #[p] #[], .func (.func 52) #[p] #[], .func (.func 53) #[p] #[]]
set_option maxHeartbeats 8000000 in
set_option maxRecDepth 100000 in
theorem hear_go.calls (b : Nat) (cs : Array Value) (id n view : Int) (hf : Nat) (r : Option Int) (Rq Rm : World → Prop) (k : Int) (x : Ms) (AX : Option Addr) (cX : Nat) (A : Option Addr) (c : Nat) (data : List Int) (w : World) (hb : w.heap[b]? = some (.cells cs 61 (0, 0))) (e0 : cs[0]? = some (.int .i64 id)) (e1 : cs[1]? = some (.int .i64 n)) (e2 : cs[2]? = some (.int .i64 view)) (hn : 1 ≤ n ∧ n ≤ 9) (hx : MsgOk id n x) (hv : decide (x.view < view) = false) (hlog : Kd.C (Kd.slice 5 (Kd.int .u8)) w AX x.log.length x.log) (eg : ∀ args w, (callFunc hf args).run Try.prog w = .ok (.enter hf args) w)
    (ix : ∀ w, (Instr.index 87 (mths (.pointer (some ⟨b, 0, none⟩))) (.int .i64 x.kind)).run Try.prog w = .ok (.func (.func hf) #[.pointer (some ⟨b, 0, none⟩)] #[]) w)
    (H : ∀ w1, Below w.heap.size w w1 → Calls Try.prog hf #[.pointer (some ⟨b, 0, none⟩), .agg #[.int .i64 x.kind, .int .i64 x.fro, .int .i64 x.dst, .int .i64 x.view, .int .i64 x.last, .int .i64 x.prev, .slice AX x.log.length cX, .int .i64 x.commit, .int .i64 x.mat]] w1 fun e w' => Rq w' ∧ Ends r e (Rm w')) :
    Calls Try.prog 23 #[.pointer (some ⟨b, 0, none⟩), .agg #[.int .i64 k, .int .i64 x.kind, .int .i64 x.fro, .int .i64 x.dst, .int .i64 x.view, .int .i64 x.last, .int .i64 x.prev, .slice AX x.log.length cX, .int .i64 x.commit, .int .i64 x.mat, .slice A data.length c]] w fun e w' => Rq w' ∧ Ends r e (Rm w') := by
  have HH := Aside0.mk H
  clear H
  unfold mths at ix
  have hu39 := Try.underlying39
  have hu := Try.underlying37
  have hu61 := Try.underlying61
  have hu86 := Try.underlying86
  have hu87 := Try.underlying87
  have hu29 := Try.underlying29
  have HX := Aside0.mk hx
  have HLOG := Aside0.mk hlog
  clear hlog
  have c1 := hx.kind
  have c2 := hx.fro
  have c3 := hx.dst
  have c4 := hx.own
  have c5 := hx.view
  have c6 := hx.log
  have c7 : decide (512 < (x.log.length : Int)) = false := decide_eq_false (by have := hx.len; omega)
  have c8 : decide (512 < x.log.length) = false := decide_eq_false (by have := hx.len; omega)
  have hwn : wrap64 (n - 1) = n - 1 := by unfold wrap64; omega
  have hwn2 : IntKind.i64.wrap (n - 1) = n - 1 := (i64_w _).trans hwn
  have x0 : w.cell? ⟨b, 0, none⟩ = some (.int .i64 id) := (blk_cell hb 0).trans e0
  have x1 : w.cell? ⟨b, 1, none⟩ = some (.int .i64 n) := (blk_cell hb 1).trans e1
  have hlb : b < w.heap.size := blk_lt hb
  have hlb' : ¬ (b = w.heap.size) := by omega
  have KX := Aside0.mk (show ((w.alloc (.cells #[.int .i64 k, .int .i64 x.kind, .int .i64 x.fro, .int .i64 x.dst, .int .i64 x.view, .int .i64 x.last, .int .i64 x.prev, .slice AX x.log.length cX, .int .i64 x.commit, .int .i64 x.mat, .slice A data.length c] 39)).alloc (.cells #[.int .i64 x.kind, .int .i64 x.fro, .int .i64 x.dst, .int .i64 x.view, .int .i64 x.last, .int .i64 x.prev, .slice AX x.log.length cX, .int .i64 x.commit, .int .i64 x.mat] 37)).heap[w.heap.size + 1]? = some (.cells #[.int .i64 x.kind, .int .i64 x.fro, .int .i64 x.dst, .int .i64 x.view, .int .i64 x.last, .int .i64 x.prev, .slice AX x.log.length cX, .int .i64 x.commit, .int .i64 x.mat] 37 (0, 0)) from by have := heap_alloc_new (w.alloc (.cells #[.int .i64 k, .int .i64 x.kind, .int .i64 x.fro, .int .i64 x.dst, .int .i64 x.view, .int .i64 x.last, .int .i64 x.prev, .slice AX x.log.length cX, .int .i64 x.commit, .int .i64 x.mat, .slice A data.length c] 39)) (.cells #[.int .i64 x.kind, .int .i64 x.fro, .int .i64 x.dst, .int .i64 x.view, .int .i64 x.last, .int .i64 x.prev, .slice AX x.log.length cX, .int .i64 x.commit, .int .i64 x.mat] 37); simpa using this)
  have KB := Aside0.mk (blk_alloc (blk_alloc hb (.cells #[.int .i64 k, .int .i64 x.kind, .int .i64 x.fro, .int .i64 x.dst, .int .i64 x.view, .int .i64 x.last, .int .i64 x.prev, .slice AX x.log.length cX, .int .i64 x.commit, .int .i64 x.mat, .slice A data.length c] 39)) (.cells #[.int .i64 x.kind, .int .i64 x.fro, .int .i64 x.dst, .int .i64 x.view, .int .i64 x.last, .int .i64 x.prev, .slice AX x.log.length cX, .int .i64 x.commit, .int .i64 x.mat] 37))
  have E2 := Aside0.mk e2
  clear hx hb e0 e1 e2 hn
  go_enter Try.func23, Try.ntmps23
  go_wp2
  go_quiet (first | (go_at_call 14; refine (within.calls _ _ _ _).mono ?_; rintro e w' ⟨rfl, rfl⟩; (try first | exact ⟨rfl, _, rfl⟩)) | (go_at_call_of 44 (Value.bool false); refine (fail_ok.calls _ _ _).mono ?_; rintro e w' ⟨rfl, rfl⟩; (try first | exact ⟨rfl, _, rfl⟩)))
  go_wp2_with (first | (go_at_call_of 44 (Value.bool false); refine (fail_ok.calls _ _ _).mono ?_; rintro e w1 ⟨rfl, rfl⟩) | (go_at_call 34; refine (mayLog.calls AX cX x.log _ (by repeat (first | exact HLOG.out | (with_reducible refine Kd.C_drewN ?_ _) | (with_reducible refine Kd.C_drew ?_) | (with_reducible refine Kd.C_alloc ?_ _)))).mono ?_; rw [c6]; rintro e w1 ⟨rfl, hb1⟩; have KX1 := Aside0.mk (blk_below (by (with_reducible repeat (first | refine blk_drewN ?_ _ | refine blk_drew ?_)); exact KX.out) hb1); have KB1 := Aside0.mk (blk_below (by (with_reducible repeat (first | refine blk_drewN ?_ _ | refine blk_drew ?_)); exact KB.out) hb1); have HB1 := Aside0.mk hb1; clear hb1; have z0 : w1.cell? ⟨w.heap.size + 1, 0, none⟩ = some (.int .i64 x.kind) := (blk_cell KX1.out 0).trans rfl; have z1 : w1.cell? ⟨w.heap.size + 1, 1, none⟩ = some (.int .i64 x.fro) := (blk_cell KX1.out 1).trans rfl; have z2 : w1.cell? ⟨w.heap.size + 1, 2, none⟩ = some (.int .i64 x.dst) := (blk_cell KX1.out 2).trans rfl; have z3 : w1.cell? ⟨w.heap.size + 1, 3, none⟩ = some (.int .i64 x.view) := (blk_cell KX1.out 3).trans rfl; have z4 : w1.cell? ⟨w.heap.size + 1, 4, none⟩ = some (.int .i64 x.last) := (blk_cell KX1.out 4).trans rfl; have z5 : w1.cell? ⟨w.heap.size + 1, 5, none⟩ = some (.int .i64 x.prev) := (blk_cell KX1.out 5).trans rfl; have z6 : w1.cell? ⟨w.heap.size + 1, 6, none⟩ = some (.slice AX x.log.length cX) := (blk_cell KX1.out 6).trans rfl; have z7 : w1.cell? ⟨w.heap.size + 1, 7, none⟩ = some (.int .i64 x.commit) := (blk_cell KX1.out 7).trans rfl; have z8 : w1.cell? ⟨w.heap.size + 1, 8, none⟩ = some (.int .i64 x.mat) := (blk_cell KX1.out 8).trans rfl; have x2 : w1.cell? ⟨b, 2, none⟩ = some (.int .i64 view) := (blk_cell KB1.out 2).trans E2.out))
  have hix0 : ∀ (p q r : Int) (w : World), (Instr.index 86 (.agg #[.int .i64 p, .int .i64 q, .int .i64 r]) (.int .i64 0)).run Try.prog w = .ok (.int .i64 p) w := fun _ _ _ _ => by first | rfl | kernel_rfl
  have hix1 : ∀ (p q r : Int) (w : World), (Instr.index 86 (.agg #[.int .i64 p, .int .i64 q, .int .i64 r]) (.int .i64 1)).run Try.prog w = .ok (.int .i64 q) w := fun _ _ _ _ => by first | rfl | kernel_rfl
  have hix2 : ∀ (p q r : Int) (w : World), (Instr.index 86 (.agg #[.int .i64 p, .int .i64 q, .int .i64 r]) (.int .i64 2)).run Try.prog w = .ok (.int .i64 r) w := fun _ _ _ _ => by first | rfl | kernel_rfl
  have c9 := HX.out.prev
  have c10 := HX.out.commit
  have c11 := HX.out.mat
  go_loopg [6, 72] 4 (fun gg _ s72 wr => ∃ i : Int, s72 = .int .i64 i ∧ wr = w1 ∧ Aside0 (0 ≤ i ∧ i ≤ 3 ∧ 3 - i < gg))
  case atStart => exact ⟨0, rfl, rfl, ⟨by omega, by omega, by omega⟩⟩
  case round =>
    obtain ⟨i, rfl, rfl, Z⟩ := hrel
    obtain ⟨gg, rfl⟩ : ∃ m, gk = m + 1 := ⟨gk - 1, by have := Z.out; omega⟩
    have hi : i = 0 ∨ i = 1 ∨ i = 2 ∨ i = 3 := by have := Z.out; omega
    rcases hi with rfl | rfl | rfl | rfl
    · go_wp2_with (first | (go_at_call 14; refine (within.calls _ _ _ _).mono ?_; rw [c9]; rintro e w' ⟨rfl, rfl⟩) | (go_at_call_of 44 (Value.bool false); refine (fail_ok.calls _ _ _).mono ?_; rintro e w' ⟨rfl, rfl⟩))
      go_roundg gg
      case measure => omega
      case rel => exact ⟨1, rfl, rfl, ⟨by omega, by omega, by have := Z.out; omega⟩⟩
    · go_wp2_with (first | (go_at_call 14; refine (within.calls _ _ _ _).mono ?_; rw [c10]; rintro e w' ⟨rfl, rfl⟩) | (go_at_call_of 44 (Value.bool false); refine (fail_ok.calls _ _ _).mono ?_; rintro e w' ⟨rfl, rfl⟩))
      go_roundg gg
      case measure => omega
      case rel => exact ⟨2, rfl, rfl, ⟨by omega, by omega, by have := Z.out; omega⟩⟩
    · go_wp2_with (first | (go_at_call 14; refine (within.calls _ _ _ _).mono ?_; rw [c11]; rintro e w' ⟨rfl, rfl⟩) | (go_at_call_of 44 (Value.bool false); refine (fail_ok.calls _ _ _).mono ?_; rintro e w' ⟨rfl, rfl⟩))
      go_roundg gg
      case measure => omega
      case rel => exact ⟨3, rfl, rfl, ⟨by omega, by omega, by have := Z.out; omega⟩⟩
    · go_wp2
      go_quiet (fail)
      go_wp2
      have hmf : ∀ (fn : Fn) (first cap : Array Value) (w : World), (Instr.makeFunc fn first cap).run Try.prog w = .ok (.func fn first cap) w := fun _ _ _ _ => rfl
      have KX2 : (wr.drewN nq).heap[w.heap.size + 1]? = some (.cells #[.int .i64 x.kind, .int .i64 x.fro, .int .i64 x.dst, .int .i64 x.view, .int .i64 x.last, .int .i64 x.prev, .slice AX x.log.length cX, .int .i64 x.commit, .int .i64 x.mat] 37 (0, 0)) := KX1.out
      have hB0 := below_alloc (below_alloc (Below.refl w.heap.size w) (.cells #[.int .i64 k, .int .i64 x.kind, .int .i64 x.fro, .int .i64 x.dst, .int .i64 x.view, .int .i64 x.last, .int .i64 x.prev, .slice AX x.log.length cX, .int .i64 x.commit, .int .i64 x.mat, .slice A data.length c] 39)) (.cells #[.int .i64 x.kind, .int .i64 x.fro, .int .i64 x.dst, .int .i64 x.view, .int .i64 x.last, .int .i64 x.prev, .slice AX x.log.length cX, .int .i64 x.commit, .int .i64 x.mat] 37)
      have HB2 := Aside0.mk (pw_below_drewN ((pw_below_drewN hB0 _).trans (HB1.out.mono (pw_below_drewN hB0 _).size)) nq)
      clear hB0
      clear x2 z0 z1 z2 z3 z4 z5 z6 z7 z8 KX1 KB1 HB1 hix0 hix1 hix2
      generalize wr.drewN nq = W at *
      have z0 : W.cell? ⟨w.heap.size + 1, 0, none⟩ = some (.int .i64 x.kind) := (blk_cell KX2 0).trans rfl
      have z1 : W.cell? ⟨w.heap.size + 1, 1, none⟩ = some (.int .i64 x.fro) := (blk_cell KX2 1).trans rfl
      have z2 : W.cell? ⟨w.heap.size + 1, 2, none⟩ = some (.int .i64 x.dst) := (blk_cell KX2 2).trans rfl
      have z3 : W.cell? ⟨w.heap.size + 1, 3, none⟩ = some (.int .i64 x.view) := (blk_cell KX2 3).trans rfl
      have z4 : W.cell? ⟨w.heap.size + 1, 4, none⟩ = some (.int .i64 x.last) := (blk_cell KX2 4).trans rfl
      have z5 : W.cell? ⟨w.heap.size + 1, 5, none⟩ = some (.int .i64 x.prev) := (blk_cell KX2 5).trans rfl
      have z6 : W.cell? ⟨w.heap.size + 1, 6, none⟩ = some (.slice AX x.log.length cX) := (blk_cell KX2 6).trans rfl
      have z7 : W.cell? ⟨w.heap.size + 1, 7, none⟩ = some (.int .i64 x.commit) := (blk_cell KX2 7).trans rfl
      have z8 : W.cell? ⟨w.heap.size + 1, 8, none⟩ = some (.int .i64 x.mat) := (blk_cell KX2 8).trans rfl
      clear KX2
      go_still_tail 19, (by kernel_rfl)
      change wpList _ _ _ _ _ W.drew
      cases r with
      | none =>
        go_wp2_with (go_at_fn hf; refine (HH.out _ (below_drew HB2.out)).mono ?_; rintro e w' ⟨hq, rfl, hm⟩)
        go_end0
        exact ⟨hq, rfl, hm⟩
      | some ec =>
        go_wp2_with (go_at_fn hf; refine (HH.out _ (below_drew HB2.out)).mono ?_; rintro e w' ⟨hq, rfl⟩)
        exact ⟨rfl, hq, rfl⟩
set_option maxHeartbeats 8000000 in
set_option maxRecDepth 100000 in
theorem hear_old.calls (b : Nat) (cs : Array Value) (id n view : Int) (k : Int) (x : Ms) (AX : Option Addr) (cX : Nat) (A : Option Addr) (c : Nat) (data : List Int) (w : World) (hb : w.heap[b]? = some (.cells cs 61 (0, 0))) (e0 : cs[0]? = some (.int .i64 id)) (e1 : cs[1]? = some (.int .i64 n)) (e2 : cs[2]? = some (.int .i64 view)) (hn : 1 ≤ n ∧ n ≤ 9) (hx : MsgOk id n x) (hv : decide (x.view < view) = true) (hlog : Kd.C (Kd.slice 5 (Kd.int .u8)) w AX x.log.length x.log) :
    Calls Try.prog 23 #[.pointer (some ⟨b, 0, none⟩), .agg #[.int .i64 k, .int .i64 x.kind, .int .i64 x.fro, .int .i64 x.dst, .int .i64 x.view, .int .i64 x.last, .int .i64 x.prev, .slice AX x.log.length cX, .int .i64 x.commit, .int .i64 x.mat, .slice A data.length c]] w fun e w' => e = .returned (.tuple #[]) ∧ Below w.heap.size w w' := by
  have hu39 := Try.underlying39
  have hu := Try.underlying37
  have hu61 := Try.underlying61
  have hu86 := Try.underlying86
  have hu87 := Try.underlying87
  have hu29 := Try.underlying29
  have HX := Aside0.mk hx
  have HLOG := Aside0.mk hlog
  clear hlog
  have c1 := hx.kind
  have c2 := hx.fro
  have c3 := hx.dst
  have c4 := hx.own
  have c5 := hx.view
  have c6 := hx.log
  have c7 : decide (512 < (x.log.length : Int)) = false := decide_eq_false (by have := hx.len; omega)
  have c8 : decide (512 < x.log.length) = false := decide_eq_false (by have := hx.len; omega)
  have hwn : wrap64 (n - 1) = n - 1 := by unfold wrap64; omega
  have hwn2 : IntKind.i64.wrap (n - 1) = n - 1 := (i64_w _).trans hwn
  have x0 : w.cell? ⟨b, 0, none⟩ = some (.int .i64 id) := (blk_cell hb 0).trans e0
  have x1 : w.cell? ⟨b, 1, none⟩ = some (.int .i64 n) := (blk_cell hb 1).trans e1
  have hlb : b < w.heap.size := blk_lt hb
  have hlb' : ¬ (b = w.heap.size) := by omega
  have KX := Aside0.mk (show ((w.alloc (.cells #[.int .i64 k, .int .i64 x.kind, .int .i64 x.fro, .int .i64 x.dst, .int .i64 x.view, .int .i64 x.last, .int .i64 x.prev, .slice AX x.log.length cX, .int .i64 x.commit, .int .i64 x.mat, .slice A data.length c] 39)).alloc (.cells #[.int .i64 x.kind, .int .i64 x.fro, .int .i64 x.dst, .int .i64 x.view, .int .i64 x.last, .int .i64 x.prev, .slice AX x.log.length cX, .int .i64 x.commit, .int .i64 x.mat] 37)).heap[w.heap.size + 1]? = some (.cells #[.int .i64 x.kind, .int .i64 x.fro, .int .i64 x.dst, .int .i64 x.view, .int .i64 x.last, .int .i64 x.prev, .slice AX x.log.length cX, .int .i64 x.commit, .int .i64 x.mat] 37 (0, 0)) from by have := heap_alloc_new (w.alloc (.cells #[.int .i64 k, .int .i64 x.kind, .int .i64 x.fro, .int .i64 x.dst, .int .i64 x.view, .int .i64 x.last, .int .i64 x.prev, .slice AX x.log.length cX, .int .i64 x.commit, .int .i64 x.mat, .slice A data.length c] 39)) (.cells #[.int .i64 x.kind, .int .i64 x.fro, .int .i64 x.dst, .int .i64 x.view, .int .i64 x.last, .int .i64 x.prev, .slice AX x.log.length cX, .int .i64 x.commit, .int .i64 x.mat] 37); simpa using this)
  have KB := Aside0.mk (blk_alloc (blk_alloc hb (.cells #[.int .i64 k, .int .i64 x.kind, .int .i64 x.fro, .int .i64 x.dst, .int .i64 x.view, .int .i64 x.last, .int .i64 x.prev, .slice AX x.log.length cX, .int .i64 x.commit, .int .i64 x.mat, .slice A data.length c] 39)) (.cells #[.int .i64 x.kind, .int .i64 x.fro, .int .i64 x.dst, .int .i64 x.view, .int .i64 x.last, .int .i64 x.prev, .slice AX x.log.length cX, .int .i64 x.commit, .int .i64 x.mat] 37))
  have E2 := Aside0.mk e2
  clear hx hb e0 e1 e2 hn
  go_enter Try.func23, Try.ntmps23
  go_wp2
  go_quiet (first | (go_at_call 14; refine (within.calls _ _ _ _).mono ?_; rintro e w' ⟨rfl, rfl⟩; (try first | exact ⟨rfl, _, rfl⟩)) | (go_at_call_of 44 (Value.bool false); refine (fail_ok.calls _ _ _).mono ?_; rintro e w' ⟨rfl, rfl⟩; (try first | exact ⟨rfl, _, rfl⟩)))
  go_wp2_with (first | (go_at_call_of 44 (Value.bool false); refine (fail_ok.calls _ _ _).mono ?_; rintro e w1 ⟨rfl, rfl⟩) | (go_at_call 34; refine (mayLog.calls AX cX x.log _ (by repeat (first | exact HLOG.out | (with_reducible refine Kd.C_drewN ?_ _) | (with_reducible refine Kd.C_drew ?_) | (with_reducible refine Kd.C_alloc ?_ _)))).mono ?_; rw [c6]; rintro e w1 ⟨rfl, hb1⟩; have KX1 := Aside0.mk (blk_below (by (with_reducible repeat (first | refine blk_drewN ?_ _ | refine blk_drew ?_)); exact KX.out) hb1); have KB1 := Aside0.mk (blk_below (by (with_reducible repeat (first | refine blk_drewN ?_ _ | refine blk_drew ?_)); exact KB.out) hb1); have HB1 := Aside0.mk hb1; clear hb1; have z0 : w1.cell? ⟨w.heap.size + 1, 0, none⟩ = some (.int .i64 x.kind) := (blk_cell KX1.out 0).trans rfl; have z1 : w1.cell? ⟨w.heap.size + 1, 1, none⟩ = some (.int .i64 x.fro) := (blk_cell KX1.out 1).trans rfl; have z2 : w1.cell? ⟨w.heap.size + 1, 2, none⟩ = some (.int .i64 x.dst) := (blk_cell KX1.out 2).trans rfl; have z3 : w1.cell? ⟨w.heap.size + 1, 3, none⟩ = some (.int .i64 x.view) := (blk_cell KX1.out 3).trans rfl; have z4 : w1.cell? ⟨w.heap.size + 1, 4, none⟩ = some (.int .i64 x.last) := (blk_cell KX1.out 4).trans rfl; have z5 : w1.cell? ⟨w.heap.size + 1, 5, none⟩ = some (.int .i64 x.prev) := (blk_cell KX1.out 5).trans rfl; have z6 : w1.cell? ⟨w.heap.size + 1, 6, none⟩ = some (.slice AX x.log.length cX) := (blk_cell KX1.out 6).trans rfl; have z7 : w1.cell? ⟨w.heap.size + 1, 7, none⟩ = some (.int .i64 x.commit) := (blk_cell KX1.out 7).trans rfl; have z8 : w1.cell? ⟨w.heap.size + 1, 8, none⟩ = some (.int .i64 x.mat) := (blk_cell KX1.out 8).trans rfl; have x2 : w1.cell? ⟨b, 2, none⟩ = some (.int .i64 view) := (blk_cell KB1.out 2).trans E2.out))
  have hix0 : ∀ (p q r : Int) (w : World), (Instr.index 86 (.agg #[.int .i64 p, .int .i64 q, .int .i64 r]) (.int .i64 0)).run Try.prog w = .ok (.int .i64 p) w := fun _ _ _ _ => by first | rfl | kernel_rfl
  have hix1 : ∀ (p q r : Int) (w : World), (Instr.index 86 (.agg #[.int .i64 p, .int .i64 q, .int .i64 r]) (.int .i64 1)).run Try.prog w = .ok (.int .i64 q) w := fun _ _ _ _ => by first | rfl | kernel_rfl
  have hix2 : ∀ (p q r : Int) (w : World), (Instr.index 86 (.agg #[.int .i64 p, .int .i64 q, .int .i64 r]) (.int .i64 2)).run Try.prog w = .ok (.int .i64 r) w := fun _ _ _ _ => by first | rfl | kernel_rfl
  have c9 := HX.out.prev
  have c10 := HX.out.commit
  have c11 := HX.out.mat
  go_loopg [6, 72] 4 (fun gg _ s72 wr => ∃ i : Int, s72 = .int .i64 i ∧ wr = w1 ∧ Aside0 (0 ≤ i ∧ i ≤ 3 ∧ 3 - i < gg))
  case atStart => exact ⟨0, rfl, rfl, ⟨by omega, by omega, by omega⟩⟩
  case round =>
    obtain ⟨i, rfl, rfl, Z⟩ := hrel
    obtain ⟨gg, rfl⟩ : ∃ m, gk = m + 1 := ⟨gk - 1, by have := Z.out; omega⟩
    have hi : i = 0 ∨ i = 1 ∨ i = 2 ∨ i = 3 := by have := Z.out; omega
    rcases hi with rfl | rfl | rfl | rfl
    · go_wp2_with (first | (go_at_call 14; refine (within.calls _ _ _ _).mono ?_; rw [c9]; rintro e w' ⟨rfl, rfl⟩) | (go_at_call_of 44 (Value.bool false); refine (fail_ok.calls _ _ _).mono ?_; rintro e w' ⟨rfl, rfl⟩))
      go_roundg gg
      case measure => omega
      case rel => exact ⟨1, rfl, rfl, ⟨by omega, by omega, by have := Z.out; omega⟩⟩
    · go_wp2_with (first | (go_at_call 14; refine (within.calls _ _ _ _).mono ?_; rw [c10]; rintro e w' ⟨rfl, rfl⟩) | (go_at_call_of 44 (Value.bool false); refine (fail_ok.calls _ _ _).mono ?_; rintro e w' ⟨rfl, rfl⟩))
      go_roundg gg
      case measure => omega
      case rel => exact ⟨2, rfl, rfl, ⟨by omega, by omega, by have := Z.out; omega⟩⟩
    · go_wp2_with (first | (go_at_call 14; refine (within.calls _ _ _ _).mono ?_; rw [c11]; rintro e w' ⟨rfl, rfl⟩) | (go_at_call_of 44 (Value.bool false); refine (fail_ok.calls _ _ _).mono ?_; rintro e w' ⟨rfl, rfl⟩))
      go_roundg gg
      case measure => omega
      case rel => exact ⟨3, rfl, rfl, ⟨by omega, by omega, by have := Z.out; omega⟩⟩
    · go_wp2
      go_quiet (fail)
      go_wp2
      have hB0 := below_alloc (below_alloc (Below.refl w.heap.size w) (.cells #[.int .i64 k, .int .i64 x.kind, .int .i64 x.fro, .int .i64 x.dst, .int .i64 x.view, .int .i64 x.last, .int .i64 x.prev, .slice AX x.log.length cX, .int .i64 x.commit, .int .i64 x.mat, .slice A data.length c] 39)) (.cells #[.int .i64 x.kind, .int .i64 x.fro, .int .i64 x.dst, .int .i64 x.view, .int .i64 x.last, .int .i64 x.prev, .slice AX x.log.length cX, .int .i64 x.commit, .int .i64 x.mat] 37)
      (first | go_end0 | refine bodyPost_ret (results_none rfl _ _ _) rfl ?_)
      exact ⟨rfl, pw_below_drewN ((pw_below_drewN hB0 _).trans (HB1.out.mono (pw_below_drewN hB0 _).size)) nq⟩
end Go.Proofs.Ytojjnifbnppliaa.T
