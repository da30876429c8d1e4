/- hear's error ways. hear, whole; Step at a state that may be. Step's early ways. -/
import Derived.Test.YtojjnifbnppliaaQ08
import Derived.Test.YtojjnifbnppliaaQ09
section
namespace Go.Proofs.Ytojjnifbnppliaa.T
open Go.RowKit Go.Proofs.YtojjnifbnppliaaW.PrintWords Go.Proofs.YtojjnifbnppliaaW.PrintLast Go.Proofs.YtojjnifbnppliaaW.PrintMore
attribute [local go_sem] max2_int min2_int max_two min_two max_three min_three max_four min_four
set_option linter.unusedVariables false
set_option linter.unusedSimpArgs false
def hearE (id n : Int) (x : Ms) : Option Int:=if wi x.kind 1 7 = true∧wi x.fro 0 (n - 1) = true∧x.dst = id∧x.fro ≠ id∧wi x.view 0 1099511627776 = true then(if x.log.length ≤ 512 then(if mayLogV x.log = true then(if wi x.prev 0 512 = true∧wi x.commit 0 512 = true∧wi x.mat 0 512 = true then none else some 4) else some 5) else some 3) else some 1
theorem hearE_ok {id n : Int} {x : Ms} (h : hearE id n x = none) : MsgOk id n x:=by
  unfold hearE at h
  split at h
  · rename_i h1
    split at h
    · split at h
      · split at h
        · rename_i h2 h3 h4
          exact⟨h1.1,h1.2.1,by rw [h1.2.2.1];simp,beq_eq_false_iff_ne.mpr h1.2.2.2.1,h1.2.2.2.2,h2,h3,h4.1,h4.2.1,h4.2.2⟩
        · cases h
      · cases h
    · cases h
  · cases h
set_option maxHeartbeats 8000000 in
set_option maxRecDepth 100000 in
theorem hear_err.calls (b : Nat) (cs : Array Value) (id n : Int) (code : Int) (k : Int) (x : Ms) (AX : Option Addr) (cX : Nat) (A : Option Addr) (c : Nat) (data : List Int) (w : World) (hb : w.heap[b]? = some (.cells cs 61 (0,0))) (e0 : cs[0]? = some (.int .i64 id)) (e1 : cs[1]? = some (.int .i64 n)) (hn : 1 ≤ n∧n ≤ 9) (hE : hearE id n x = some code) (hlog : Kd.C (Kd.slice 5 (Kd.int .u8)) w AX x.log.length x.log) :
    Calls Try.prog 23 #[.pointer (some ⟨b,0,none⟩),.agg #[.int .i64 k,.int .i64 x.kind,.int .i64 x.fro,.int .i64 x.dst,.int .i64 x.view,.int .i64 x.last,.int .i64 x.prev,.slice AX x.log.length cX,.int .i64 x.commit,.int .i64 x.mat,.slice A data.length c]] w fun e w'=>Below w.heap.size w w'∧e = .panicked [{ v:=.iface 30 (.int .i64 code),recovered:=false }]:=by
  have hu39:=Try.underlying39
  have hu:=Try.underlying37
  have hu61:=Try.underlying61
  have hu86:=Try.underlying86
  have hu29:=Try.underlying29
  have HLOG:=Aside0.mk hlog
  have hwn : wrap64 (n - 1) = n - 1:=by unfold wrap64;omega
  have hwn2 : IntKind.i64.wrap (n - 1) = n - 1:=(i64_w _).trans hwn
  have x0 : w.cell? ⟨b,0,none⟩ = some (.int .i64 id):=(blk_cell hb 0).trans e0
  have x1 : w.cell? ⟨b,1,none⟩ = some (.int .i64 n):=(blk_cell hb 1).trans e1
  have hlb : b < w.heap.size:=blk_lt hb
  have hlb' : ¬ (b = w.heap.size):=by omega
  have kb0:=blk_alloc (blk_alloc hb (.cells #[.int .i64 k,.int .i64 x.kind,.int .i64 x.fro,.int .i64 x.dst,.int .i64 x.view,.int .i64 x.last,.int .i64 x.prev,.slice AX x.log.length cX,.int .i64 x.commit,.int .i64 x.mat,.slice A data.length c] 39)) (.cells #[.int .i64 x.kind,.int .i64 x.fro,.int .i64 x.dst,.int .i64 x.view,.int .i64 x.last,.int .i64 x.prev,.slice AX x.log.length cX,.int .i64 x.commit,.int .i64 x.mat] 37)
  have kx0 : ((w.alloc (.cells #[.int .i64 k,.int .i64 x.kind,.int .i64 x.fro,.int .i64 x.dst,.int .i64 x.view,.int .i64 x.last,.int .i64 x.prev,.slice AX x.log.length cX,.int .i64 x.commit,.int .i64 x.mat,.slice A data.length c] 39)).alloc (.cells #[.int .i64 x.kind,.int .i64 x.fro,.int .i64 x.dst,.int .i64 x.view,.int .i64 x.last,.int .i64 x.prev,.slice AX x.log.length cX,.int .i64 x.commit,.int .i64 x.mat] 37)).heap[w.heap.size + 1]? = some (.cells #[.int .i64 x.kind,.int .i64 x.fro,.int .i64 x.dst,.int .i64 x.view,.int .i64 x.last,.int .i64 x.prev,.slice AX x.log.length cX,.int .i64 x.commit,.int .i64 x.mat] 37 (0,0)):=by have:=heap_alloc_new (w.alloc (.cells #[.int .i64 k,.int .i64 x.kind,.int .i64 x.fro,.int .i64 x.dst,.int .i64 x.view,.int .i64 x.last,.int .i64 x.prev,.slice AX x.log.length cX,.int .i64 x.commit,.int .i64 x.mat,.slice A data.length c] 39)) (.cells #[.int .i64 x.kind,.int .i64 x.fro,.int .i64 x.dst,.int .i64 x.view,.int .i64 x.last,.int .i64 x.prev,.slice AX x.log.length cX,.int .i64 x.commit,.int .i64 x.mat] 37);simpa using this
  have KK:=Aside0.mk (And.intro kb0 (And.intro kx0 (And.intro e0 e1)))
  clear kb0 kx0
  have HBW:=Aside0.mk (show Below w.heap.size w ((w.alloc (.cells #[.int .i64 k,.int .i64 x.kind,.int .i64 x.fro,.int .i64 x.dst,.int .i64 x.view,.int .i64 x.last,.int .i64 x.prev,.slice AX x.log.length cX,.int .i64 x.commit,.int .i64 x.mat,.slice A data.length c] 39)).alloc (.cells #[.int .i64 x.kind,.int .i64 x.fro,.int .i64 x.dst,.int .i64 x.view,.int .i64 x.last,.int .i64 x.prev,.slice AX x.log.length cX,.int .i64 x.commit,.int .i64 x.mat] 37)) from below_alloc (below_alloc (Below.refl _ _) _) _)
  have HE:=Aside0.mk hE
  clear hb e0 e1 hn hlog hE
  cases c1 : wi x.kind 1 7 with
  | false =>
    have HN:=Aside0.mk (show ¬ (wi x.kind 1 7 = true∧wi x.fro 0 (n - 1) = true∧x.dst = id∧x.fro ≠ id∧wi x.view 0 1099511627776 = true) from fun h=>by rw [c1] at h;cases h.1)
    go_enter Try.func23,Try.ntmps23
    go_upto_region 2 with (fail)
    clear x0 x1
    generalize (w.alloc (.cells #[.int .i64 k,.int .i64 x.kind,.int .i64 x.fro,.int .i64 x.dst,.int .i64 x.view,.int .i64 x.last,.int .i64 x.prev,.slice AX x.log.length cX,.int .i64 x.commit,.int .i64 x.mat,.slice A data.length c] 39)).alloc (.cells #[.int .i64 x.kind,.int .i64 x.fro,.int .i64 x.dst,.int .i64 x.view,.int .i64 x.last,.int .i64 x.prev,.slice AX x.log.length cX,.int .i64 x.commit,.int .i64 x.mat] 37) = W at *
    have x0 : W.cell? ⟨b,0,none⟩ = some (.int .i64 id):=(blk_cell KK.out.1 0).trans KK.out.2.2.1
    have x1 : W.cell? ⟨b,1,none⟩ = some (.int .i64 n):=(blk_cell KK.out.1 1).trans KK.out.2.2.2
    have z0 : W.cell? ⟨w.heap.size + 1,0,none⟩ = some (.int .i64 x.kind):=(blk_cell KK.out.2.1 0).trans rfl
    have z1 : W.cell? ⟨w.heap.size + 1,1,none⟩ = some (.int .i64 x.fro):=(blk_cell KK.out.2.1 1).trans rfl
    have z2 : W.cell? ⟨w.heap.size + 1,2,none⟩ = some (.int .i64 x.dst):=(blk_cell KK.out.2.1 2).trans rfl
    have z3 : W.cell? ⟨w.heap.size + 1,3,none⟩ = some (.int .i64 x.view):=(blk_cell KK.out.2.1 3).trans rfl
    refine wp_region_still_tail 43 (by kernel_rfl) (by kernel_rfl) ?_
    simp only [List.take_succ_cons,List.take_zero,List.drop_succ_cons,List.drop_zero]
    refine still_hide (fun ops' Q' hO hQ=>?_)
    have HO:=Aside0.mk hO
    have HQQ:=Aside0.mk hQ
    clear hO hQ
    refine still_one (v:=.pointer (some ⟨b,0,none⟩)) rfl (by go_simp;try with_reducible rfl) ?_
    simp only [Act.put,List.setIfInBounds_toArray,List.set_cons_zero,List.set_cons_succ]
    refine still_one (v:=.pointer (some ⟨w.heap.size + 1,0,none⟩)) rfl (by go_simp;try with_reducible rfl) ?_
    simp only [Act.put,List.setIfInBounds_toArray,List.set_cons_zero,List.set_cons_succ]
    refine still_one (v:=.int .i64 (x.kind)) rfl (by go_simp;try with_reducible rfl) ?_
    simp only [Act.put,List.setIfInBounds_toArray,List.set_cons_zero,List.set_cons_succ]
    refine still_fn (v:=.bool false) (f:=14) (args:=#[.int .i64 (x.kind),.int .i64 (1),.int .i64 (7)]) rfl (by go_simp;try with_reducible rfl) (by have h:=within.calls x.kind 1 7 W.drew;rw [c1] at h;exact h) ?_
    simp only [Act.put,List.setIfInBounds_toArray,List.set_cons_zero,List.set_cons_succ]
    refine still_one (v:=.bool true) rfl (by go_simp;try with_reducible rfl) ?_
    simp only [Act.put,List.setIfInBounds_toArray,List.set_cons_zero,List.set_cons_succ]
    refine still_one (v:=.bool true) rfl (by go_simp;try with_reducible rfl) ?_
    simp only [Act.put,List.setIfInBounds_toArray,List.set_cons_zero,List.set_cons_succ]
    refine still_un (by rw [HO.out];rfl) ?_
    simp only [Act.put,List.setIfInBounds_toArray,List.set_cons_zero,List.set_cons_succ]
    refine still_un (by rw [HO.out];rfl) ?_
    simp only [Act.put,List.setIfInBounds_toArray,List.set_cons_zero,List.set_cons_succ]
    refine still_un (by rw [HO.out];rfl) ?_
    simp only [Act.put,List.setIfInBounds_toArray,List.set_cons_zero,List.set_cons_succ]
    refine still_un (by rw [HO.out];rfl) ?_
    simp only [Act.put,List.setIfInBounds_toArray,List.set_cons_zero,List.set_cons_succ]
    refine still_un (by rw [HO.out];rfl) ?_
    simp only [Act.put,List.setIfInBounds_toArray,List.set_cons_zero,List.set_cons_succ]
    refine still_un (by rw [HO.out];rfl) ?_
    simp only [Act.put,List.setIfInBounds_toArray,List.set_cons_zero,List.set_cons_succ]
    refine still_un (by rw [HO.out];rfl) ?_
    simp only [Act.put,List.setIfInBounds_toArray,List.set_cons_zero,List.set_cons_succ]
    refine still_un (by rw [HO.out];rfl) ?_
    simp only [Act.put,List.setIfInBounds_toArray,List.set_cons_zero,List.set_cons_succ]
    refine still_un (by rw [HO.out];rfl) ?_
    simp only [Act.put,List.setIfInBounds_toArray,List.set_cons_zero,List.set_cons_succ]
    refine still_un (by rw [HO.out];rfl) ?_
    simp only [Act.put,List.setIfInBounds_toArray,List.set_cons_zero,List.set_cons_succ]
    refine still_one (v:=.bool true) rfl (by go_simp;try with_reducible rfl) ?_
    simp only [Act.put,List.setIfInBounds_toArray,List.set_cons_zero,List.set_cons_succ]
    refine still_one (v:=.bool true) rfl (by go_simp;try with_reducible rfl) ?_
    simp only [Act.put,List.setIfInBounds_toArray,List.set_cons_zero,List.set_cons_succ]
    refine still_un (by rw [HO.out];rfl) ?_
    simp only [Act.put,List.setIfInBounds_toArray,List.set_cons_zero,List.set_cons_succ]
    refine still_un (by rw [HO.out];rfl) ?_
    simp only [Act.put,List.setIfInBounds_toArray,List.set_cons_zero,List.set_cons_succ]
    refine still_un (by rw [HO.out];rfl) ?_
    simp only [Act.put,List.setIfInBounds_toArray,List.set_cons_zero,List.set_cons_succ]
    refine still_un (by rw [HO.out];rfl) ?_
    simp only [Act.put,List.setIfInBounds_toArray,List.set_cons_zero,List.set_cons_succ]
    refine still_un (by rw [HO.out];rfl) ?_
    simp only [Act.put,List.setIfInBounds_toArray,List.set_cons_zero,List.set_cons_succ]
    refine still_un (by rw [HO.out];rfl) ?_
    simp only [Act.put,List.setIfInBounds_toArray,List.set_cons_zero,List.set_cons_succ]
    refine still_un (by rw [HO.out];rfl) ?_
    simp only [Act.put,List.setIfInBounds_toArray,List.set_cons_zero,List.set_cons_succ]
    refine still_un (by rw [HO.out];rfl) ?_
    simp only [Act.put,List.setIfInBounds_toArray,List.set_cons_zero,List.set_cons_succ]
    refine still_one (v:=.bool true) rfl (by go_simp;try with_reducible rfl) ?_
    simp only [Act.put,List.setIfInBounds_toArray,List.set_cons_zero,List.set_cons_succ]
    refine still_one (v:=.bool true) rfl (by go_simp;try with_reducible rfl) ?_
    simp only [Act.put,List.setIfInBounds_toArray,List.set_cons_zero,List.set_cons_succ]
    refine still_un (by rw [HO.out];rfl) ?_
    simp only [Act.put,List.setIfInBounds_toArray,List.set_cons_zero,List.set_cons_succ]
    refine still_un (by rw [HO.out];rfl) ?_
    simp only [Act.put,List.setIfInBounds_toArray,List.set_cons_zero,List.set_cons_succ]
    refine still_un (by rw [HO.out];rfl) ?_
    simp only [Act.put,List.setIfInBounds_toArray,List.set_cons_zero,List.set_cons_succ]
    refine still_un (by rw [HO.out];rfl) ?_
    simp only [Act.put,List.setIfInBounds_toArray,List.set_cons_zero,List.set_cons_succ]
    refine still_un (by rw [HO.out];rfl) ?_
    simp only [Act.put,List.setIfInBounds_toArray,List.set_cons_zero,List.set_cons_succ]
    refine still_un (by rw [HO.out];rfl) ?_
    simp only [Act.put,List.setIfInBounds_toArray,List.set_cons_zero,List.set_cons_succ]
    refine still_un (by rw [HO.out];rfl) ?_
    simp only [Act.put,List.setIfInBounds_toArray,List.set_cons_zero,List.set_cons_succ]
    refine still_un (by rw [HO.out];rfl) ?_
    simp only [Act.put,List.setIfInBounds_toArray,List.set_cons_zero,List.set_cons_succ]
    refine still_one (v:=.bool true) rfl (by go_simp;try with_reducible rfl) ?_
    simp only [Act.put,List.setIfInBounds_toArray,List.set_cons_zero,List.set_cons_succ]
    refine still_one (v:=.bool true) rfl (by go_simp;try with_reducible rfl) ?_
    simp only [Act.put,List.setIfInBounds_toArray,List.set_cons_zero,List.set_cons_succ]
    refine still_un (by rw [HO.out];rfl) ?_
    simp only [Act.put,List.setIfInBounds_toArray,List.set_cons_zero,List.set_cons_succ]
    refine still_un (by rw [HO.out];rfl) ?_
    simp only [Act.put,List.setIfInBounds_toArray,List.set_cons_zero,List.set_cons_succ]
    refine still_un (by rw [HO.out];rfl) ?_
    simp only [Act.put,List.setIfInBounds_toArray,List.set_cons_zero,List.set_cons_succ]
    refine still_un (by rw [HO.out];rfl) ?_
    simp only [Act.put,List.setIfInBounds_toArray,List.set_cons_zero,List.set_cons_succ]
    refine still_one (v:=.bool true) rfl (by go_simp;try with_reducible rfl) ?_
    simp only [Act.put,List.setIfInBounds_toArray,List.set_cons_zero,List.set_cons_succ]
    refine wpStill_nil (HQQ.out _ ?_)
    change wpList _ _ _ _ _ W.drew
    go_wp2_with ((go_at_call_of 44 (Value.bool true);refine(fail_bad.calls _ _ _).mono ?_;rintro e w' ⟨rfl,hw'⟩;have hw':=hw'.symm;subst hw'))
    have e : hearE id n x = some 1:=by unfold hearE;rw [if_neg (fun h=>HN.out h)]
    have e2 : code = 1:=by have:=HE.out;rw [e] at this;injection this with this;exact this.symm
    subst e2
    exact⟨rfl,below_drew HBW.out,rfl⟩
  | true =>
    cases c2 : wi x.fro 0 (n - 1) with
    | false =>
      have HN:=Aside0.mk (show ¬ (wi x.kind 1 7 = true∧wi x.fro 0 (n - 1) = true∧x.dst = id∧x.fro ≠ id∧wi x.view 0 1099511627776 = true) from fun h=>by rw [c2] at h;cases h.2.1)
      go_enter Try.func23,Try.ntmps23
      go_upto_region 2 with (fail)
      clear x0 x1
      generalize (w.alloc (.cells #[.int .i64 k,.int .i64 x.kind,.int .i64 x.fro,.int .i64 x.dst,.int .i64 x.view,.int .i64 x.last,.int .i64 x.prev,.slice AX x.log.length cX,.int .i64 x.commit,.int .i64 x.mat,.slice A data.length c] 39)).alloc (.cells #[.int .i64 x.kind,.int .i64 x.fro,.int .i64 x.dst,.int .i64 x.view,.int .i64 x.last,.int .i64 x.prev,.slice AX x.log.length cX,.int .i64 x.commit,.int .i64 x.mat] 37) = W at *
      have x0 : W.cell? ⟨b,0,none⟩ = some (.int .i64 id):=(blk_cell KK.out.1 0).trans KK.out.2.2.1
      have x1 : W.cell? ⟨b,1,none⟩ = some (.int .i64 n):=(blk_cell KK.out.1 1).trans KK.out.2.2.2
      have z0 : W.cell? ⟨w.heap.size + 1,0,none⟩ = some (.int .i64 x.kind):=(blk_cell KK.out.2.1 0).trans rfl
      have z1 : W.cell? ⟨w.heap.size + 1,1,none⟩ = some (.int .i64 x.fro):=(blk_cell KK.out.2.1 1).trans rfl
      have z2 : W.cell? ⟨w.heap.size + 1,2,none⟩ = some (.int .i64 x.dst):=(blk_cell KK.out.2.1 2).trans rfl
      have z3 : W.cell? ⟨w.heap.size + 1,3,none⟩ = some (.int .i64 x.view):=(blk_cell KK.out.2.1 3).trans rfl
      refine wp_region_still_tail 43 (by kernel_rfl) (by kernel_rfl) ?_
      simp only [List.take_succ_cons,List.take_zero,List.drop_succ_cons,List.drop_zero]
      refine still_hide (fun ops' Q' hO hQ=>?_)
      have HO:=Aside0.mk hO
      have HQQ:=Aside0.mk hQ
      clear hO hQ
      refine still_one (v:=.pointer (some ⟨b,0,none⟩)) rfl (by go_simp;try with_reducible rfl) ?_
      simp only [Act.put,List.setIfInBounds_toArray,List.set_cons_zero,List.set_cons_succ]
      refine still_one (v:=.pointer (some ⟨w.heap.size + 1,0,none⟩)) rfl (by go_simp;try with_reducible rfl) ?_
      simp only [Act.put,List.setIfInBounds_toArray,List.set_cons_zero,List.set_cons_succ]
      refine still_one (v:=.int .i64 (x.kind)) rfl (by go_simp;try with_reducible rfl) ?_
      simp only [Act.put,List.setIfInBounds_toArray,List.set_cons_zero,List.set_cons_succ]
      refine still_fn (v:=.bool true) (f:=14) (args:=#[.int .i64 (x.kind),.int .i64 (1),.int .i64 (7)]) rfl (by go_simp;try with_reducible rfl) (by have h:=within.calls x.kind 1 7 W.drew;rw [c1] at h;exact h) ?_
      simp only [Act.put,List.setIfInBounds_toArray,List.set_cons_zero,List.set_cons_succ]
      refine still_one (v:=.bool false) rfl (by go_simp;try with_reducible rfl) ?_
      simp only [Act.put,List.setIfInBounds_toArray,List.set_cons_zero,List.set_cons_succ]
      refine still_one (v:=.bool false) rfl (by go_simp;try with_reducible rfl) ?_
      simp only [Act.put,List.setIfInBounds_toArray,List.set_cons_zero,List.set_cons_succ]
      refine still_one (v:=.pointer (some ⟨w.heap.size + 1,1,none⟩)) (by rw [HO.out];rfl) (by go_simp;try with_reducible rfl) ?_
      simp only [Act.put,List.setIfInBounds_toArray,List.set_cons_zero,List.set_cons_succ]
      refine still_one (v:=.int .i64 (x.fro)) (by rw [HO.out];rfl) (by go_simp;try with_reducible rfl) ?_
      simp only [Act.put,List.setIfInBounds_toArray,List.set_cons_zero,List.set_cons_succ]
      refine still_one (v:=.pointer (some ⟨b,0,none⟩)) (by rw [HO.out];rfl) (by go_simp;try with_reducible rfl) ?_
      simp only [Act.put,List.setIfInBounds_toArray,List.set_cons_zero,List.set_cons_succ]
      refine still_one (v:=.pointer (some ⟨b,0,none⟩)) (by rw [HO.out];rfl) (by go_simp;try with_reducible rfl) ?_
      simp only [Act.put,List.setIfInBounds_toArray,List.set_cons_zero,List.set_cons_succ]
      refine still_one (v:=.pointer (some ⟨b,0,none⟩)) (by rw [HO.out];rfl) (by go_simp;try with_reducible rfl) ?_
      simp only [Act.put,List.setIfInBounds_toArray,List.set_cons_zero,List.set_cons_succ]
      refine still_one (v:=.pointer (some ⟨b,1,none⟩)) (by rw [HO.out];rfl) (by go_simp;try with_reducible rfl) ?_
      simp only [Act.put,List.setIfInBounds_toArray,List.set_cons_zero,List.set_cons_succ]
      refine still_one (v:=.int .i64 (n)) (by rw [HO.out];rfl) (by go_simp;try with_reducible rfl) ?_
      simp only [Act.put,List.setIfInBounds_toArray,List.set_cons_zero,List.set_cons_succ]
      refine still_one (v:=.int .i64 (n - 1)) (by rw [HO.out];rfl) (by go_simp;try with_reducible rfl) ?_
      simp only [Act.put,List.setIfInBounds_toArray,List.set_cons_zero,List.set_cons_succ]
      refine still_fn (v:=.bool false) (f:=14) (args:=#[.int .i64 (x.fro),.int .i64 (0),.int .i64 (n - 1)]) (by rw [HO.out];rfl) (by go_simp;try with_reducible rfl) (by have h:=within.calls x.fro 0 (n - 1) W.drew;rw [c2] at h;exact h) ?_
      simp only [Act.put,List.setIfInBounds_toArray,List.set_cons_zero,List.set_cons_succ]
      refine still_one (v:=.bool true) (by rw [HO.out];rfl) (by go_simp;try with_reducible rfl) ?_
      simp only [Act.put,List.setIfInBounds_toArray,List.set_cons_zero,List.set_cons_succ]
      refine still_one (v:=.bool true) rfl (by go_simp;try with_reducible rfl) ?_
      simp only [Act.put,List.setIfInBounds_toArray,List.set_cons_zero,List.set_cons_succ]
      refine still_one (v:=.bool true) rfl (by go_simp;try with_reducible rfl) ?_
      simp only [Act.put,List.setIfInBounds_toArray,List.set_cons_zero,List.set_cons_succ]
      refine still_un (by rw [HO.out];rfl) ?_
      simp only [Act.put,List.setIfInBounds_toArray,List.set_cons_zero,List.set_cons_succ]
      refine still_un (by rw [HO.out];rfl) ?_
      simp only [Act.put,List.setIfInBounds_toArray,List.set_cons_zero,List.set_cons_succ]
      refine still_un (by rw [HO.out];rfl) ?_
      simp only [Act.put,List.setIfInBounds_toArray,List.set_cons_zero,List.set_cons_succ]
      refine still_un (by rw [HO.out];rfl) ?_
      simp only [Act.put,List.setIfInBounds_toArray,List.set_cons_zero,List.set_cons_succ]
      refine still_un (by rw [HO.out];rfl) ?_
      simp only [Act.put,List.setIfInBounds_toArray,List.set_cons_zero,List.set_cons_succ]
      refine still_un (by rw [HO.out];rfl) ?_
      simp only [Act.put,List.setIfInBounds_toArray,List.set_cons_zero,List.set_cons_succ]
      refine still_un (by rw [HO.out];rfl) ?_
      simp only [Act.put,List.setIfInBounds_toArray,List.set_cons_zero,List.set_cons_succ]
      refine still_un (by rw [HO.out];rfl) ?_
      simp only [Act.put,List.setIfInBounds_toArray,List.set_cons_zero,List.set_cons_succ]
      refine still_one (v:=.bool true) rfl (by go_simp;try with_reducible rfl) ?_
      simp only [Act.put,List.setIfInBounds_toArray,List.set_cons_zero,List.set_cons_succ]
      refine still_one (v:=.bool true) rfl (by go_simp;try with_reducible rfl) ?_
      simp only [Act.put,List.setIfInBounds_toArray,List.set_cons_zero,List.set_cons_succ]
      refine still_un (by rw [HO.out];rfl) ?_
      simp only [Act.put,List.setIfInBounds_toArray,List.set_cons_zero,List.set_cons_succ]
      refine still_un (by rw [HO.out];rfl) ?_
      simp only [Act.put,List.setIfInBounds_toArray,List.set_cons_zero,List.set_cons_succ]
      refine still_un (by rw [HO.out];rfl) ?_
      simp only [Act.put,List.setIfInBounds_toArray,List.set_cons_zero,List.set_cons_succ]
      refine still_un (by rw [HO.out];rfl) ?_
      simp only [Act.put,List.setIfInBounds_toArray,List.set_cons_zero,List.set_cons_succ]
      refine still_un (by rw [HO.out];rfl) ?_
      simp only [Act.put,List.setIfInBounds_toArray,List.set_cons_zero,List.set_cons_succ]
      refine still_un (by rw [HO.out];rfl) ?_
      simp only [Act.put,List.setIfInBounds_toArray,List.set_cons_zero,List.set_cons_succ]
      refine still_un (by rw [HO.out];rfl) ?_
      simp only [Act.put,List.setIfInBounds_toArray,List.set_cons_zero,List.set_cons_succ]
      refine still_un (by rw [HO.out];rfl) ?_
      simp only [Act.put,List.setIfInBounds_toArray,List.set_cons_zero,List.set_cons_succ]
      refine still_one (v:=.bool true) rfl (by go_simp;try with_reducible rfl) ?_
      simp only [Act.put,List.setIfInBounds_toArray,List.set_cons_zero,List.set_cons_succ]
      refine still_one (v:=.bool true) rfl (by go_simp;try with_reducible rfl) ?_
      simp only [Act.put,List.setIfInBounds_toArray,List.set_cons_zero,List.set_cons_succ]
      refine still_un (by rw [HO.out];rfl) ?_
      simp only [Act.put,List.setIfInBounds_toArray,List.set_cons_zero,List.set_cons_succ]
      refine still_un (by rw [HO.out];rfl) ?_
      simp only [Act.put,List.setIfInBounds_toArray,List.set_cons_zero,List.set_cons_succ]
      refine still_un (by rw [HO.out];rfl) ?_
      simp only [Act.put,List.setIfInBounds_toArray,List.set_cons_zero,List.set_cons_succ]
      refine still_un (by rw [HO.out];rfl) ?_
      simp only [Act.put,List.setIfInBounds_toArray,List.set_cons_zero,List.set_cons_succ]
      refine still_one (v:=.bool true) rfl (by go_simp;try with_reducible rfl) ?_
      simp only [Act.put,List.setIfInBounds_toArray,List.set_cons_zero,List.set_cons_succ]
      refine wpStill_nil (HQQ.out _ ?_)
      change wpList _ _ _ _ _ W.drew
      go_wp2_with ((go_at_call_of 44 (Value.bool true);refine(fail_bad.calls _ _ _).mono ?_;rintro e w' ⟨rfl,hw'⟩;have hw':=hw'.symm;subst hw'))
      have e : hearE id n x = some 1:=by unfold hearE;rw [if_neg (fun h=>HN.out h)]
      have e2 : code = 1:=by have:=HE.out;rw [e] at this;injection this with this;exact this.symm
      subst e2
      exact⟨rfl,below_drew HBW.out,rfl⟩
    | true =>
      cases c3 : (x.dst != id) with
      | true =>
        have HN:=Aside0.mk (show ¬ (wi x.kind 1 7 = true∧wi x.fro 0 (n - 1) = true∧x.dst = id∧x.fro ≠ id∧wi x.view 0 1099511627776 = true) from fun h=>by rw [h.2.2.1] at c3;simp at c3)
        go_enter Try.func23,Try.ntmps23
        go_upto_region 2 with (fail)
        clear x0 x1
        generalize (w.alloc (.cells #[.int .i64 k,.int .i64 x.kind,.int .i64 x.fro,.int .i64 x.dst,.int .i64 x.view,.int .i64 x.last,.int .i64 x.prev,.slice AX x.log.length cX,.int .i64 x.commit,.int .i64 x.mat,.slice A data.length c] 39)).alloc (.cells #[.int .i64 x.kind,.int .i64 x.fro,.int .i64 x.dst,.int .i64 x.view,.int .i64 x.last,.int .i64 x.prev,.slice AX x.log.length cX,.int .i64 x.commit,.int .i64 x.mat] 37) = W at *
        have x0 : W.cell? ⟨b,0,none⟩ = some (.int .i64 id):=(blk_cell KK.out.1 0).trans KK.out.2.2.1
        have x1 : W.cell? ⟨b,1,none⟩ = some (.int .i64 n):=(blk_cell KK.out.1 1).trans KK.out.2.2.2
        have z0 : W.cell? ⟨w.heap.size + 1,0,none⟩ = some (.int .i64 x.kind):=(blk_cell KK.out.2.1 0).trans rfl
        have z1 : W.cell? ⟨w.heap.size + 1,1,none⟩ = some (.int .i64 x.fro):=(blk_cell KK.out.2.1 1).trans rfl
        have z2 : W.cell? ⟨w.heap.size + 1,2,none⟩ = some (.int .i64 x.dst):=(blk_cell KK.out.2.1 2).trans rfl
        have z3 : W.cell? ⟨w.heap.size + 1,3,none⟩ = some (.int .i64 x.view):=(blk_cell KK.out.2.1 3).trans rfl
        refine wp_region_still_tail 43 (by kernel_rfl) (by kernel_rfl) ?_
        simp only [List.take_succ_cons,List.take_zero,List.drop_succ_cons,List.drop_zero]
        refine still_hide (fun ops' Q' hO hQ=>?_)
        have HO:=Aside0.mk hO
        have HQQ:=Aside0.mk hQ
        clear hO hQ
        refine still_one (v:=.pointer (some ⟨b,0,none⟩)) rfl (by go_simp;try with_reducible rfl) ?_
        simp only [Act.put,List.setIfInBounds_toArray,List.set_cons_zero,List.set_cons_succ]
        refine still_one (v:=.pointer (some ⟨w.heap.size + 1,0,none⟩)) rfl (by go_simp;try with_reducible rfl) ?_
        simp only [Act.put,List.setIfInBounds_toArray,List.set_cons_zero,List.set_cons_succ]
        refine still_one (v:=.int .i64 (x.kind)) rfl (by go_simp;try with_reducible rfl) ?_
        simp only [Act.put,List.setIfInBounds_toArray,List.set_cons_zero,List.set_cons_succ]
        refine still_fn (v:=.bool true) (f:=14) (args:=#[.int .i64 (x.kind),.int .i64 (1),.int .i64 (7)]) rfl (by go_simp;try with_reducible rfl) (by have h:=within.calls x.kind 1 7 W.drew;rw [c1] at h;exact h) ?_
        simp only [Act.put,List.setIfInBounds_toArray,List.set_cons_zero,List.set_cons_succ]
        refine still_one (v:=.bool false) rfl (by go_simp;try with_reducible rfl) ?_
        simp only [Act.put,List.setIfInBounds_toArray,List.set_cons_zero,List.set_cons_succ]
        refine still_one (v:=.bool false) rfl (by go_simp;try with_reducible rfl) ?_
        simp only [Act.put,List.setIfInBounds_toArray,List.set_cons_zero,List.set_cons_succ]
        refine still_one (v:=.pointer (some ⟨w.heap.size + 1,1,none⟩)) (by rw [HO.out];rfl) (by go_simp;try with_reducible rfl) ?_
        simp only [Act.put,List.setIfInBounds_toArray,List.set_cons_zero,List.set_cons_succ]
        refine still_one (v:=.int .i64 (x.fro)) (by rw [HO.out];rfl) (by go_simp;try with_reducible rfl) ?_
        simp only [Act.put,List.setIfInBounds_toArray,List.set_cons_zero,List.set_cons_succ]
        refine still_one (v:=.pointer (some ⟨b,0,none⟩)) (by rw [HO.out];rfl) (by go_simp;try with_reducible rfl) ?_
        simp only [Act.put,List.setIfInBounds_toArray,List.set_cons_zero,List.set_cons_succ]
        refine still_one (v:=.pointer (some ⟨b,0,none⟩)) (by rw [HO.out];rfl) (by go_simp;try with_reducible rfl) ?_
        simp only [Act.put,List.setIfInBounds_toArray,List.set_cons_zero,List.set_cons_succ]
        refine still_one (v:=.pointer (some ⟨b,0,none⟩)) (by rw [HO.out];rfl) (by go_simp;try with_reducible rfl) ?_
        simp only [Act.put,List.setIfInBounds_toArray,List.set_cons_zero,List.set_cons_succ]
        refine still_one (v:=.pointer (some ⟨b,1,none⟩)) (by rw [HO.out];rfl) (by go_simp;try with_reducible rfl) ?_
        simp only [Act.put,List.setIfInBounds_toArray,List.set_cons_zero,List.set_cons_succ]
        refine still_one (v:=.int .i64 (n)) (by rw [HO.out];rfl) (by go_simp;try with_reducible rfl) ?_
        simp only [Act.put,List.setIfInBounds_toArray,List.set_cons_zero,List.set_cons_succ]
        refine still_one (v:=.int .i64 (n - 1)) (by rw [HO.out];rfl) (by go_simp;try with_reducible rfl) ?_
        simp only [Act.put,List.setIfInBounds_toArray,List.set_cons_zero,List.set_cons_succ]
        refine still_fn (v:=.bool true) (f:=14) (args:=#[.int .i64 (x.fro),.int .i64 (0),.int .i64 (n - 1)]) (by rw [HO.out];rfl) (by go_simp;try with_reducible rfl) (by have h:=within.calls x.fro 0 (n - 1) W.drew;rw [c2] at h;exact h) ?_
        simp only [Act.put,List.setIfInBounds_toArray,List.set_cons_zero,List.set_cons_succ]
        refine still_one (v:=.bool false) (by rw [HO.out];rfl) (by go_simp;try with_reducible rfl) ?_
        simp only [Act.put,List.setIfInBounds_toArray,List.set_cons_zero,List.set_cons_succ]
        refine still_one (v:=.bool false) rfl (by go_simp;try with_reducible rfl) ?_
        simp only [Act.put,List.setIfInBounds_toArray,List.set_cons_zero,List.set_cons_succ]
        refine still_one (v:=.bool false) rfl (by go_simp;try with_reducible rfl) ?_
        simp only [Act.put,List.setIfInBounds_toArray,List.set_cons_zero,List.set_cons_succ]
        refine still_one (v:=.pointer (some ⟨w.heap.size + 1,2,none⟩)) (by rw [HO.out];rfl) (by go_simp;try with_reducible rfl) ?_
        simp only [Act.put,List.setIfInBounds_toArray,List.set_cons_zero,List.set_cons_succ]
        refine still_one (v:=.int .i64 (x.dst)) (by rw [HO.out];rfl) (by go_simp;try with_reducible rfl) ?_
        simp only [Act.put,List.setIfInBounds_toArray,List.set_cons_zero,List.set_cons_succ]
        refine still_one (v:=.pointer (some ⟨b,0,none⟩)) (by rw [HO.out];rfl) (by go_simp;try with_reducible rfl) ?_
        simp only [Act.put,List.setIfInBounds_toArray,List.set_cons_zero,List.set_cons_succ]
        refine still_one (v:=.pointer (some ⟨b,0,none⟩)) (by rw [HO.out];rfl) (by go_simp;try with_reducible rfl) ?_
        simp only [Act.put,List.setIfInBounds_toArray,List.set_cons_zero,List.set_cons_succ]
        refine still_one (v:=.pointer (some ⟨b,0,none⟩)) (by rw [HO.out];rfl) (by go_simp;try with_reducible rfl) ?_
        simp only [Act.put,List.setIfInBounds_toArray,List.set_cons_zero,List.set_cons_succ]
        refine still_one (v:=.pointer (some ⟨b,0,none⟩)) (by rw [HO.out];rfl) (by go_simp;try with_reducible rfl) ?_
        simp only [Act.put,List.setIfInBounds_toArray,List.set_cons_zero,List.set_cons_succ]
        refine still_one (v:=.int .i64 (id)) (by rw [HO.out];rfl) (by go_simp;try with_reducible rfl) ?_
        simp only [Act.put,List.setIfInBounds_toArray,List.set_cons_zero,List.set_cons_succ]
        refine still_one (v:=.bool true) (by rw [HO.out];rfl) (by go_simp;try with_reducible rfl) ?_
        simp only [Act.put,List.setIfInBounds_toArray,List.set_cons_zero,List.set_cons_succ]
        refine still_one (v:=.bool true) rfl (by go_simp;try with_reducible rfl) ?_
        simp only [Act.put,List.setIfInBounds_toArray,List.set_cons_zero,List.set_cons_succ]
        refine still_one (v:=.bool true) rfl (by go_simp;try with_reducible rfl) ?_
        simp only [Act.put,List.setIfInBounds_toArray,List.set_cons_zero,List.set_cons_succ]
        refine still_un (by rw [HO.out];rfl) ?_
        simp only [Act.put,List.setIfInBounds_toArray,List.set_cons_zero,List.set_cons_succ]
        refine still_un (by rw [HO.out];rfl) ?_
        simp only [Act.put,List.setIfInBounds_toArray,List.set_cons_zero,List.set_cons_succ]
        refine still_un (by rw [HO.out];rfl) ?_
        simp only [Act.put,List.setIfInBounds_toArray,List.set_cons_zero,List.set_cons_succ]
        refine still_un (by rw [HO.out];rfl) ?_
        simp only [Act.put,List.setIfInBounds_toArray,List.set_cons_zero,List.set_cons_succ]
        refine still_un (by rw [HO.out];rfl) ?_
        simp only [Act.put,List.setIfInBounds_toArray,List.set_cons_zero,List.set_cons_succ]
        refine still_un (by rw [HO.out];rfl) ?_
        simp only [Act.put,List.setIfInBounds_toArray,List.set_cons_zero,List.set_cons_succ]
        refine still_un (by rw [HO.out];rfl) ?_
        simp only [Act.put,List.setIfInBounds_toArray,List.set_cons_zero,List.set_cons_succ]
        refine still_un (by rw [HO.out];rfl) ?_
        simp only [Act.put,List.setIfInBounds_toArray,List.set_cons_zero,List.set_cons_succ]
        refine still_one (v:=.bool true) rfl (by go_simp;try with_reducible rfl) ?_
        simp only [Act.put,List.setIfInBounds_toArray,List.set_cons_zero,List.set_cons_succ]
        refine still_one (v:=.bool true) rfl (by go_simp;try with_reducible rfl) ?_
        simp only [Act.put,List.setIfInBounds_toArray,List.set_cons_zero,List.set_cons_succ]
        refine still_un (by rw [HO.out];rfl) ?_
        simp only [Act.put,List.setIfInBounds_toArray,List.set_cons_zero,List.set_cons_succ]
        refine still_un (by rw [HO.out];rfl) ?_
        simp only [Act.put,List.setIfInBounds_toArray,List.set_cons_zero,List.set_cons_succ]
        refine still_un (by rw [HO.out];rfl) ?_
        simp only [Act.put,List.setIfInBounds_toArray,List.set_cons_zero,List.set_cons_succ]
        refine still_un (by rw [HO.out];rfl) ?_
        simp only [Act.put,List.setIfInBounds_toArray,List.set_cons_zero,List.set_cons_succ]
        refine still_one (v:=.bool true) rfl (by go_simp;try with_reducible rfl) ?_
        simp only [Act.put,List.setIfInBounds_toArray,List.set_cons_zero,List.set_cons_succ]
        refine wpStill_nil (HQQ.out _ ?_)
        change wpList _ _ _ _ _ W.drew
        go_wp2_with ((go_at_call_of 44 (Value.bool true);refine(fail_bad.calls _ _ _).mono ?_;rintro e w' ⟨rfl,hw'⟩;have hw':=hw'.symm;subst hw'))
        have e : hearE id n x = some 1:=by unfold hearE;rw [if_neg (fun h=>HN.out h)]
        have e2 : code = 1:=by have:=HE.out;rw [e] at this;injection this with this;exact this.symm
        subst e2
        exact⟨rfl,below_drew HBW.out,rfl⟩
      | false =>
        cases c4 : (x.fro == id) with
        | true =>
          have HN:=Aside0.mk (show ¬ (wi x.kind 1 7 = true∧wi x.fro 0 (n - 1) = true∧x.dst = id∧x.fro ≠ id∧wi x.view 0 1099511627776 = true) from fun h=>h.2.2.2.1 (beq_iff_eq.mp c4))
          go_enter Try.func23,Try.ntmps23
          go_upto_region 2 with (fail)
          clear x0 x1
          generalize (w.alloc (.cells #[.int .i64 k,.int .i64 x.kind,.int .i64 x.fro,.int .i64 x.dst,.int .i64 x.view,.int .i64 x.last,.int .i64 x.prev,.slice AX x.log.length cX,.int .i64 x.commit,.int .i64 x.mat,.slice A data.length c] 39)).alloc (.cells #[.int .i64 x.kind,.int .i64 x.fro,.int .i64 x.dst,.int .i64 x.view,.int .i64 x.last,.int .i64 x.prev,.slice AX x.log.length cX,.int .i64 x.commit,.int .i64 x.mat] 37) = W at *
          have x0 : W.cell? ⟨b,0,none⟩ = some (.int .i64 id):=(blk_cell KK.out.1 0).trans KK.out.2.2.1
          have x1 : W.cell? ⟨b,1,none⟩ = some (.int .i64 n):=(blk_cell KK.out.1 1).trans KK.out.2.2.2
          have z0 : W.cell? ⟨w.heap.size + 1,0,none⟩ = some (.int .i64 x.kind):=(blk_cell KK.out.2.1 0).trans rfl
          have z1 : W.cell? ⟨w.heap.size + 1,1,none⟩ = some (.int .i64 x.fro):=(blk_cell KK.out.2.1 1).trans rfl
          have z2 : W.cell? ⟨w.heap.size + 1,2,none⟩ = some (.int .i64 x.dst):=(blk_cell KK.out.2.1 2).trans rfl
          have z3 : W.cell? ⟨w.heap.size + 1,3,none⟩ = some (.int .i64 x.view):=(blk_cell KK.out.2.1 3).trans rfl
          refine wp_region_still_tail 43 (by kernel_rfl) (by kernel_rfl) ?_
          simp only [List.take_succ_cons,List.take_zero,List.drop_succ_cons,List.drop_zero]
          refine still_hide (fun ops' Q' hO hQ=>?_)
          have HO:=Aside0.mk hO
          have HQQ:=Aside0.mk hQ
          clear hO hQ
          refine still_one (v:=.pointer (some ⟨b,0,none⟩)) rfl (by go_simp;try with_reducible rfl) ?_
          simp only [Act.put,List.setIfInBounds_toArray,List.set_cons_zero,List.set_cons_succ]
          refine still_one (v:=.pointer (some ⟨w.heap.size + 1,0,none⟩)) rfl (by go_simp;try with_reducible rfl) ?_
          simp only [Act.put,List.setIfInBounds_toArray,List.set_cons_zero,List.set_cons_succ]
          refine still_one (v:=.int .i64 (x.kind)) rfl (by go_simp;try with_reducible rfl) ?_
          simp only [Act.put,List.setIfInBounds_toArray,List.set_cons_zero,List.set_cons_succ]
          refine still_fn (v:=.bool true) (f:=14) (args:=#[.int .i64 (x.kind),.int .i64 (1),.int .i64 (7)]) rfl (by go_simp;try with_reducible rfl) (by have h:=within.calls x.kind 1 7 W.drew;rw [c1] at h;exact h) ?_
          simp only [Act.put,List.setIfInBounds_toArray,List.set_cons_zero,List.set_cons_succ]
          refine still_one (v:=.bool false) rfl (by go_simp;try with_reducible rfl) ?_
          simp only [Act.put,List.setIfInBounds_toArray,List.set_cons_zero,List.set_cons_succ]
          refine still_one (v:=.bool false) rfl (by go_simp;try with_reducible rfl) ?_
          simp only [Act.put,List.setIfInBounds_toArray,List.set_cons_zero,List.set_cons_succ]
          refine still_one (v:=.pointer (some ⟨w.heap.size + 1,1,none⟩)) (by rw [HO.out];rfl) (by go_simp;try with_reducible rfl) ?_
          simp only [Act.put,List.setIfInBounds_toArray,List.set_cons_zero,List.set_cons_succ]
          refine still_one (v:=.int .i64 (x.fro)) (by rw [HO.out];rfl) (by go_simp;try with_reducible rfl) ?_
          simp only [Act.put,List.setIfInBounds_toArray,List.set_cons_zero,List.set_cons_succ]
          refine still_one (v:=.pointer (some ⟨b,0,none⟩)) (by rw [HO.out];rfl) (by go_simp;try with_reducible rfl) ?_
          simp only [Act.put,List.setIfInBounds_toArray,List.set_cons_zero,List.set_cons_succ]
          refine still_one (v:=.pointer (some ⟨b,0,none⟩)) (by rw [HO.out];rfl) (by go_simp;try with_reducible rfl) ?_
          simp only [Act.put,List.setIfInBounds_toArray,List.set_cons_zero,List.set_cons_succ]
          refine still_one (v:=.pointer (some ⟨b,0,none⟩)) (by rw [HO.out];rfl) (by go_simp;try with_reducible rfl) ?_
          simp only [Act.put,List.setIfInBounds_toArray,List.set_cons_zero,List.set_cons_succ]
          refine still_one (v:=.pointer (some ⟨b,1,none⟩)) (by rw [HO.out];rfl) (by go_simp;try with_reducible rfl) ?_
          simp only [Act.put,List.setIfInBounds_toArray,List.set_cons_zero,List.set_cons_succ]
          refine still_one (v:=.int .i64 (n)) (by rw [HO.out];rfl) (by go_simp;try with_reducible rfl) ?_
          simp only [Act.put,List.setIfInBounds_toArray,List.set_cons_zero,List.set_cons_succ]
          refine still_one (v:=.int .i64 (n - 1)) (by rw [HO.out];rfl) (by go_simp;try with_reducible rfl) ?_
          simp only [Act.put,List.setIfInBounds_toArray,List.set_cons_zero,List.set_cons_succ]
          refine still_fn (v:=.bool true) (f:=14) (args:=#[.int .i64 (x.fro),.int .i64 (0),.int .i64 (n - 1)]) (by rw [HO.out];rfl) (by go_simp;try with_reducible rfl) (by have h:=within.calls x.fro 0 (n - 1) W.drew;rw [c2] at h;exact h) ?_
          simp only [Act.put,List.setIfInBounds_toArray,List.set_cons_zero,List.set_cons_succ]
          refine still_one (v:=.bool false) (by rw [HO.out];rfl) (by go_simp;try with_reducible rfl) ?_
          simp only [Act.put,List.setIfInBounds_toArray,List.set_cons_zero,List.set_cons_succ]
          refine still_one (v:=.bool false) rfl (by go_simp;try with_reducible rfl) ?_
          simp only [Act.put,List.setIfInBounds_toArray,List.set_cons_zero,List.set_cons_succ]
          refine still_one (v:=.bool false) rfl (by go_simp;try with_reducible rfl) ?_
          simp only [Act.put,List.setIfInBounds_toArray,List.set_cons_zero,List.set_cons_succ]
          refine still_one (v:=.pointer (some ⟨w.heap.size + 1,2,none⟩)) (by rw [HO.out];rfl) (by go_simp;try with_reducible rfl) ?_
          simp only [Act.put,List.setIfInBounds_toArray,List.set_cons_zero,List.set_cons_succ]
          refine still_one (v:=.int .i64 (x.dst)) (by rw [HO.out];rfl) (by go_simp;try with_reducible rfl) ?_
          simp only [Act.put,List.setIfInBounds_toArray,List.set_cons_zero,List.set_cons_succ]
          refine still_one (v:=.pointer (some ⟨b,0,none⟩)) (by rw [HO.out];rfl) (by go_simp;try with_reducible rfl) ?_
          simp only [Act.put,List.setIfInBounds_toArray,List.set_cons_zero,List.set_cons_succ]
          refine still_one (v:=.pointer (some ⟨b,0,none⟩)) (by rw [HO.out];rfl) (by go_simp;try with_reducible rfl) ?_
          simp only [Act.put,List.setIfInBounds_toArray,List.set_cons_zero,List.set_cons_succ]
          refine still_one (v:=.pointer (some ⟨b,0,none⟩)) (by rw [HO.out];rfl) (by go_simp;try with_reducible rfl) ?_
          simp only [Act.put,List.setIfInBounds_toArray,List.set_cons_zero,List.set_cons_succ]
          refine still_one (v:=.pointer (some ⟨b,0,none⟩)) (by rw [HO.out];rfl) (by go_simp;try with_reducible rfl) ?_
          simp only [Act.put,List.setIfInBounds_toArray,List.set_cons_zero,List.set_cons_succ]
          refine still_one (v:=.int .i64 (id)) (by rw [HO.out];rfl) (by go_simp;try with_reducible rfl) ?_
          simp only [Act.put,List.setIfInBounds_toArray,List.set_cons_zero,List.set_cons_succ]
          refine still_one (v:=.bool false) (by rw [HO.out];rfl) (by go_simp;try with_reducible rfl) ?_
          simp only [Act.put,List.setIfInBounds_toArray,List.set_cons_zero,List.set_cons_succ]
          refine still_one (v:=.bool false) rfl (by go_simp;try with_reducible rfl) ?_
          simp only [Act.put,List.setIfInBounds_toArray,List.set_cons_zero,List.set_cons_succ]
          refine still_one (v:=.bool false) rfl (by go_simp;try with_reducible rfl) ?_
          simp only [Act.put,List.setIfInBounds_toArray,List.set_cons_zero,List.set_cons_succ]
          refine still_one (v:=.pointer (some ⟨w.heap.size + 1,1,none⟩)) (by rw [HO.out];rfl) (by go_simp;try with_reducible rfl) ?_
          simp only [Act.put,List.setIfInBounds_toArray,List.set_cons_zero,List.set_cons_succ]
          refine still_one (v:=.int .i64 (x.fro)) (by rw [HO.out];rfl) (by go_simp;try with_reducible rfl) ?_
          simp only [Act.put,List.setIfInBounds_toArray,List.set_cons_zero,List.set_cons_succ]
          refine still_one (v:=.pointer (some ⟨b,0,none⟩)) (by rw [HO.out];rfl) (by go_simp;try with_reducible rfl) ?_
          simp only [Act.put,List.setIfInBounds_toArray,List.set_cons_zero,List.set_cons_succ]
          refine still_one (v:=.pointer (some ⟨b,0,none⟩)) (by rw [HO.out];rfl) (by go_simp;try with_reducible rfl) ?_
          simp only [Act.put,List.setIfInBounds_toArray,List.set_cons_zero,List.set_cons_succ]
          refine still_one (v:=.pointer (some ⟨b,0,none⟩)) (by rw [HO.out];rfl) (by go_simp;try with_reducible rfl) ?_
          simp only [Act.put,List.setIfInBounds_toArray,List.set_cons_zero,List.set_cons_succ]
          refine still_one (v:=.pointer (some ⟨b,0,none⟩)) (by rw [HO.out];rfl) (by go_simp;try with_reducible rfl) ?_
          simp only [Act.put,List.setIfInBounds_toArray,List.set_cons_zero,List.set_cons_succ]
          refine still_one (v:=.int .i64 (id)) (by rw [HO.out];rfl) (by go_simp;try with_reducible rfl) ?_
          simp only [Act.put,List.setIfInBounds_toArray,List.set_cons_zero,List.set_cons_succ]
          refine still_one (v:=.bool true) (by rw [HO.out];rfl) (by go_simp;try with_reducible rfl) ?_
          simp only [Act.put,List.setIfInBounds_toArray,List.set_cons_zero,List.set_cons_succ]
          refine still_one (v:=.bool true) rfl (by go_simp;try with_reducible rfl) ?_
          simp only [Act.put,List.setIfInBounds_toArray,List.set_cons_zero,List.set_cons_succ]
          refine still_one (v:=.bool true) rfl (by go_simp;try with_reducible rfl) ?_
          simp only [Act.put,List.setIfInBounds_toArray,List.set_cons_zero,List.set_cons_succ]
          refine still_un (by rw [HO.out];rfl) ?_
          simp only [Act.put,List.setIfInBounds_toArray,List.set_cons_zero,List.set_cons_succ]
          refine still_un (by rw [HO.out];rfl) ?_
          simp only [Act.put,List.setIfInBounds_toArray,List.set_cons_zero,List.set_cons_succ]
          refine still_un (by rw [HO.out];rfl) ?_
          simp only [Act.put,List.setIfInBounds_toArray,List.set_cons_zero,List.set_cons_succ]
          refine still_un (by rw [HO.out];rfl) ?_
          simp only [Act.put,List.setIfInBounds_toArray,List.set_cons_zero,List.set_cons_succ]
          refine still_one (v:=.bool true) rfl (by go_simp;try with_reducible rfl) ?_
          simp only [Act.put,List.setIfInBounds_toArray,List.set_cons_zero,List.set_cons_succ]
          refine wpStill_nil (HQQ.out _ ?_)
          change wpList _ _ _ _ _ W.drew
          go_wp2_with ((go_at_call_of 44 (Value.bool true);refine(fail_bad.calls _ _ _).mono ?_;rintro e w' ⟨rfl,hw'⟩;have hw':=hw'.symm;subst hw'))
          have e : hearE id n x = some 1:=by unfold hearE;rw [if_neg (fun h=>HN.out h)]
          have e2 : code = 1:=by have:=HE.out;rw [e] at this;injection this with this;exact this.symm
          subst e2
          exact⟨rfl,below_drew HBW.out,rfl⟩
        | false =>
          cases c5 : wi x.view 0 1099511627776 with
          | false =>
            have HN:=Aside0.mk (show ¬ (wi x.kind 1 7 = true∧wi x.fro 0 (n - 1) = true∧x.dst = id∧x.fro ≠ id∧wi x.view 0 1099511627776 = true) from fun h=>by rw [c5] at h;cases h.2.2.2.2)
            go_enter Try.func23,Try.ntmps23
            go_upto_region 2 with (fail)
            clear x0 x1
            generalize (w.alloc (.cells #[.int .i64 k,.int .i64 x.kind,.int .i64 x.fro,.int .i64 x.dst,.int .i64 x.view,.int .i64 x.last,.int .i64 x.prev,.slice AX x.log.length cX,.int .i64 x.commit,.int .i64 x.mat,.slice A data.length c] 39)).alloc (.cells #[.int .i64 x.kind,.int .i64 x.fro,.int .i64 x.dst,.int .i64 x.view,.int .i64 x.last,.int .i64 x.prev,.slice AX x.log.length cX,.int .i64 x.commit,.int .i64 x.mat] 37) = W at *
            have x0 : W.cell? ⟨b,0,none⟩ = some (.int .i64 id):=(blk_cell KK.out.1 0).trans KK.out.2.2.1
            have x1 : W.cell? ⟨b,1,none⟩ = some (.int .i64 n):=(blk_cell KK.out.1 1).trans KK.out.2.2.2
            have z0 : W.cell? ⟨w.heap.size + 1,0,none⟩ = some (.int .i64 x.kind):=(blk_cell KK.out.2.1 0).trans rfl
            have z1 : W.cell? ⟨w.heap.size + 1,1,none⟩ = some (.int .i64 x.fro):=(blk_cell KK.out.2.1 1).trans rfl
            have z2 : W.cell? ⟨w.heap.size + 1,2,none⟩ = some (.int .i64 x.dst):=(blk_cell KK.out.2.1 2).trans rfl
            have z3 : W.cell? ⟨w.heap.size + 1,3,none⟩ = some (.int .i64 x.view):=(blk_cell KK.out.2.1 3).trans rfl
            refine wp_region_still_tail 43 (by kernel_rfl) (by kernel_rfl) ?_
            simp only [List.take_succ_cons,List.take_zero,List.drop_succ_cons,List.drop_zero]
            refine still_hide (fun ops' Q' hO hQ=>?_)
            have HO:=Aside0.mk hO
            have HQQ:=Aside0.mk hQ
            clear hO hQ
            refine still_one (v:=.pointer (some ⟨b,0,none⟩)) rfl (by go_simp;try with_reducible rfl) ?_
            simp only [Act.put,List.setIfInBounds_toArray,List.set_cons_zero,List.set_cons_succ]
            refine still_one (v:=.pointer (some ⟨w.heap.size + 1,0,none⟩)) rfl (by go_simp;try with_reducible rfl) ?_
            simp only [Act.put,List.setIfInBounds_toArray,List.set_cons_zero,List.set_cons_succ]
            refine still_one (v:=.int .i64 (x.kind)) rfl (by go_simp;try with_reducible rfl) ?_
            simp only [Act.put,List.setIfInBounds_toArray,List.set_cons_zero,List.set_cons_succ]
            refine still_fn (v:=.bool true) (f:=14) (args:=#[.int .i64 (x.kind),.int .i64 (1),.int .i64 (7)]) rfl (by go_simp;try with_reducible rfl) (by have h:=within.calls x.kind 1 7 W.drew;rw [c1] at h;exact h) ?_
            simp only [Act.put,List.setIfInBounds_toArray,List.set_cons_zero,List.set_cons_succ]
            refine still_one (v:=.bool false) rfl (by go_simp;try with_reducible rfl) ?_
            simp only [Act.put,List.setIfInBounds_toArray,List.set_cons_zero,List.set_cons_succ]
            refine still_one (v:=.bool false) rfl (by go_simp;try with_reducible rfl) ?_
            simp only [Act.put,List.setIfInBounds_toArray,List.set_cons_zero,List.set_cons_succ]
            refine still_one (v:=.pointer (some ⟨w.heap.size + 1,1,none⟩)) (by rw [HO.out];rfl) (by go_simp;try with_reducible rfl) ?_
            simp only [Act.put,List.setIfInBounds_toArray,List.set_cons_zero,List.set_cons_succ]
            refine still_one (v:=.int .i64 (x.fro)) (by rw [HO.out];rfl) (by go_simp;try with_reducible rfl) ?_
            simp only [Act.put,List.setIfInBounds_toArray,List.set_cons_zero,List.set_cons_succ]
            refine still_one (v:=.pointer (some ⟨b,0,none⟩)) (by rw [HO.out];rfl) (by go_simp;try with_reducible rfl) ?_
            simp only [Act.put,List.setIfInBounds_toArray,List.set_cons_zero,List.set_cons_succ]
            refine still_one (v:=.pointer (some ⟨b,0,none⟩)) (by rw [HO.out];rfl) (by go_simp;try with_reducible rfl) ?_
            simp only [Act.put,List.setIfInBounds_toArray,List.set_cons_zero,List.set_cons_succ]
            refine still_one (v:=.pointer (some ⟨b,0,none⟩)) (by rw [HO.out];rfl) (by go_simp;try with_reducible rfl) ?_
            simp only [Act.put,List.setIfInBounds_toArray,List.set_cons_zero,List.set_cons_succ]
            refine still_one (v:=.pointer (some ⟨b,1,none⟩)) (by rw [HO.out];rfl) (by go_simp;try with_reducible rfl) ?_
            simp only [Act.put,List.setIfInBounds_toArray,List.set_cons_zero,List.set_cons_succ]
            refine still_one (v:=.int .i64 (n)) (by rw [HO.out];rfl) (by go_simp;try with_reducible rfl) ?_
            simp only [Act.put,List.setIfInBounds_toArray,List.set_cons_zero,List.set_cons_succ]
            refine still_one (v:=.int .i64 (n - 1)) (by rw [HO.out];rfl) (by go_simp;try with_reducible rfl) ?_
            simp only [Act.put,List.setIfInBounds_toArray,List.set_cons_zero,List.set_cons_succ]
            refine still_fn (v:=.bool true) (f:=14) (args:=#[.int .i64 (x.fro),.int .i64 (0),.int .i64 (n - 1)]) (by rw [HO.out];rfl) (by go_simp;try with_reducible rfl) (by have h:=within.calls x.fro 0 (n - 1) W.drew;rw [c2] at h;exact h) ?_
            simp only [Act.put,List.setIfInBounds_toArray,List.set_cons_zero,List.set_cons_succ]
            refine still_one (v:=.bool false) (by rw [HO.out];rfl) (by go_simp;try with_reducible rfl) ?_
            simp only [Act.put,List.setIfInBounds_toArray,List.set_cons_zero,List.set_cons_succ]
            refine still_one (v:=.bool false) rfl (by go_simp;try with_reducible rfl) ?_
            simp only [Act.put,List.setIfInBounds_toArray,List.set_cons_zero,List.set_cons_succ]
            refine still_one (v:=.bool false) rfl (by go_simp;try with_reducible rfl) ?_
            simp only [Act.put,List.setIfInBounds_toArray,List.set_cons_zero,List.set_cons_succ]
            refine still_one (v:=.pointer (some ⟨w.heap.size + 1,2,none⟩)) (by rw [HO.out];rfl) (by go_simp;try with_reducible rfl) ?_
            simp only [Act.put,List.setIfInBounds_toArray,List.set_cons_zero,List.set_cons_succ]
            refine still_one (v:=.int .i64 (x.dst)) (by rw [HO.out];rfl) (by go_simp;try with_reducible rfl) ?_
            simp only [Act.put,List.setIfInBounds_toArray,List.set_cons_zero,List.set_cons_succ]
            refine still_one (v:=.pointer (some ⟨b,0,none⟩)) (by rw [HO.out];rfl) (by go_simp;try with_reducible rfl) ?_
            simp only [Act.put,List.setIfInBounds_toArray,List.set_cons_zero,List.set_cons_succ]
            refine still_one (v:=.pointer (some ⟨b,0,none⟩)) (by rw [HO.out];rfl) (by go_simp;try with_reducible rfl) ?_
            simp only [Act.put,List.setIfInBounds_toArray,List.set_cons_zero,List.set_cons_succ]
            refine still_one (v:=.pointer (some ⟨b,0,none⟩)) (by rw [HO.out];rfl) (by go_simp;try with_reducible rfl) ?_
            simp only [Act.put,List.setIfInBounds_toArray,List.set_cons_zero,List.set_cons_succ]
            refine still_one (v:=.pointer (some ⟨b,0,none⟩)) (by rw [HO.out];rfl) (by go_simp;try with_reducible rfl) ?_
            simp only [Act.put,List.setIfInBounds_toArray,List.set_cons_zero,List.set_cons_succ]
            refine still_one (v:=.int .i64 (id)) (by rw [HO.out];rfl) (by go_simp;try with_reducible rfl) ?_
            simp only [Act.put,List.setIfInBounds_toArray,List.set_cons_zero,List.set_cons_succ]
            refine still_one (v:=.bool false) (by rw [HO.out];rfl) (by go_simp;try with_reducible rfl) ?_
            simp only [Act.put,List.setIfInBounds_toArray,List.set_cons_zero,List.set_cons_succ]
            refine still_one (v:=.bool false) rfl (by go_simp;try with_reducible rfl) ?_
            simp only [Act.put,List.setIfInBounds_toArray,List.set_cons_zero,List.set_cons_succ]
            refine still_one (v:=.bool false) rfl (by go_simp;try with_reducible rfl) ?_
            simp only [Act.put,List.setIfInBounds_toArray,List.set_cons_zero,List.set_cons_succ]
            refine still_one (v:=.pointer (some ⟨w.heap.size + 1,1,none⟩)) (by rw [HO.out];rfl) (by go_simp;try with_reducible rfl) ?_
            simp only [Act.put,List.setIfInBounds_toArray,List.set_cons_zero,List.set_cons_succ]
            refine still_one (v:=.int .i64 (x.fro)) (by rw [HO.out];rfl) (by go_simp;try with_reducible rfl) ?_
            simp only [Act.put,List.setIfInBounds_toArray,List.set_cons_zero,List.set_cons_succ]
            refine still_one (v:=.pointer (some ⟨b,0,none⟩)) (by rw [HO.out];rfl) (by go_simp;try with_reducible rfl) ?_
            simp only [Act.put,List.setIfInBounds_toArray,List.set_cons_zero,List.set_cons_succ]
            refine still_one (v:=.pointer (some ⟨b,0,none⟩)) (by rw [HO.out];rfl) (by go_simp;try with_reducible rfl) ?_
            simp only [Act.put,List.setIfInBounds_toArray,List.set_cons_zero,List.set_cons_succ]
            refine still_one (v:=.pointer (some ⟨b,0,none⟩)) (by rw [HO.out];rfl) (by go_simp;try with_reducible rfl) ?_
            simp only [Act.put,List.setIfInBounds_toArray,List.set_cons_zero,List.set_cons_succ]
            refine still_one (v:=.pointer (some ⟨b,0,none⟩)) (by rw [HO.out];rfl) (by go_simp;try with_reducible rfl) ?_
            simp only [Act.put,List.setIfInBounds_toArray,List.set_cons_zero,List.set_cons_succ]
            refine still_one (v:=.int .i64 (id)) (by rw [HO.out];rfl) (by go_simp;try with_reducible rfl) ?_
            simp only [Act.put,List.setIfInBounds_toArray,List.set_cons_zero,List.set_cons_succ]
            refine still_one (v:=.bool false) (by rw [HO.out];rfl) (by go_simp;try with_reducible rfl) ?_
            simp only [Act.put,List.setIfInBounds_toArray,List.set_cons_zero,List.set_cons_succ]
            refine still_one (v:=.bool false) rfl (by go_simp;try with_reducible rfl) ?_
            simp only [Act.put,List.setIfInBounds_toArray,List.set_cons_zero,List.set_cons_succ]
            refine still_one (v:=.bool false) rfl (by go_simp;try with_reducible rfl) ?_
            simp only [Act.put,List.setIfInBounds_toArray,List.set_cons_zero,List.set_cons_succ]
            refine still_one (v:=.pointer (some ⟨w.heap.size + 1,3,none⟩)) (by rw [HO.out];rfl) (by go_simp;try with_reducible rfl) ?_
            simp only [Act.put,List.setIfInBounds_toArray,List.set_cons_zero,List.set_cons_succ]
            refine still_one (v:=.int .i64 (x.view)) (by rw [HO.out];rfl) (by go_simp;try with_reducible rfl) ?_
            simp only [Act.put,List.setIfInBounds_toArray,List.set_cons_zero,List.set_cons_succ]
            refine still_fn (v:=.bool false) (f:=14) (args:=#[.int .i64 (x.view),.int .i64 (0),.int .i64 (1099511627776)]) (by rw [HO.out];rfl) (by go_simp;try with_reducible rfl) (by have h:=within.calls x.view 0 1099511627776 W.drew;rw [c5] at h;exact h) ?_
            simp only [Act.put,List.setIfInBounds_toArray,List.set_cons_zero,List.set_cons_succ]
            refine still_one (v:=.bool true) (by rw [HO.out];rfl) (by go_simp;try with_reducible rfl) ?_
            simp only [Act.put,List.setIfInBounds_toArray,List.set_cons_zero,List.set_cons_succ]
            refine still_one (v:=.bool true) rfl (by go_simp;try with_reducible rfl) ?_
            simp only [Act.put,List.setIfInBounds_toArray,List.set_cons_zero,List.set_cons_succ]
            refine wpStill_nil (HQQ.out _ ?_)
            change wpList _ _ _ _ _ W.drew
            go_wp2_with ((go_at_call_of 44 (Value.bool true);refine(fail_bad.calls _ _ _).mono ?_;rintro e w' ⟨rfl,hw'⟩;have hw':=hw'.symm;subst hw'))
            have e : hearE id n x = some 1:=by unfold hearE;rw [if_neg (fun h=>HN.out h)]
            have e2 : code = 1:=by have:=HE.out;rw [e] at this;injection this with this;exact this.symm
            subst e2
            exact⟨rfl,below_drew HBW.out,rfl⟩
          | true =>
            have HOK:=Aside0.mk (show wi x.kind 1 7 = true∧wi x.fro 0 (n - 1) = true∧x.dst = id∧x.fro ≠ id∧wi x.view 0 1099511627776 = true from⟨c1,c2,by simpa using c3,beq_eq_false_iff_ne.mp c4,c5⟩)
            go_enter Try.func23,Try.ntmps23
            go_upto_region 2 with (fail)
            go_quiet (first|(go_at_call 14;refine(within.calls _ _ _ _).mono ?_;rintro e w' ⟨rfl,rfl⟩;(try first|exact⟨rfl,_,rfl⟩))|(go_at_call_of 44 (Value.bool false);refine(fail_ok.calls _ _ _).mono ?_;rintro e w' ⟨rfl,rfl⟩;(try first|exact⟨rfl,_,rfl⟩)))
            go_upto_region 3 with (fail)
            have KW:=Aside0.mk (show(((w.alloc (.cells #[.int .i64 k,.int .i64 x.kind,.int .i64 x.fro,.int .i64 x.dst,.int .i64 x.view,.int .i64 x.last,.int .i64 x.prev,.slice AX x.log.length cX,.int .i64 x.commit,.int .i64 x.mat,.slice A data.length c] 39)).alloc (.cells #[.int .i64 x.kind,.int .i64 x.fro,.int .i64 x.dst,.int .i64 x.view,.int .i64 x.last,.int .i64 x.prev,.slice AX x.log.length cX,.int .i64 x.commit,.int .i64 x.mat] 37)).drewN nq).heap[w.heap.size + 1]? = some (.cells #[.int .i64 x.kind,.int .i64 x.fro,.int .i64 x.dst,.int .i64 x.view,.int .i64 x.last,.int .i64 x.prev,.slice AX x.log.length cX,.int .i64 x.commit,.int .i64 x.mat] 37 (0,0))∧Below w.heap.size w (((w.alloc (.cells #[.int .i64 k,.int .i64 x.kind,.int .i64 x.fro,.int .i64 x.dst,.int .i64 x.view,.int .i64 x.last,.int .i64 x.prev,.slice AX x.log.length cX,.int .i64 x.commit,.int .i64 x.mat,.slice A data.length c] 39)).alloc (.cells #[.int .i64 x.kind,.int .i64 x.fro,.int .i64 x.dst,.int .i64 x.view,.int .i64 x.last,.int .i64 x.prev,.slice AX x.log.length cX,.int .i64 x.commit,.int .i64 x.mat] 37)).drewN nq) from⟨KK.out.2.1,pw_below_drewN HBW.out nq⟩)
            replace HLOG:=Aside0.mk (Kd.C_below HLOG.out KW.out.2)
            clear x0 x1 c1 c2 c3 c4 c5 hwn hwn2 KK HBW
            generalize ((w.alloc (.cells #[.int .i64 k,.int .i64 x.kind,.int .i64 x.fro,.int .i64 x.dst,.int .i64 x.view,.int .i64 x.last,.int .i64 x.prev,.slice AX x.log.length cX,.int .i64 x.commit,.int .i64 x.mat,.slice A data.length c] 39)).alloc (.cells #[.int .i64 x.kind,.int .i64 x.fro,.int .i64 x.dst,.int .i64 x.view,.int .i64 x.last,.int .i64 x.prev,.slice AX x.log.length cX,.int .i64 x.commit,.int .i64 x.mat] 37)).drewN nq = W at *
            have z6 : W.cell? ⟨w.heap.size + 1,6,none⟩ = some (.slice AX x.log.length cX):=(blk_cell KW.out.1 6).trans rfl
            by_cases hl : 512 < x.log.length
            · have d1 : decide (512 < (x.log.length : Int)) = true:=decide_eq_true (by omega)
              have d2 : decide (512 < x.log.length) = true:=decide_eq_true hl
              have HL:=Aside0.mk hl
              clear hl
              go_wp2_with ((go_at_call_of 44 (Value.bool true);refine(fail_bad.calls _ _ _).mono ?_;rintro e w' ⟨rfl,hw'⟩;have hw':=hw'.symm;subst hw'))
              have e : hearE id n x = some 3:=by unfold hearE;rw [if_pos HOK.out,if_neg (by have:=HL.out;omega)]
              have e2 : code = 3:=by have:=HE.out;rw [e] at this;injection this with this;exact this.symm
              subst e2
              exact⟨rfl,KW.out.2,rfl⟩
            · have d1 : decide (512 < (x.log.length : Int)) = false:=decide_eq_false (by omega)
              have d2 : decide (512 < x.log.length) = false:=decide_eq_false hl
              have HL:=Aside0.mk (show x.log.length ≤ 512 from by omega)
              clear hl
              cases c6 : mayLogV x.log with
              | false =>
                have HM:=Aside0.mk c6
                go_wp2_with (first|(go_at_call_of 44 (Value.bool false);refine(fail_ok.calls _ _ _).mono ?_;rintro e w' ⟨rfl,hw'⟩;have hw':=hw'.symm;subst hw')|(go_at_call 34;refine(mayLog.calls AX cX x.log _ (by repeat (first|exact HLOG.out|(with_reducible refine Kd.C_drewN ?_ _)|(with_reducible refine Kd.C_drew ?_)|(with_reducible refine Kd.C_alloc ?_ _)))).mono ?_;rw [c6];rintro e w1 ⟨rfl,hb1⟩;have HB1:=Aside0.mk hb1;have kx1:=blk_below KW.out.1 hb1;have q5 : w1.cell? ⟨w.heap.size + 1,5,none⟩ = some (.int .i64 x.prev):=(blk_cell kx1 5).trans rfl;have q7 : w1.cell? ⟨w.heap.size + 1,7,none⟩ = some (.int .i64 x.commit):=(blk_cell kx1 7).trans rfl;have q8 : w1.cell? ⟨w.heap.size + 1,8,none⟩ = some (.int .i64 x.mat):=(blk_cell kx1 8).trans rfl;clear hb1 kx1)|(go_at_call_of 44 (Value.bool true);refine(fail_bad.calls _ _ _).mono ?_;rintro e w' ⟨rfl,hw'⟩;have hw':=hw'.symm;subst hw'))
                have e : hearE id n x = some 5:=by unfold hearE;rw [if_pos HOK.out,if_pos HL.out,if_neg (by rw [HM.out];simp)]
                have e2 : code = 5:=by have:=HE.out;rw [e] at this;injection this with this;exact this.symm
                subst e2
                exact⟨rfl,KW.out.2.trans (HB1.out.mono KW.out.2.size),rfl⟩
              | true =>
                have HM:=Aside0.mk c6
                go_wp2_with (first|(go_at_call_of 44 (Value.bool false);refine(fail_ok.calls _ _ _).mono ?_;rintro e w' ⟨rfl,hw'⟩;have hw':=hw'.symm;subst hw')|(go_at_call 34;refine(mayLog.calls AX cX x.log _ (by repeat (first|exact HLOG.out|(with_reducible refine Kd.C_drewN ?_ _)|(with_reducible refine Kd.C_drew ?_)|(with_reducible refine Kd.C_alloc ?_ _)))).mono ?_;rw [c6];rintro e w1 ⟨rfl,hb1⟩;have HB1:=Aside0.mk hb1;have kx1:=blk_below KW.out.1 hb1;have q5 : w1.cell? ⟨w.heap.size + 1,5,none⟩ = some (.int .i64 x.prev):=(blk_cell kx1 5).trans rfl;have q7 : w1.cell? ⟨w.heap.size + 1,7,none⟩ = some (.int .i64 x.commit):=(blk_cell kx1 7).trans rfl;have q8 : w1.cell? ⟨w.heap.size + 1,8,none⟩ = some (.int .i64 x.mat):=(blk_cell kx1 8).trans rfl;clear hb1 kx1))
                have hix0 : ∀ (p q r : Int) (w : World),(Instr.index 86 (.agg #[.int .i64 p,.int .i64 q,.int .i64 r]) (.int .i64 0)).run Try.prog w = .ok (.int .i64 p) w:=fun _ _ _ _=>by first|rfl|kernel_rfl
                have hix1 : ∀ (p q r : Int) (w : World),(Instr.index 86 (.agg #[.int .i64 p,.int .i64 q,.int .i64 r]) (.int .i64 1)).run Try.prog w = .ok (.int .i64 q) w:=fun _ _ _ _=>by first|rfl|kernel_rfl
                have hix2 : ∀ (p q r : Int) (w : World),(Instr.index 86 (.agg #[.int .i64 p,.int .i64 q,.int .i64 r]) (.int .i64 2)).run Try.prog w = .ok (.int .i64 r) w:=fun _ _ _ _=>by first|rfl|kernel_rfl
                clear z6 c6 q5 q7 q8
                have HNB:=Aside0.mk (show wi x.prev 0 512 = true→wi x.commit 0 512 = true→wi x.mat 0 512 = true→False from fun h1 h2 h3=>by
                  have h:=HE.out
                  unfold hearE at h
                  rw [if_pos HOK.out,if_pos HL.out,if_pos HM.out,if_pos ⟨h1,h2,h3⟩] at h
                  cases h)
                go_loopg [6,72] 4 (fun gg _ s72 wr=>∃ i : Int,s72 = .int .i64 i∧wr = w1∧Aside0 (0 ≤ i∧i ≤ 2∧3 - i < gg∧(1 ≤ i→wi x.prev 0 512 = true)∧(2 ≤ i→wi x.commit 0 512 = true)))
                case atStart=>exact⟨0,rfl,rfl,⟨by omega,by omega,by omega,fun h=>absurd h (by omega),fun h=>absurd h (by omega)⟩⟩
                case round =>
                  obtain ⟨i,rfl,hwr,Z⟩:=hrel
                  have hwr:=hwr.symm
                  subst hwr
                  obtain ⟨gg,rfl⟩ : ∃ m,gk = m + 1:=⟨gk - 1,by have:=Z.out;omega⟩
                  have hi : i = 0∨i = 1∨i = 2:=by have:=Z.out;omega
                  rcases hi with rfl|rfl|rfl
                  · cases c9 : wi x.prev 0 512 with
                    | false =>
                      have H9:=Aside0.mk c9
                      go_wp2_with (first|(go_at_call 14;refine(within.calls _ _ _ _).mono ?_;rw [c9];rintro e w' ⟨rfl,rfl⟩)|(go_at_call_of 44 (Value.bool true);refine(fail_bad.calls _ _ _).mono ?_;rintro e w' ⟨rfl,rfl⟩))
                      have e : hearE id n x = some 4:=by unfold hearE;rw [if_pos HOK.out,if_pos HL.out,if_pos HM.out,if_neg (fun h=>by have h9:=H9.out;rw [h.1] at h9;cases h9)]
                      have e2 : code = 4:=by have:=HE.out;rw [e] at this;injection this with this;exact this.symm
                      subst e2
                      exact⟨rfl,KW.out.2.trans (HB1.out.mono KW.out.2.size),rfl⟩
                    | true =>
                      have H9:=Aside0.mk c9
                      go_wp2_with (first|(go_at_call 14;refine(within.calls _ _ _ _).mono ?_;rw [c9];rintro e w' ⟨rfl,rfl⟩)|(go_at_call_of 44 (Value.bool false);refine(fail_ok.calls _ _ _).mono ?_;rintro e w' ⟨rfl,rfl⟩))
                      go_roundg gg
                      case measure=>omega
                      case rel=>exact⟨1,rfl,rfl,⟨by omega,by omega,by have:=Z.out;omega,fun _=>H9.out,fun h=>absurd h (by omega)⟩⟩
                  · cases c9 : wi x.commit 0 512 with
                    | false =>
                      have H9:=Aside0.mk c9
                      go_wp2_with (first|(go_at_call 14;refine(within.calls _ _ _ _).mono ?_;rw [c9];rintro e w' ⟨rfl,rfl⟩)|(go_at_call_of 44 (Value.bool true);refine(fail_bad.calls _ _ _).mono ?_;rintro e w' ⟨rfl,rfl⟩))
                      have e : hearE id n x = some 4:=by unfold hearE;rw [if_pos HOK.out,if_pos HL.out,if_pos HM.out,if_neg (fun h=>by have h9:=H9.out;rw [h.2.1] at h9;cases h9)]
                      have e2 : code = 4:=by have:=HE.out;rw [e] at this;injection this with this;exact this.symm
                      subst e2
                      exact⟨rfl,KW.out.2.trans (HB1.out.mono KW.out.2.size),rfl⟩
                    | true =>
                      have H9:=Aside0.mk c9
                      go_wp2_with (first|(go_at_call 14;refine(within.calls _ _ _ _).mono ?_;rw [c9];rintro e w' ⟨rfl,rfl⟩)|(go_at_call_of 44 (Value.bool false);refine(fail_ok.calls _ _ _).mono ?_;rintro e w' ⟨rfl,rfl⟩))
                      go_roundg gg
                      case measure=>omega
                      case rel=>exact⟨2,rfl,rfl,⟨by omega,by omega,by have:=Z.out;omega,fun _=>Z.out.2.2.2.1 (by omega),fun h=>H9.out⟩⟩
                  · cases c9 : wi x.mat 0 512 with
                    | false =>
                      have H9:=Aside0.mk c9
                      go_wp2_with (first|(go_at_call 14;refine(within.calls _ _ _ _).mono ?_;rw [c9];rintro e w' ⟨rfl,rfl⟩)|(go_at_call_of 44 (Value.bool true);refine(fail_bad.calls _ _ _).mono ?_;rintro e w' ⟨rfl,rfl⟩))
                      have e : hearE id n x = some 4:=by unfold hearE;rw [if_pos HOK.out,if_pos HL.out,if_pos HM.out,if_neg (fun h=>by have h9:=H9.out;rw [h.2.2] at h9;cases h9)]
                      have e2 : code = 4:=by have:=HE.out;rw [e] at this;injection this with this;exact this.symm
                      subst e2
                      exact⟨rfl,KW.out.2.trans (HB1.out.mono KW.out.2.size),rfl⟩
                    | true =>
                      exact(HNB.out (Z.out.2.2.2.1 (by omega)) (Z.out.2.2.2.2 (by omega)) c9).elim
end Go.Proofs.Ytojjnifbnppliaa.T
end
section
namespace Go.Proofs.Ytojjnifbnppliaa.T
open Go.RowKit Go.Proofs.YtojjnifbnppliaaW.PrintWords Go.Proofs.YtojjnifbnppliaaW.PrintLast Go.Proofs.YtojjnifbnppliaaW.PrintMore
attribute [local go_sem] max2_int min2_int max_two min_two max_three min_three max_four min_four
set_option linter.unusedVariables false
set_option linter.unusedSimpArgs false
def errO (r : Except Int (St × List Ms)) : Option Int:=match r with
  | .error c=>some c
  | .ok _=>none
def resS (d : St) (r : Except Int (St × List Ms)) : St:=match r with
  | .error _=>d
  | .ok y=>y.1
def resM (r : Except Int (St × List Ms)) : List Ms:=match r with
  | .error _=>[]
  | .ok y=>y.2
theorem EndsR_to {r : Except Int (St × List Ms)} {e : Ending} {ok : St→List Ms→Prop} (d : St) (h : EndsR r e ok) : Ends (errO r) e (ok (resS d r) (resM r)):=by
  cases r with
  | error c=>exact h
  | ok y=>exact h
theorem EndsR_from {r : Except Int (St × List Ms)} {e : Ending} {ok : St→List Ms→Prop} (d : St) (h : Ends (errO r) e (ok (resS d r) (resM r))) : EndsR r e ok:=by
  cases r with
  | error c=>exact h
  | ok y=>exact h
theorem EndsR_mono {r : Except Int (St × List Ms)} {e : Ending} {ok ok' : St→List Ms→Prop} (h : EndsR r e ok) (hi : ∀ s m,ok s m→ok' s m) : EndsR r e ok':=by
  cases r with
  | error c=>exact h
  | ok y=>exact⟨h.1,hi _ _ h.2⟩
def kindR (s : St) (x : Ms) : Except Int (St × List Ms):=if x.kind = 1 then onPrepareR s x else if x.kind = 2 then ofEnds (prepE s x) (prepS s x) [] else if x.kind = 3 then onBeginsR s x else if x.kind = 4 then onVoteR s x else if x.kind = 5 then onStartR s x else if x.kind = 6 then onAskR s x else onBringR s x
def hearR (s : St) (x : Ms) : Except Int (St × List Ms):=match hearE s.id s.n x with
  | some c=>.error c
  | none=>if x.view < s.view then .ok (s,[]) else kindR s x
theorem mth1 (p : Value) (w : World) : (Instr.index 87 (mths p) (.int .i64 1)).run Try.prog w = .ok (.func (.func 47) #[p] #[]) w:=by kernel_rfl
theorem mth3 (p : Value) (w : World) : (Instr.index 87 (mths p) (.int .i64 3)).run Try.prog w = .ok (.func (.func 49) #[p] #[]) w:=by kernel_rfl
theorem mth4 (p : Value) (w : World) : (Instr.index 87 (mths p) (.int .i64 4)).run Try.prog w = .ok (.func (.func 50) #[p] #[]) w:=by kernel_rfl
theorem mth5 (p : Value) (w : World) : (Instr.index 87 (mths p) (.int .i64 5)).run Try.prog w = .ok (.func (.func 51) #[p] #[]) w:=by kernel_rfl
theorem mth6 (p : Value) (w : World) : (Instr.index 87 (mths p) (.int .i64 6)).run Try.prog w = .ok (.func (.func 52) #[p] #[]) w:=by kernel_rfl
theorem mth7 (p : Value) (w : World) : (Instr.index 87 (mths p) (.int .i64 7)).run Try.prog w = .ok (.func (.func 53) #[p] #[]) w:=by kernel_rfl
section
variable {w : World} {b gd : Nat} {P : Nat→Prop} {s : St} {out : List Ms}
/-- The machine's block is in no row of it. -/
theorem Mac.noself (h : Mac w b gd P s out) : Mac w b gd (fun k=>P k∧k ≠ b) s out:=by
  obtain ⟨hgl,AL,cL,AM,cM,AK,cK,AB,cB,AD,cD,AO,cO,hb,h1,h2,h3,h4,h5,h6,h7⟩:=h
  exact⟨hgl,AL,cL,AM,cM,AK,cK,AB,cB,AD,cD,AO,cO,hb,Kd.R_types h1 hb (by decide),Kd.R_types h2 hb (by decide),Kd.R_types h3 hb (by decide),Kd.R_types h4 hb (by decide),Kd.R_types h5 hb (by decide),h6,h7⟩
end
/-- What hear does, by its handler's contract. -/
theorem hear_kind.calls (b gd : Nat) (P : Nat→Prop) (s : St) (hf : Nat) (R : Except Int (St × List Ms)) (k : Int) (x : Ms) (AX : Option Addr) (cX : Nat) (A : Option Addr) (c : Nat) (data : List Int) (w : World) (hM : Mac w b gd P s []) (hc : Chk s) (hx : MsgOk s.id s.n x) (hv : decide (x.view < s.view) = false) (hlog : Kd.C (Kd.slice 5 (Kd.int .u8)) w AX x.log.length x.log) (eg : ∀ args w,(callFunc hf args).run Try.prog w = .ok (.enter hf args) w)
    (ix : ∀ w,(Instr.index 87 (mths (.pointer (some ⟨b,0,none⟩))) (.int .i64 x.kind)).run Try.prog w = .ok (.func (.func hf) #[.pointer (some ⟨b,0,none⟩)] #[]) w)
    (H : ∀ w2,Below w.heap.size w w2→Calls Try.prog hf #[.pointer (some ⟨b,0,none⟩),.agg #[.int .i64 x.kind,.int .i64 x.fro,.int .i64 x.dst,.int .i64 x.view,.int .i64 x.last,.int .i64 x.prev,.slice AX x.log.length cX,.int .i64 x.commit,.int .i64 x.mat]] w2 fun e w'=>Keeps w2 w' (fun k=>k = b∨P k)∧EndsR R e (fun s' ms=>Mac w' b gd P s' ms)) :
    Calls Try.prog 23 #[.pointer (some ⟨b,0,none⟩),.agg #[.int .i64 k,.int .i64 x.kind,.int .i64 x.fro,.int .i64 x.dst,.int .i64 x.view,.int .i64 x.last,.int .i64 x.prev,.slice AX x.log.length cX,.int .i64 x.commit,.int .i64 x.mat,.slice A data.length c]] w fun e w'=>Keeps w w' (fun k=>k = b∨P k)∧EndsR R e (fun s' ms=>Mac w' b gd P s' ms):=by
  have hM0:=hM
  obtain ⟨hgl,AL,cL,AM,cM,AK,cK,AB,cB,AD,cD,AO,cO,hb,_⟩:=hM0
  refine(hear_go.calls b _ s.id s.n s.view hf (errO R) (fun w'=>Keeps w w' (fun k=>k = b∨P k)) (fun w'=>Mac w' b gd P (resS s R) (resM R)) k x AX cX A c data w hb rfl rfl rfl hc.n hx hv hlog eg ix (fun w2 hB2=>?_)).mono (fun e w' h=>⟨h.1,EndsR_from s h.2⟩)
  refine(H w2 hB2).mono (fun e w' h=>⟨(Keeps.of_belows hB2 _).trans h.1,EndsR_to s h.2⟩)
theorem hear.calls (b gd : Nat) (P : Nat→Prop) (s : St) (k : Int) (x : Ms) (AX : Option Addr) (cX : Nat) (A : Option Addr) (c : Nat) (data : List Int) (w0 w : World) (hB : Below w0.heap.size w0 w) (hM : Mac w b gd P s []) (hP : ∀ k,w.heap.size ≤ k→P k) (hg : ¬ P gd∧gd ≠ b) (hPb : ¬ P b) (hlow : ∀ k,k = b∨P k→w0.heap.size ≤ k) (hc : Chk s) (hlog : Kd.C (Kd.slice 5 (Kd.int .u8)) w0 AX x.log.length x.log) (hcX : x.log.length ≤ cX) :
    Calls Try.prog 23 #[.pointer (some ⟨b,0,none⟩),.agg #[.int .i64 k,.int .i64 x.kind,.int .i64 x.fro,.int .i64 x.dst,.int .i64 x.view,.int .i64 x.last,.int .i64 x.prev,.slice AX x.log.length cX,.int .i64 x.commit,.int .i64 x.mat,.slice A data.length c]] w fun e w'=>Keeps w w' (fun k=>k = b∨P k)∧EndsR (hearR s x) e (fun s' ms=>Mac w' b gd P s' ms):=by
  have hM0:=hM
  obtain ⟨hgl,AL,cL,AM,cM,AK,cK,AB,cB,AD,cD,AO,cO,hb,_⟩:=hM0
  have hlw:=Kd.C_below hlog hB
  unfold hearR
  cases hE : hearE s.id s.n x with
  | some code =>
    exact(hear_err.calls b _ s.id s.n code k x AX cX A c data w hb rfl rfl hc.n hE hlw).mono (fun e w' h=>⟨Keeps.of_belows h.1 _,h.2⟩)
  | none =>
    have hx:=hearE_ok hE
    cases hv : decide (x.view < s.view) with
    | true =>
      have hv' : x.view < s.view:=of_decide_eq_true hv
      show Calls _ _ _ _ fun e w'=>_∧EndsR (if x.view < s.view then _ else _) e _
      rw [if_pos hv']
      exact(hear_old.calls b _ s.id s.n s.view k x AX cX A c data w hb rfl rfl rfl hc.n hx hv hlw).mono (fun e w' h=>⟨Keeps.of_belows h.2 _,h.1,hM.below h.2⟩)
    | false =>
      have hv' : ¬ (x.view < s.view):=of_decide_eq_false hv
      show Calls _ _ _ _ fun e w'=>_∧EndsR (if x.view < s.view then _ else _) e _
      rw [if_neg hv']
      have hv2 : s.view ≤ x.view:=by omega
      have hk:=wi_le hx.kind
      have hsz:=hB.size
      have hX2 : ∀ w2,Below w.heap.size w w2→∀ W,Keeps w2 W (fun k=>k = b∨P k)→Kd.C (Kd.slice 5 (Kd.int .u8)) W AX x.log.length x.log:=fun w2 hB2 W hk=>Kd.C_below hlog (Below.keeps (hB.trans (hB2.mono hsz)) hk (Nat.le_trans hsz hB2.size) hlow)
      have hP2 : ∀ w2,Below w.heap.size w w2→∀ k,w2.heap.size ≤ k→P k:=fun w2 hB2 k hk=>hP k (Nat.le_trans hB2.size hk)
      have hkk : x.kind = 1∨x.kind = 2∨x.kind = 3∨x.kind = 4∨x.kind = 5∨x.kind = 6∨x.kind = 7:=by omega
      rcases hkk with h|h|h|h|h|h|h
      · have e : kindR s x = onPrepareR s x:=by unfold kindR;rw [if_pos h]
        rw [e]
        exact hear_kind.calls b gd P s 47 _ k x AX cX A c data w hM hc hx hv hlw (enters_of Try.func47 (by kernel_rfl) rfl) (fun w=>by rw [h];exact mth1 _ w) (fun w2 hB2=>onPrepare.mac b gd P s x AX cX w2 (hM.below hB2) (hP2 w2 hB2) hg hPb hc hx hv2 (hX2 w2 hB2) hcX)
      · have e : kindR s x = ofEnds (prepE s x) (prepS s x) []:=by unfold kindR;rw [if_neg (by omega),if_pos h]
        rw [e]
        have hf:=wi_le hx.fro
        exact hear_kind.calls b gd P s 48 _ k x AX cX A c data w hM hc hx hv hlw (enters_of Try.func48 (by kernel_rfl) rfl) (fun w=>by rw [h];exact mth2 _ w) (fun w2 hB2=>(onPrepared.calls b gd P s [] x AX cX w2 (hM.below hB2) (hP2 w2 hB2) hg hc.okm ⟨hf.1,by omega⟩).mono (fun e w' h=>⟨h.1,EndsR_of (ok:=fun s' ms=>Mac w' b gd P s' ms) h.2⟩))
      · have e : kindR s x = onBeginsR s x:=by unfold kindR;rw [if_neg (by omega),if_neg (by omega),if_pos h]
        rw [e]
        exact hear_kind.calls b gd P s 49 _ k x AX cX A c data w hM hc hx hv hlw (enters_of Try.func49 (by kernel_rfl) rfl) (fun w=>by rw [h];exact mth3 _ w) (fun w2 hB2=>onBegins.mac b gd P s x AX cX w2 (hM.below hB2) (hP2 w2 hB2) hg hPb hc hx hv2 (hX2 w2 hB2) hcX)
      · have e : kindR s x = onVoteR s x:=by unfold kindR;rw [if_neg (by omega),if_neg (by omega),if_neg (by omega),if_pos h]
        rw [e]
        exact hear_kind.calls b gd P s 50 _ k x AX cX A c data w hM hc hx hv hlw (enters_of Try.func50 (by kernel_rfl) rfl) (fun w=>by rw [h];exact mth4 _ w) (fun w2 hB2=>onVote.mac b gd P s x AX cX w2 (hM.below hB2) (hP2 w2 hB2) hg hPb hc hx hv2 (hX2 w2 hB2) hcX)
      · have e : kindR s x = onStartR s x:=by unfold kindR;rw [if_neg (by omega),if_neg (by omega),if_neg (by omega),if_neg (by omega),if_pos h]
        rw [e]
        exact hear_kind.calls b gd P s 51 _ k x AX cX A c data w hM hc hx hv hlw (enters_of Try.func51 (by kernel_rfl) rfl) (fun w=>by rw [h];exact mth5 _ w) (fun w2 hB2=>onStart.mac b gd P s x AX cX w2 (hM.below hB2) (hP2 w2 hB2) hg hPb hc hx hv2 (hX2 w2 hB2) hcX)
      · have e : kindR s x = onAskR s x:=by unfold kindR;rw [if_neg (by omega),if_neg (by omega),if_neg (by omega),if_neg (by omega),if_neg (by omega),if_pos h]
        rw [e]
        exact hear_kind.calls b gd P s 52 _ k x AX cX A c data w hM hc hx hv hlw (enters_of Try.func52 (by kernel_rfl) rfl) (fun w=>by rw [h];exact mth6 _ w) (fun w2 hB2=>onAsk.mac b gd P s x AX cX w2 (hM.below hB2) (hP2 w2 hB2) hg hPb hc hx hv2 (hX2 w2 hB2) hcX)
      · have e : kindR s x = onBringR s x:=by unfold kindR;rw [if_neg (by omega),if_neg (by omega),if_neg (by omega),if_neg (by omega),if_neg (by omega),if_neg (by omega)]
        rw [e]
        exact hear_kind.calls b gd P s 53 _ k x AX cX A c data w hM hc hx hv hlw (enters_of Try.func53 (by kernel_rfl) rfl) (fun w=>by rw [h];exact mth7 _ w) (fun w2 hB2=>onBring.mac b gd P s x AX cX w2 (hM.below hB2) (hP2 w2 hB2) hg hPb hc hx hv2 (hX2 w2 hB2) hcX)
set_option maxHeartbeats 2000000 in
/-- A request to one that does not lead. -/
theorem request_err.calls (b gd : Nat) (P : Nat→Prop) (s : St) (k : Int) (x : Ms) (AX : Option Addr) (cX : Nat) (A : Option Addr) (c : Nat) (data : List Int) (w : World) (hM : Mac w b gd P s []) (hn : 1 ≤ s.n∧s.n ≤ 9) (hl : leadsV s.id s.n s.view s.status = false) :
    Calls Try.prog 24 #[.pointer (some ⟨b,0,none⟩),.agg #[.int .i64 k,.int .i64 x.kind,.int .i64 x.fro,.int .i64 x.dst,.int .i64 x.view,.int .i64 x.last,.int .i64 x.prev,.slice AX x.log.length cX,.int .i64 x.commit,.int .i64 x.mat,.slice A data.length c]] w fun e w'=>Below w.heap.size w w'∧e = .panicked [{ v:=.iface 30 (.int .i64 9),recovered:=false }]:=by
  obtain ⟨hgl,AL,cL,AM,cM,AK,cK,AB,cB,AD,cD,AO,cO,hb,_⟩:=hM
  have hu:=Try.underlying39
  have hu61:=Try.underlying61
  have hu29:=Try.underlying29
  have hn0 : s.n ≠ 0:=by omega
  have HB:=Aside0.mk (below_alloc (Below.refl w.heap.size w) (.cells #[.int .i64 k,.int .i64 x.kind,.int .i64 x.fro,.int .i64 x.dst,.int .i64 x.view,.int .i64 x.last,.int .i64 x.prev,.slice AX x.log.length cX,.int .i64 x.commit,.int .i64 x.mat,.slice A data.length c] 39))
  have kb:=blk_alloc hb (.cells #[.int .i64 k,.int .i64 x.kind,.int .i64 x.fro,.int .i64 x.dst,.int .i64 x.view,.int .i64 x.last,.int .i64 x.prev,.slice AX x.log.length cX,.int .i64 x.commit,.int .i64 x.mat,.slice A data.length c] 39)
  have x0 : (w.alloc (.cells #[.int .i64 k,.int .i64 x.kind,.int .i64 x.fro,.int .i64 x.dst,.int .i64 x.view,.int .i64 x.last,.int .i64 x.prev,.slice AX x.log.length cX,.int .i64 x.commit,.int .i64 x.mat,.slice A data.length c] 39)).cell? ⟨b,0,none⟩ = some (.int .i64 s.id):=(blk_cell kb 0).trans rfl
  have x1 : (w.alloc (.cells #[.int .i64 k,.int .i64 x.kind,.int .i64 x.fro,.int .i64 x.dst,.int .i64 x.view,.int .i64 x.last,.int .i64 x.prev,.slice AX x.log.length cX,.int .i64 x.commit,.int .i64 x.mat,.slice A data.length c] 39)).cell? ⟨b,1,none⟩ = some (.int .i64 s.n):=(blk_cell kb 1).trans rfl
  have x2 : (w.alloc (.cells #[.int .i64 k,.int .i64 x.kind,.int .i64 x.fro,.int .i64 x.dst,.int .i64 x.view,.int .i64 x.last,.int .i64 x.prev,.slice AX x.log.length cX,.int .i64 x.commit,.int .i64 x.mat,.slice A data.length c] 39)).cell? ⟨b,2,none⟩ = some (.int .i64 s.view):=(blk_cell kb 2).trans rfl
  have x4 : (w.alloc (.cells #[.int .i64 k,.int .i64 x.kind,.int .i64 x.fro,.int .i64 x.dst,.int .i64 x.view,.int .i64 x.last,.int .i64 x.prev,.slice AX x.log.length cX,.int .i64 x.commit,.int .i64 x.mat,.slice A data.length c] 39)).cell? ⟨b,4,none⟩ = some (.int .i64 s.status):=(blk_cell kb 4).trans rfl
  have HL:=Aside0.mk hl
  clear kb hb hl
  go_enter Try.func24,Try.ntmps24
  go_wp2_with (first|(go_at_call 16;refine(leads.calls b s.id s.n s.view s.status hn0 _ x0 x1 x2 x4).mono ?_;rw [HL.out];rintro e w' ⟨rfl,⟨m,rfl⟩⟩)|(go_at_call_of 44 (Value.bool true);refine(fail_bad.calls _ _ _).mono ?_;rintro e w' ⟨rfl,rfl⟩))
  exact⟨rfl,pw_below_drewN HB.out m,rfl⟩
def stepR (s : St) (k : Int) (x : Ms) (data : List Int) : Except Int (St × List Ms):=if k = 1 then tickR s else if k = 2 then hearR s x else ofEnds (reqE s data) (reqS s data) []
/-- Step at a state that may be, and an event of a kind. -/
theorem StepOk.calls (s : St) (AL : Option Addr) (cL : Nat) (AM : Option Addr) (cM : Nat) (AK : Option Addr) (cK : Nat) (AB : Option Addr) (cB : Nat) (AD : Option Addr) (cD : Nat) (x : Ms) (AX : Option Addr) (cX : Nat) (A : Option Addr) (c : Nat) (data : List Int) (k : Int) (hk : wi k 1 3 = true) (w : World) (hr : Rd w s AL cL AM cM AK cK AB cB AD cD) (hc : Chk s) (hlog : Kd.C (Kd.slice 5 (Kd.int .u8)) w AX x.log.length x.log) (hcX : x.log.length ≤ cX) (hd : Kd.C (Kd.int .u8) w A data.length data) :
    Calls Try.prog 8 #[.agg #[.int .i64 s.id,.int .i64 s.n,.int .i64 s.view,.int .i64 s.last,.int .i64 s.status,.slice AL s.log.length cL,.int .i64 s.commit,.slice AM s.mat.length cM,.slice AK s.marks.length cK,.bool s.sent,.slice AB s.bals.length cB,.int .i64 s.elapsed,.int .i64 s.timeout,.slice AD s.draws.length cD],.agg #[.int .i64 k,.int .i64 x.kind,.int .i64 x.fro,.int .i64 x.dst,.int .i64 x.view,.int .i64 x.last,.int .i64 x.prev,.slice AX x.log.length cX,.int .i64 x.commit,.int .i64 x.mat,.slice A data.length c]] w (StepRes w (errO (stepR s k x data)) (resS s (stepR s k x data)) (resM (stepR s k x data))):=by
  have hkk : k = 1∨k = 2∨k = 3:=by have:=wi_le hk;omega
  rcases hkk with rfl|rfl|rfl
  · have e : stepR s 1 x data = tickR s:=by unfold stepR;rw [if_pos rfl]
    rw [e]
    refine Step_go.calls s _ _ AL cL AM cM AK cK AB cB AD cD 1 x AX cX A c data 22 _ w hr hc.fits ((check_iff s).2 hc) hk (enters_of Try.func22 (by kernel_rfl) rfl) mex1 (fun w1 b gd P hB hM hP hg hlow=>?_)
    have hbl:=hM.blt
    refine(tick.mac b gd (fun k=>P k∧k ≠ b) s x AX cX A c data 1 w1 hM.noself (fun k hk=>⟨hP k hk,by omega⟩) ⟨fun h=>hg.1 h.1,hg.2⟩ (fun h=>h.2 rfl) hc).mono (fun e w' h=>⟨h.1.mono (fun k hk=>hk.imp id (fun h=>h.1)),EndsR_to s (EndsR_mono h.2 (fun s' ms h=>h.mono (fun k hk=>hk.1)))⟩)
  · have e : stepR s 2 x data = hearR s x:=by unfold stepR;rw [if_neg (by decide),if_pos rfl]
    rw [e]
    refine Step_go.calls s _ _ AL cL AM cM AK cK AB cB AD cD 2 x AX cX A c data 23 _ w hr hc.fits ((check_iff s).2 hc) hk (enters_of Try.func23 (by kernel_rfl) rfl) mex2 (fun w1 b gd P hB hM hP hg hlow=>?_)
    have hbl:=hM.blt
    refine(hear.calls b gd (fun k=>P k∧k ≠ b) s 2 x AX cX A c data w w1 hB hM.noself (fun k hk=>⟨hP k hk,by omega⟩) ⟨fun h=>hg.1 h.1,hg.2⟩ (fun h=>h.2 rfl) (fun k hk=>hlow k (hk.elim (fun h=>.inr h) (fun h=>.inl h.1))) hc hlog hcX).mono (fun e w' h=>⟨h.1.mono (fun k hk=>hk.imp id (fun h=>h.1)),EndsR_to s (EndsR_mono h.2 (fun s' ms h=>h.mono (fun k hk=>hk.1)))⟩)
  · have e : stepR s 3 x data = ofEnds (reqE s data) (reqS s data) []:=by unfold stepR;rw [if_neg (by decide),if_neg (by decide)]
    rw [e]
    refine Step_go.calls s _ _ AL cL AM cM AK cK AB cB AD cD 3 x AX cX A c data 24 _ w hr hc.fits ((check_iff s).2 hc) hk (enters_of Try.func24 (by kernel_rfl) rfl) mex3 (fun w1 b gd P hB hM hP hg hlow=>?_)
    cases hl : leadsV s.id s.n s.view s.status with
    | true =>
      exact(request.calls b gd P s [] 3 x AX cX A c data w1 hM hP hg hc.okm (Kd.C_below hd hB) (hc.bals_nil hl) rfl).mono (fun e w' h=>⟨h.1,EndsR_to s (EndsR_of (ok:=fun s' ms=>Mac w' b gd P s' ms) h.2)⟩)
    | false =>
      have e9 : reqE s data = some 9:=by unfold reqE;rw [hl,if_neg (by simp)]
      rw [e9]
      exact(request_err.calls b gd P s 3 x AX cX A c data w1 hM hc.n hl).mono (fun e w' h=>⟨Keeps.of_belows h.1 _,h.2⟩)
end Go.Proofs.Ytojjnifbnppliaa.T
end
section
namespace Go.Proofs.Ytojjnifbnppliaa.T
open Go.RowKit Go.Proofs.YtojjnifbnppliaaW.PrintWords Go.Proofs.YtojjnifbnppliaaW.PrintLast Go.Proofs.YtojjnifbnppliaaW.PrintMore
attribute [local go_sem] max2_int min2_int max_two min_two max_three min_three max_four min_four
set_option linter.unusedVariables false
set_option linter.unusedSimpArgs false
/-- The boxes of Step's results, as they stand. -/
def GZ (W : World) (p q r : Nat) (y : Int) (w : World) : Prop:=Keeps W w (fun k=>k = p∨k = q∨k = r)∧w.heap[p]? = some (.cells #[.int .i64 0,.int .i64 0,.int .i64 0,.int .i64 0,.int .i64 0,.slice none 0 0,.int .i64 0,.slice none 0 0,.slice none 0 0,.bool false,.slice none 0 0,.int .i64 0,.int .i64 0,.slice none 0 0] 29 (0,0))∧w.heap[q]? = some (.cells #[.slice none 0 0] 33 (0,0))∧w.heap[r]? = some (.cells #[.int .i64 y] 30 (0,0))
section
variable {W w : World} {p q r : Nat} {y : Int}
theorem GZ.s1 (h : GZ W p q r y w) (n2 : q ≠ p) (n3 : r ≠ p) : GZ W p q r y (w.setRow p #[.int .i64 0,.int .i64 0,.int .i64 0,.int .i64 0,.int .i64 0,.slice none 0 0,.int .i64 0,.slice none 0 0,.slice none 0 0,.bool false,.slice none 0 0,.int .i64 0,.int .i64 0,.slice none 0 0]):=by
  obtain ⟨h2,h3,h4,h5⟩:=h
  exact⟨h2.trans ⟨rfl,rfl,rfl,by simp,fun k _ hk=>setRow_other w p k _ (fun e=>hk (.inl e))⟩,setRow_heap w p _ #[.int .i64 0,.int .i64 0,.int .i64 0,.int .i64 0,.int .i64 0,.slice none 0 0,.int .i64 0,.slice none 0 0,.slice none 0 0,.bool false,.slice none 0 0,.int .i64 0,.int .i64 0,.slice none 0 0] 29 (0,0) h3,(setRow_other w p q _ n2).trans h4,(setRow_other w p r _ n3).trans h5⟩
theorem GZ.s2 (h : GZ W p q r y w) (n2 : p ≠ q) (n3 : r ≠ q) : GZ W p q r y (w.setCell ⟨q,0,none⟩ (.slice none 0 0)):=by
  obtain ⟨h2,h3,h4,h5⟩:=h
  exact⟨h2.setCell (p:=⟨q,0,none⟩) (.inl (.inr (.inl rfl))) _,blk_far h3 (p:=⟨q,0,none⟩) n2 _,blk_put h4 0 (.slice none 0 0) rfl,blk_far h5 (p:=⟨q,0,none⟩) n3 _⟩
theorem GZ.s3 (h : GZ W p q r y w) {z : Int} (n2 : p ≠ r) (n3 : q ≠ r) : GZ W p q r z (w.setCell ⟨r,0,none⟩ (.int .i64 z)):=by
  obtain ⟨h2,h3,h4,h5⟩:=h
  exact⟨h2.setCell (p:=⟨r,0,none⟩) (.inl (.inr (.inr rfl))) _,blk_far h3 (p:=⟨r,0,none⟩) n2 _,blk_far h4 (p:=⟨r,0,none⟩) n3 _,blk_put h5 0 (.int .i64 z) rfl⟩
end
set_option maxHeartbeats 8000000 in
set_option maxRecDepth 100000 in
/-- Step at a state that may not be. -/
theorem StepBad.calls (s : St) (AL : Option Addr) (cL : Nat) (AM : Option Addr) (cM : Nat) (AK : Option Addr) (cK : Nat) (AB : Option Addr) (cB : Nat) (AD : Option Addr) (cD : Nat) (x : Ms) (AX : Option Addr) (cX : Nat) (A : Option Addr) (c : Nat) (data : List Int) (k : Int) (w : World) (hr : Rd w s AL cL AM cM AK cK AB cB AD cD) (hc : checkV s = false) :
    Calls Try.prog 8 #[.agg #[.int .i64 s.id,.int .i64 s.n,.int .i64 s.view,.int .i64 s.last,.int .i64 s.status,.slice AL s.log.length cL,.int .i64 s.commit,.slice AM s.mat.length cM,.slice AK s.marks.length cK,.bool s.sent,.slice AB s.bals.length cB,.int .i64 s.elapsed,.int .i64 s.timeout,.slice AD s.draws.length cD],.agg #[.int .i64 k,.int .i64 x.kind,.int .i64 x.fro,.int .i64 x.dst,.int .i64 x.view,.int .i64 x.last,.int .i64 x.prev,.slice AX x.log.length cX,.int .i64 x.commit,.int .i64 x.mat,.slice A data.length c]] w (StepRes w (some 9) s []):=by
  have hu29:=Try.underlying29
  have hu33:=Try.underlying33
  have hu30:=Try.underlying30
  have hu39:=Try.underlying39
  have HR:=Aside0.mk hr
  have HC:=Aside0.mk hc
  obtain ⟨k2,k3,k4,k5,k6,hsz,hb0⟩:=five_blocks w (.cells #[.int .i64 s.id,.int .i64 s.n,.int .i64 s.view,.int .i64 s.last,.int .i64 s.status,.slice AL s.log.length cL,.int .i64 s.commit,.slice AM s.mat.length cM,.slice AK s.marks.length cK,.bool s.sent,.slice AB s.bals.length cB,.int .i64 s.elapsed,.int .i64 s.timeout,.slice AD s.draws.length cD] 29) (.cells #[.int .i64 k,.int .i64 x.kind,.int .i64 x.fro,.int .i64 x.dst,.int .i64 x.view,.int .i64 x.last,.int .i64 x.prev,.slice AX x.log.length cX,.int .i64 x.commit,.int .i64 x.mat,.slice A data.length c] 39) (.cells #[.int .i64 0,.int .i64 0,.int .i64 0,.int .i64 0,.int .i64 0,.slice none 0 0,.int .i64 0,.slice none 0 0,.slice none 0 0,.bool false,.slice none 0 0,.int .i64 0,.int .i64 0,.slice none 0 0] 29) (.cells #[.slice none 0 0] 33) (.cells #[.int .i64 0] 30)
  have HK:=Aside0.mk (And.intro k4 (And.intro k5 k6))
  have HB0:=Aside0.mk hb0
  have HSZ:=Aside0.mk hsz
  clear k2 k3 k4 k5 k6 hsz hr hc hb0
  go_enter_defers Try.func8,Try.ntmps8
  go_upto_region 2 with (go_at_call 19;refine(Check.calls s AL cL AM cM AK cK AB cB AD cD _ (Rd.below HR.out HB0.out)).mono ?_;rw [HC.out,if_neg (by simp)];rintro e w1 ⟨rfl,hb1⟩;have HB1:=Aside0.mk (HB0.out.trans (hb1.mono HB0.out.size));have HS1:=Aside0.mk (Nat.le_trans (Nat.le_of_eq HSZ.out.symm) hb1.size);have k6:=blk_below HK.out.2.2 hb1;have q6 : w1.cell? ⟨w.heap.size + 1 + 1 + 1 + 1,0,none⟩ = some (.int .i64 0):=(blk_cell k6 0).trans rfl;have g6:=blk_frozen k6 0;have KK:=Aside0.mk (And.intro (blk_below HK.out.1 hb1) (And.intro (blk_below HK.out.2.1 hb1) k6));clear hb1 HK HB0 k6)
  have HZ:=Aside0.mk (show GZ (w1.setCell ⟨w.heap.size + 1 + 1 + 1 + 1,0,none⟩ (.int .i64 9)) (w.heap.size + 1 + 1) (w.heap.size + 1 + 1 + 1) (w.heap.size + 1 + 1 + 1 + 1) 9 (w1.setCell ⟨w.heap.size + 1 + 1 + 1 + 1,0,none⟩ (.int .i64 9))∧Below w.heap.size w (w1.setCell ⟨w.heap.size + 1 + 1 + 1 + 1,0,none⟩ (.int .i64 9)) from⟨⟨Keeps.refl _ _,blk_far KK.out.1 (p:=⟨w.heap.size + 1 + 1 + 1 + 1,0,none⟩) (by show w.heap.size + 1 + 1 ≠ w.heap.size + 1 + 1 + 1 + 1;omega) _,blk_far KK.out.2.1 (p:=⟨w.heap.size + 1 + 1 + 1 + 1,0,none⟩) (by show w.heap.size + 1 + 1 + 1 ≠ w.heap.size + 1 + 1 + 1 + 1;omega) _,blk_put KK.out.2.2 0 (.int .i64 9) rfl⟩,HB1.out.setCell (by show w.heap.size ≤ w.heap.size + 1 + 1 + 1 + 1;omega) _⟩)
  clear q6 g6 HB1 HS1 KK HSZ
  generalize w1.setCell ⟨w.heap.size + 1 + 1 + 1 + 1,0,none⟩ (.int .i64 9) = W at *
  have y6 : W.cell? ⟨w.heap.size + 1 + 1 + 1 + 1,0,none⟩ = some (.int .i64 9):=(blk_cell HZ.out.1.2.2.2 0).trans rfl
  go_upto_region 3 with (fail)
  have HB:=Aside0.mk HZ.out.2
  have hG0 : GZ W (w.heap.size + 1 + 1) (w.heap.size + 1 + 1 + 1) (w.heap.size + 1 + 1 + 1 + 1) 9 W.drew:=⟨Keeps.drew (Keeps.refl _ _),HZ.out.1.2⟩
  clear HZ y6
  refine region_tab (fun u=>⟨#[.agg #[.int .i64 s.id,.int .i64 s.n,.int .i64 s.view,.int .i64 s.last,.int .i64 s.status,.slice AL s.log.length cL,.int .i64 s.commit,.slice AM s.mat.length cM,.slice AK s.marks.length cK,.bool s.sent,.slice AB s.bals.length cB,.int .i64 s.elapsed,.int .i64 s.timeout,.slice AD s.draws.length cD],.agg #[.int .i64 k,.int .i64 x.kind,.int .i64 x.fro,.int .i64 x.dst,.int .i64 x.view,.int .i64 x.last,.int .i64 x.prev,.slice AX x.log.length cX,.int .i64 x.commit,.int .i64 x.mat,.slice A data.length c],.pointer (some ⟨w.heap.size,0,none⟩),.pointer (some ⟨w.heap.size + 1,0,none⟩),.pointer (some ⟨w.heap.size + 1 + 1,0,none⟩),.pointer (some ⟨w.heap.size + 1 + 1 + 1,0,none⟩),.pointer (some ⟨w.heap.size + 1 + 1 + 1 + 1,0,none⟩),undef,.agg #[.int .i64 s.id,.int .i64 s.n,.int .i64 s.view,.int .i64 s.last,.int .i64 s.status,.slice AL s.log.length cL,.int .i64 s.commit,.slice AM s.mat.length cM,.slice AK s.marks.length cK,.bool s.sent,.slice AB s.bals.length cB,.int .i64 s.elapsed,.int .i64 s.timeout,.slice AD s.draws.length cD],.int .i64 9,.int .i64 9,.bool true,u 12,u 13,undef,undef,undef,undef,undef,undef,undef,undef,undef,undef,undef,undef,undef,undef,undef,undef,undef,undef,undef,undef,undef,undef,undef,undef,undef],[]⟩) (fun _=>undef) (fun i v=>match i with|0=>v = .agg #[.int .i64 0,.int .i64 0,.int .i64 0,.int .i64 0,.int .i64 0,.slice none 0 0,.int .i64 0,.slice none 0 0,.slice none 0 0,.bool false,.slice none 0 0,.int .i64 0,.int .i64 0,.slice none 0 0]|1=>v = .int .i64 9|_=>True) (fun _ _ wx=>GZ W (w.heap.size + 1 + 1) (w.heap.size + 1 + 1 + 1) (w.heap.size + 1 + 1 + 1 + 1) 9 wx) (by first|rfl|kernel_rfl) (by kernel_rfl) (by kernel_rfl) rfl ?tg0 ?tput ?tg ?tstep ?tdone
  case tg0=>exact hG0
  case tput =>
    intro i o ho u v
    rcases i with _|_|_|_|_|i
    all_goals first|(obtain rfl:=Option.some.inj (show some _ = some o from ho);rfl)|exact absurd ho (by simp)
  case tg =>
    intro i o ho
    rcases i with _|_|_|_|_|i
    all_goals first|(obtain rfl:=Option.some.inj (show some _ = some o from ho);rfl)|exact absurd ho (by simp)
  case tstep =>
    intro l u wx i o hx hG hF ho hl hn
    rcases i with _|_|_|_|_|i
    · obtain rfl:=Option.some.inj (show some _ = some o from ho)
      refine wv_ (v:=.agg #[.int .i64 0,.int .i64 0,.int .i64 0,.int .i64 0,.int .i64 0,.slice none 0 0,.int .i64 0,.slice none 0 0,.slice none 0 0,.bool false,.slice none 0 0,.int .i64 0,.int .i64 0,.slice none 0 0]) (by go_simp;with_reducible rfl) ?_
      exact⟨_,rfl,rfl,hG⟩
    · obtain rfl:=Option.some.inj (show some _ = some o from ho)
      have y6 : wx.cell? ⟨w.heap.size + 1 + 1 + 1 + 1,0,none⟩ = some (.int .i64 9):=(blk_cell hG.2.2.2 0).trans rfl
      refine wv_ (v:=.int .i64 9) (by go_simp;with_reducible rfl) ?_
      exact⟨_,rfl,rfl,hG⟩
    · obtain rfl:=Option.some.inj (show some _ = some o from ho)
      have e12 : u 12 = _:=hF 0 (by decide) (hn 0 (by decide)) 12 rfl
      refine wp_store_row 29 (.tmp 4) (.tmp 12) rfl (w.heap.size + 1 + 1) #[.int .i64 0,.int .i64 0,.int .i64 0,.int .i64 0,.int .i64 0,.slice none 0 0,.int .i64 0,.slice none 0 0,.slice none 0 0,.bool false,.slice none 0 0,.int .i64 0,.int .i64 0,.slice none 0 0] rfl e12 29 _ hG.2.1 (by kernel_rfl) rfl (by kernel_rfl) ?_
      exact⟨undef,rfl,trivial,hG.s1 (by omega) (by omega)⟩
    · obtain rfl:=Option.some.inj (show some _ = some o from ho)
      have y5 : wx.cell? ⟨w.heap.size + 1 + 1 + 1,0,none⟩ = some (.slice none 0 0):=(blk_cell hG.2.2.1 0).trans rfl
      have f5:=blk_frozen hG.2.2.1 0
      refine ws_ (w1:=wx.setCell ⟨w.heap.size + 1 + 1 + 1,0,none⟩ (.slice none 0 0)) (by first|(go_simp;done)|(go_simp;with_reducible rfl)) ?_
      exact⟨undef,rfl,trivial,hG.s2 (by omega) (by omega)⟩
    · obtain rfl:=Option.some.inj (show some _ = some o from ho)
      have e13 : u 13 = _:=hF 1 (by decide) (hn 1 (by decide)) 13 rfl
      have y6 : wx.cell? ⟨w.heap.size + 1 + 1 + 1 + 1,0,none⟩ = some (.int .i64 9):=(blk_cell hG.2.2.2 0).trans rfl
      have f6:=blk_frozen hG.2.2.2 0
      refine ws_ (w1:=wx.setCell ⟨w.heap.size + 1 + 1 + 1 + 1,0,none⟩ (.int .i64 9)) (by first|(go_simp;done)|(go_simp;with_reducible rfl)) ?_
      exact⟨undef,rfl,trivial,hG.s3 (by omega) (by omega)⟩
    · exact absurd ho (by simp)
  case tdone =>
    intro l u wx hall hG hF
    dsimp only
    go_wp2_with fail
    obtain ⟨hkx,q4,q5,q6⟩:=hG
    have hres:=fun t h4 h5 h6=>step_results (tmps:=t) _ _ _ _ _ 9 h4 h5 h6 q4 rfl q5 q6
    have hB:=Below.keeps HB.out hkx HB.out.size (fun k hk2=>by rcases hk2 with h|h|h <;> omega)
    exact⟨_,hres _ rfl rfl rfl,hB,rfl⟩
set_option maxHeartbeats 8000000 in
set_option maxRecDepth 100000 in
/-- Step at an event of no kind. -/
theorem StepKind.calls (s : St) (AL : Option Addr) (cL : Nat) (AM : Option Addr) (cM : Nat) (AK : Option Addr) (cK : Nat) (AB : Option Addr) (cB : Nat) (AD : Option Addr) (cD : Nat) (x : Ms) (AX : Option Addr) (cX : Nat) (A : Option Addr) (c : Nat) (data : List Int) (k : Int) (w : World) (hr : Rd w s AL cL AM cM AK cK AB cB AD cD) (hc : checkV s = true) (hk : wi k 1 3 = false) :
    Calls Try.prog 8 #[.agg #[.int .i64 s.id,.int .i64 s.n,.int .i64 s.view,.int .i64 s.last,.int .i64 s.status,.slice AL s.log.length cL,.int .i64 s.commit,.slice AM s.mat.length cM,.slice AK s.marks.length cK,.bool s.sent,.slice AB s.bals.length cB,.int .i64 s.elapsed,.int .i64 s.timeout,.slice AD s.draws.length cD],.agg #[.int .i64 k,.int .i64 x.kind,.int .i64 x.fro,.int .i64 x.dst,.int .i64 x.view,.int .i64 x.last,.int .i64 x.prev,.slice AX x.log.length cX,.int .i64 x.commit,.int .i64 x.mat,.slice A data.length c]] w (StepRes w (some 22) s []):=by
  have hu29:=Try.underlying29
  have hu33:=Try.underlying33
  have hu30:=Try.underlying30
  have hu39:=Try.underlying39
  have HR:=Aside0.mk hr
  have HC:=Aside0.mk hc
  obtain ⟨k2,k3,k4,k5,k6,hsz,hb0⟩:=five_blocks w (.cells #[.int .i64 s.id,.int .i64 s.n,.int .i64 s.view,.int .i64 s.last,.int .i64 s.status,.slice AL s.log.length cL,.int .i64 s.commit,.slice AM s.mat.length cM,.slice AK s.marks.length cK,.bool s.sent,.slice AB s.bals.length cB,.int .i64 s.elapsed,.int .i64 s.timeout,.slice AD s.draws.length cD] 29) (.cells #[.int .i64 k,.int .i64 x.kind,.int .i64 x.fro,.int .i64 x.dst,.int .i64 x.view,.int .i64 x.last,.int .i64 x.prev,.slice AX x.log.length cX,.int .i64 x.commit,.int .i64 x.mat,.slice A data.length c] 39) (.cells #[.int .i64 0,.int .i64 0,.int .i64 0,.int .i64 0,.int .i64 0,.slice none 0 0,.int .i64 0,.slice none 0 0,.slice none 0 0,.bool false,.slice none 0 0,.int .i64 0,.int .i64 0,.slice none 0 0] 29) (.cells #[.slice none 0 0] 33) (.cells #[.int .i64 0] 30)
  have HK:=Aside0.mk (And.intro k3 (And.intro k4 (And.intro k5 k6)))
  have HB0:=Aside0.mk hb0
  have HSZ:=Aside0.mk hsz
  have HKD:=Aside0.mk hk
  clear k2 k3 k4 k5 k6 hsz hr hc hb0 hk
  go_enter_defers Try.func8,Try.ntmps8
  go_upto_region 2 with (go_at_call 19;refine(Check.calls s AL cL AM cM AK cK AB cB AD cD _ (Rd.below HR.out HB0.out)).mono ?_;rw [if_pos HC.out];rintro e w1 ⟨rfl,hb1⟩;have HB1:=Aside0.mk (HB0.out.trans (hb1.mono HB0.out.size));have HS1:=Aside0.mk (Nat.le_trans (Nat.le_of_eq HSZ.out.symm) hb1.size);have k6:=blk_below HK.out.2.2.2 hb1;have q6 : w1.cell? ⟨w.heap.size + 1 + 1 + 1 + 1,0,none⟩ = some (.int .i64 0):=(blk_cell k6 0).trans rfl;have g6:=blk_frozen k6 0;have KK:=Aside0.mk (And.intro (blk_below HK.out.2.1 hb1) (And.intro (blk_below HK.out.2.2.1 hb1) (And.intro k6 (blk_below HK.out.1 hb1))));clear hb1 HK HB0 k6)
  have HZ:=Aside0.mk (show GZ (w1.setCell ⟨w.heap.size + 1 + 1 + 1 + 1,0,none⟩ (.int .i64 0)) (w.heap.size + 1 + 1) (w.heap.size + 1 + 1 + 1) (w.heap.size + 1 + 1 + 1 + 1) 0 (w1.setCell ⟨w.heap.size + 1 + 1 + 1 + 1,0,none⟩ (.int .i64 0))∧Below w.heap.size w (w1.setCell ⟨w.heap.size + 1 + 1 + 1 + 1,0,none⟩ (.int .i64 0))∧(w1.setCell ⟨w.heap.size + 1 + 1 + 1 + 1,0,none⟩ (.int .i64 0)).heap[w.heap.size + 1]? = some (.cells #[.int .i64 k,.int .i64 x.kind,.int .i64 x.fro,.int .i64 x.dst,.int .i64 x.view,.int .i64 x.last,.int .i64 x.prev,.slice AX x.log.length cX,.int .i64 x.commit,.int .i64 x.mat,.slice A data.length c] 39 (0,0)) from⟨⟨Keeps.refl _ _,blk_far KK.out.1 (p:=⟨w.heap.size + 1 + 1 + 1 + 1,0,none⟩) (by show w.heap.size + 1 + 1 ≠ w.heap.size + 1 + 1 + 1 + 1;omega) _,blk_far KK.out.2.1 (p:=⟨w.heap.size + 1 + 1 + 1 + 1,0,none⟩) (by show w.heap.size + 1 + 1 + 1 ≠ w.heap.size + 1 + 1 + 1 + 1;omega) _,blk_put KK.out.2.2.1 0 (.int .i64 0) rfl⟩,HB1.out.setCell (by show w.heap.size ≤ w.heap.size + 1 + 1 + 1 + 1;omega) _,blk_far KK.out.2.2.2 (p:=⟨w.heap.size + 1 + 1 + 1 + 1,0,none⟩) (by show w.heap.size + 1 ≠ w.heap.size + 1 + 1 + 1 + 1;omega) _⟩)
  clear q6 g6 HB1 HS1 KK HSZ
  generalize w1.setCell ⟨w.heap.size + 1 + 1 + 1 + 1,0,none⟩ (.int .i64 0) = W at *
  have y6 : W.cell? ⟨w.heap.size + 1 + 1 + 1 + 1,0,none⟩ = some (.int .i64 0):=(blk_cell HZ.out.1.2.2.2 0).trans rfl
  have y0 : W.cell? ⟨w.heap.size + 1,0,none⟩ = some (.int .i64 k):=(blk_cell HZ.out.2.2 0).trans rfl
  go_upto_region 5 with (go_at_call 14;refine(within.calls _ _ _ _).mono ?_;rw [HKD.out];rintro e w' ⟨rfl,hw'⟩;have hw':=hw'.symm;subst hw')
  have G1:=Aside0.mk (GZ.s1 HZ.out.1 (by omega) (by omega))
  have HB:=Aside0.mk HZ.out.2.1
  clear y6 y0
  go_wp2_with ((with_reducible refine gate_ (.store 29 (.tmp 4) (.tmp 18)) rfl ?_);refine wpList_store_row rfl 29 (.tmp 4) (.tmp 18) rfl (w.heap.size + 1 + 1) #[.int .i64 0,.int .i64 0,.int .i64 0,.int .i64 0,.int .i64 0,.slice none 0 0,.int .i64 0,.slice none 0 0,.slice none 0 0,.bool false,.slice none 0 0,.int .i64 0,.int .i64 0,.slice none 0 0] rfl rfl 29 _ HZ.out.1.2.1 (by kernel_rfl) rfl (by kernel_rfl) ?_;clear HZ;generalize W.setRow (w.heap.size + 1 + 1) #[.int .i64 0,.int .i64 0,.int .i64 0,.int .i64 0,.int .i64 0,.slice none 0 0,.int .i64 0,.slice none 0 0,.slice none 0 0,.bool false,.slice none 0 0,.int .i64 0,.int .i64 0,.slice none 0 0] = W2 at *;have y5 : W2.cell? ⟨w.heap.size + 1 + 1 + 1,0,none⟩ = some (.slice none 0 0):=(blk_cell G1.out.2.2.1 0).trans rfl;have f5:=blk_frozen G1.out.2.2.1 0;have G2:=Aside0.mk (G1.out.s2 (by omega) (by omega));have y6 : (W2.setCell ⟨w.heap.size + 1 + 1 + 1,0,none⟩ (.slice none 0 0)).cell? ⟨w.heap.size + 1 + 1 + 1 + 1,0,none⟩ = some (.int .i64 0):=(blk_cell G2.out.2.2.2 0).trans rfl;have f6:=blk_frozen G2.out.2.2.2 0;have g6 : W2.cell? ⟨w.heap.size + 1 + 1 + 1 + 1,0,none⟩ = some (.int .i64 0):=(blk_cell G1.out.2.2.2 0).trans rfl;have ff6:=blk_frozen G1.out.2.2.2 0)
  have hG:=G2.out.s3 (z:=22) (by omega) (by omega)
  obtain ⟨hkx,q4,q5,q6⟩:=hG
  have hres:=fun t h4 h5 h6=>step_results (tmps:=t) _ _ _ _ _ 22 h4 h5 h6 q4 rfl q5 q6
  have hB:=Below.keeps HB.out hkx HB.out.size (fun k hk2=>by rcases hk2 with h|h|h <;> omega)
  exact⟨_,hres _ rfl rfl rfl,hB,rfl⟩
end Go.Proofs.Ytojjnifbnppliaa.T
end
