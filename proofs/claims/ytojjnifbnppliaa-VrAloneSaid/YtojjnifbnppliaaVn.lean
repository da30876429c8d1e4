/- What Check says, told; Step at a request, at an answer. -/
import Derived.Test.YtojjnifbnppliaaVm
namespace Go.Proofs.Ytojjnifbnppliaa.T
open Go.RowKit Go.Proofs.YtojjnifbnppliaaW.PrintWords Go.Proofs.YtojjnifbnppliaaW.PrintLast Go.Proofs.YtojjnifbnppliaaW.PrintMore
attribute [local go_sem] max2_int min2_int max_two min_two max_three min_three max_four min_four
set_option linter.unusedVariables false
set_option linter.unusedSimpArgs false
structure Chk (s : St) : Prop where
  n : 1 ≤ s.n ∧ s.n ≤ 9
  id : 0 ≤ s.id ∧ s.id ≤ s.n - 1
  view : 0 ≤ s.view ∧ s.view ≤ 1099511627776
  last : 0 ≤ s.last ∧ s.last ≤ s.view
  status : 0 ≤ s.status ∧ s.status ≤ 1
  normal : s.status = 1 ∨ s.last = s.view
  log : mayLogV s.log = true
  commit : 0 ≤ s.commit ∧ s.commit ≤ s.log.length
  elapsed : 0 ≤ s.elapsed ∧ s.elapsed ≤ 1073741824
  timeout : 0 ≤ s.timeout ∧ s.timeout ≤ 1073741824
  draws : (s.draws.length : Int) ≤ 4096
  sent : s.status = 1 ∨ s.sent = false
  mat : (s.mat.length : Int) = szM s.id s.n s.view s.status
  marks : (s.marks.length : Int) = szK s.id s.n s.view s.status
  bals : (s.bals.length : Int) = szB s.id s.n s.view s.status
  mats : ∀ x ∈ s.mat, badN x = false
  balls : ∀ b ∈ s.bals, mayNot b = false
theorem check_iff (s : St) : checkV s = true ↔ Chk s := by
  unfold checkV okA okB badC
  simp only [Bool.and_eq_true, Bool.or_eq_true, Bool.not_eq_true', Bool.or_eq_false_iff, decide_eq_true_eq, beq_iff_eq, bne_eq_false_iff_eq, wi_iff, List.any_eq_false, Bool.not_eq_true]
  constructor
  · rintro ⟨⟨h1, h2, h3, h4, h5, h6⟩, ⟨g1, g2, g3, g4, g5, g6⟩, k1, k2, k3, k4, k5⟩
    exact ⟨h1, h2, h3, h4, h5, h6, g1, g2, g3, g4, g5, g6, k1, k2, k3, k4, k5⟩
  · rintro ⟨h1, h2, h3, h4, h5, h6, g1, g2, g3, g4, g5, g6, k1, k2, k3, k4, k5⟩
    exact ⟨⟨h1, h2, h3, h4, h5, h6⟩, ⟨g1, g2, g3, g4, g5, g6⟩, k1, k2, k3, k4, k5⟩
section
variable {s : St} {n : Int}
theorem szM_le (h : 0 ≤ n ∧ n ≤ 9) (id view status : Int) : szM id n view status ≤ 9 := by unfold szM; split <;> omega
theorem szK_le (h : 0 ≤ n ∧ n ≤ 9) (id view status : Int) : szK id n view status ≤ 9 := by unfold szK; split; omega; split <;> omega
theorem szB_le (h : 0 ≤ n ∧ n ≤ 9) (id view status : Int) : szB id n view status ≤ 9 := by unfold szB; split; omega; split; split <;> omega; omega
theorem Chk.fits (h : Chk s) : Fits s := by
  obtain ⟨hl, hx⟩ := mayLogV_iff.1 h.log
  have hn : 0 ≤ s.n ∧ s.n ≤ 9 := ⟨by have := h.n.1; omega, h.n.2⟩
  have h1 := szM_le hn s.id s.view s.status
  have h2 := szK_le hn s.id s.view s.status
  have h3 := szB_le hn s.id s.view s.status
  have m := h.mat
  have k := h.marks
  have b := h.bals
  have d := h.draws
  refine ⟨by omega, by omega, by omega, by omega, by omega, fun x hx' => by have := hx x hx'; omega, fun q hq => ?_⟩
  have hb := h.balls q hq
  unfold mayNot mayV at hb
  split at hb
  · simp only [Bool.not_eq_false', Bool.and_eq_true] at hb
    obtain ⟨hl2, hx2⟩ := mayLogV_iff.1 hb.1
    exact ⟨by omega, fun x hx' => by have := hx2 x hx'; omega⟩
  · simp only [Bool.not_eq_false', Bool.and_eq_true, beq_iff_eq] at hb
    have h0 : q.f2.length = 0 := by have := hb.2.1; omega
    have h00 := List.eq_nil_of_length_eq_zero h0
    exact ⟨by rw [h0]; omega, fun x hx' => by rw [h00] at hx'; simp at hx'⟩
theorem Chk.okm (h : Chk s) : Okm s := ⟨h.n, ⟨h.id.1, by have := h.id.2; omega⟩, h.commit, (mayLogV_iff.1 h.log).1, fun hl => by rw [h.mat]; unfold szM; rw [if_pos hl]⟩
theorem Chk.bals_nil (h : Chk s) (hl : leadsV s.id s.n s.view s.status = true) : s.bals = [] := by
  have := h.bals
  unfold szB at this
  rw [if_pos hl] at this
  exact List.eq_nil_of_length_eq_zero (by omega)
end
theorem mex3 (w : World) : (Instr.index 64 mexs (.int .i64 3)).run Try.prog w = .ok (.func (.func 24) #[] #[]) w := by kernel_rfl
theorem mex2 (w : World) : (Instr.index 64 mexs (.int .i64 2)).run Try.prog w = .ok (.func (.func 23) #[] #[]) w := by kernel_rfl
theorem mex1 (w : World) : (Instr.index 64 mexs (.int .i64 1)).run Try.prog w = .ok (.func (.func 22) #[] #[]) w := by kernel_rfl
theorem mth2 (p : Value) (w : World) : (Instr.index 87 (mths p) (.int .i64 2)).run Try.prog w = .ok (.func (.func 48) #[p] #[]) w := by kernel_rfl
set_option maxHeartbeats 1000000 in
/-- A request. -/
theorem Step3.calls (s : St) (AL : Option Addr) (cL : Nat) (AM : Option Addr) (cM : Nat) (AK : Option Addr) (cK : Nat) (AB : Option Addr) (cB : Nat) (AD : Option Addr) (cD : Nat) (x : Ms) (AX : Option Addr) (cX : Nat) (A : Option Addr) (c : Nat) (data : List Int) (k : Int) (hk3 : k = 3) (w : World) (hr : Rd w s AL cL AM cM AK cK AB cB AD cD) (hc : Chk s) (hb : s.bals = []) (hd : Kd.C (Kd.int .u8) w A data.length data) :
    Calls Try.prog 8 #[.agg #[.int .i64 s.id, .int .i64 s.n, .int .i64 s.view, .int .i64 s.last, .int .i64 s.status, .slice AL s.log.length cL, .int .i64 s.commit, .slice AM s.mat.length cM, .slice AK s.marks.length cK, .bool s.sent, .slice AB s.bals.length cB, .int .i64 s.elapsed, .int .i64 s.timeout, .slice AD s.draws.length cD], .agg #[.int .i64 k, .int .i64 x.kind, .int .i64 x.fro, .int .i64 x.dst, .int .i64 x.view, .int .i64 x.last, .int .i64 x.prev, .slice AX x.log.length cX, .int .i64 x.commit, .int .i64 x.mat, .slice A data.length c]] w (StepRes w (reqE s data) (reqS s data) []) := by
  subst hk3
  exact Step_go.calls s (reqS s data) [] AL cL AM cM AK cK AB cB AD cD 3 x AX cX A c data 24 (reqE s data) w hr hc.fits ((check_iff s).2 hc) (by decide) (enters_of Try.func24 (by kernel_rfl) rfl) mex3 (fun w1 b gd P hB hM hP hg _ => request.calls b gd P s [] 3 x AX cX A c data w1 hM hP hg hc.okm (Kd.C_below hd hB) hb rfl)
set_option maxHeartbeats 1000000 in
/-- An answer that is taken. -/
theorem Step2p.calls (s : St) (AL : Option Addr) (cL : Nat) (AM : Option Addr) (cM : Nat) (AK : Option Addr) (cK : Nat) (AB : Option Addr) (cB : Nat) (AD : Option Addr) (cD : Nat) (x : Ms) (AX : Option Addr) (cX : Nat) (A : Option Addr) (c : Nat) (data : List Int) (k : Int) (hk2 : k = 2) (hx2 : x.kind = 2) (w : World) (hr : Rd w s AL cL AM cM AK cK AB cB AD cD) (hc : Chk s) (hx : MsgOk s.id s.n x) (hv : decide (x.view < s.view) = false) (hlog : Kd.C (Kd.slice 5 (Kd.int .u8)) w AX x.log.length x.log) :
    Calls Try.prog 8 #[.agg #[.int .i64 s.id, .int .i64 s.n, .int .i64 s.view, .int .i64 s.last, .int .i64 s.status, .slice AL s.log.length cL, .int .i64 s.commit, .slice AM s.mat.length cM, .slice AK s.marks.length cK, .bool s.sent, .slice AB s.bals.length cB, .int .i64 s.elapsed, .int .i64 s.timeout, .slice AD s.draws.length cD], .agg #[.int .i64 k, .int .i64 x.kind, .int .i64 x.fro, .int .i64 x.dst, .int .i64 x.view, .int .i64 x.last, .int .i64 x.prev, .slice AX x.log.length cX, .int .i64 x.commit, .int .i64 x.mat, .slice A data.length c]] w (StepRes w (prepE s x) (prepS s x) []) := by
  subst hk2
  refine Step_go.calls s (prepS s x) [] AL cL AM cM AK cK AB cB AD cD 2 x AX cX A c data 23 (prepE s x) w hr hc.fits ((check_iff s).2 hc) (by decide) (enters_of Try.func23 (by kernel_rfl) rfl) mex2 (fun w1 b gd P hB hM hP hg _ => ?_)
  have hM0 := hM
  obtain ⟨hgl, AL, cL, AM, cM, AK, cK, AB, cB, AD, cD, AO, cO, hbl, _⟩ := hM0
  have hn := hc.n
  refine hear_go.calls b _ s.id s.n s.view 48 (prepE s x) (fun w' => Keeps w1 w' (fun k => k = b ∨ P k)) (fun w' => Mac w' b gd P (prepS s x) []) 2 x AX cX A c data w1 hbl rfl rfl rfl hn hx hv (Kd.C_below hlog hB) (enters_of Try.func48 (by kernel_rfl) rfl) (fun w => by rw [hx2]; exact mth2 _ w) (fun w2 hB2 => ?_)
  have hf := hx.fro
  rw [wi_iff] at hf
  refine (onPrepared.calls b gd P s [] x AX cX w2 (hM.below hB2) (fun k hk => hP k (Nat.le_trans hB2.size hk)) hg hc.okm ⟨hf.1, by omega⟩).mono ?_
  rintro e w' ⟨h1, h2⟩
  exact ⟨(Keeps.of_belows hB2 _).trans h1, h2⟩
end Go.Proofs.Ytojjnifbnppliaa.T
