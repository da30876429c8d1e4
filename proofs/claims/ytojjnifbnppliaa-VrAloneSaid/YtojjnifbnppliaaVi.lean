/- What a request makes of the machine. -/
import Derived.Test.YtojjnifbnppliaaVh
import Derived.Test.YtojjnifbnppliaaVd
import Derived.Deep.DeepCutAuto
namespace Go.Proofs.Ytojjnifbnppliaa.T
open Go.RowKit Go.Proofs.YtojjnifbnppliaaW.PrintWords Go.Proofs.YtojjnifbnppliaaW.PrintLast Go.Proofs.YtojjnifbnppliaaW.PrintMore
attribute [local go_sem] max2_int min2_int max_two min_two max_three min_three max_four min_four
set_option linter.unusedVariables false
set_option linter.unusedSimpArgs false
section
variable {P : Program} {o : Oper} {a : Act} {Q : Exit → Act → World → Prop} {Kc : Act → World → Prop} {α : Type}
theorem gate_wp {b : Builtin} {xs : Array Operand} {ts : Array TypeId} {W : World} (_ho : o.op = .call { callee := .builtin b, args := xs, argTypes := ts }) (h : Oper.wp P o a W Kc Q) : Oper.wp P o a W Kc Q := h
theorem R_append_wp (d : Kd α) {w0 W : World} (base : Nat) (hgd : o.guard = none) (s x : Operand) (t e : TypeId) (z : Value) (bytes : Nat)
    (ho : o.op = .call { callee := .builtin .append, args := #[s, x], argTypes := #[t, t] })
    (ht : P.underlying t = some (.slice e)) (hinfo : (P.info? e).map (fun i => (i.zero, i.size, i.bytes)) = some (some z, d.sz, bytes)) (hz : z.cells.size = d.sz) (hs0 : 0 < d.sz) (hb0 : 0 < bytes)
    (v : Value) (xs : List α) (p : α) (cs : List Value) (ok okp : Nat → Prop) (hs : a.eval s = v) (hx : a.eval x = .slice (some ⟨W.heap.size, 0, none⟩) 1 1) (hp : d.M W base okp p cs) (hokp : ∀ k, okp k → ok k ∧ some k ≠ v.ownBlock) (hfresh : ∀ k, W.heap.size ≤ k → ok k)
    (HO : d.R e W base ok v xs) (HB : Below base w0 W) (hbase : base ≤ W.heap.size) (hl : (xs.length + 1) * bytes ≤ 140737488355328)
    (h : ∀ v1 w1, d.R e w1 base ok v1 (xs ++ [p]) → Below base w0 w1 → W.grownBy w1 v.ownBlock → (v1.ownBlock = v.ownBlock ∨ ∃ b, v1.ownBlock = some b ∧ W.heap.size ≤ b) → Kc (a.put o.dst v1) w1) : Oper.wp P o a (W.alloc (.cells cs.toArray e)) Kc Q := by
  have hw : Region.wanted o (yielded (#[] : Array Oper) a.tmps) = true := by unfold Region.wanted; rw [hgd]
  have := Kd.R_append_step (ops := #[]) (Q := Q) (Kc := Kc) d base hw s x t e z bytes ho ht hinfo hz hs0 hb0 v xs p cs ok okp hs hx hp hokp hfresh HO HB hbase hl h
  rwa [if_pos hw] at this
end
/-- What is known of a machine that was told. -/
structure Okm (s : St) : Prop where
  n : 1 ≤ s.n ∧ s.n ≤ 9
  id : 0 ≤ s.id ∧ s.id < s.n
  commit : 0 ≤ s.commit ∧ s.commit ≤ s.log.length
  log : s.log.length ≤ 512
  mat : leadsV s.id s.n s.view s.status = true → (s.mat.length : Int) = s.n
def reqS (s : St) (data : List Int) : St := { s with log := s.log ++ [data], mat := s.mat.set s.id.toNat (s.log.length + 1), commit := agreeV s.n (s.mat.set s.id.toNat (s.log.length + 1)) (s.log.length + 1) s.commit }
def reqE (s : St) (data : List Int) : Option Int := if leadsV s.id s.n s.view s.status = true then (if (data.length : Int) > 256 then some 5 else if (s.log.length : Int) ≥ 512 then some 51 else none) else some 9
def Ends (r : Option Int) (e : Ending) (ok : Prop) : Prop := match r with
  | some x => e = .panicked [{ v := .iface 30 (.int .i64 x), recovered := false }]
  | none => e = .returned (.tuple #[]) ∧ ok
/-- call; literal; append; store, in a region that draws its order. -/
def RQ (W : World) (E Mid : Value → World → Prop) (Fin : World → Prop) (t : TypeId) (i8 i9 i10 i14 n34 n35 n36 : Nat) (l : Nat → Bool) (u : Nat → Value) (wx : World) : Prop :=
  (l i10 = false → Below W.heap.size W wx) ∧ (l i8 = true → l i9 = false → E (u n34) wx) ∧ (l i9 = true → l i10 = false → ∃ W' : World, wx = W'.alloc (.cells #[u n34] t) ∧ Below W.heap.size W W' ∧ E (u n34) W' ∧ u n35 = .slice (some ⟨W'.heap.size, 0, none⟩) 1 1) ∧ (l i10 = true → l i14 = false → Mid (u n36) wx) ∧ (l i14 = true → Fin wx)
section
variable {W : World} {E Mid : Value → World → Prop} {Fin : World → Prop} {t : TypeId} {i8 i9 i10 i14 n34 n35 n36 : Nat} {l : Nat → Bool} {u : Nat → Value} {wx : World}
theorem or_ne {l : Nat → Bool} {i m : Nat} (h : m ≠ i) : (l m || m == i) = l m := by simp [h]
theorem or_at {l : Nat → Bool} {i : Nat} : (l i || i == i) = true := by simp
theorem RQ.upd {i n : Nat} {v : Value} (h1 : i8 ≠ i) (h2 : i9 ≠ i) (h3 : i10 ≠ i) (h4 : i14 ≠ i) (m1 : n34 ≠ n) (m2 : n35 ≠ n) (m3 : n36 ≠ n) (h : RQ W E Mid Fin t i8 i9 i10 i14 n34 n35 n36 l u wx) : RQ W E Mid Fin t i8 i9 i10 i14 n34 n35 n36 (fun j => l j || j == i) (T.upd u n v) wx := by
  unfold RQ at h ⊢
  simp only [or_ne h1, or_ne h2, or_ne h3, or_ne h4, upd_ne m1, upd_ne m2, upd_ne m3]
  exact h
/-- The call. -/
theorem RQ.call {v : Value} {w2 : World} (h2 : i9 ≠ i8) (h3 : i10 ≠ i8) (h4 : i14 ≠ i8) (hl9 : l i9 = false) (hl10 : l i10 = false) (hl14 : l i14 = false) (hb : Below W.heap.size W w2) (he : E v w2) : RQ W E Mid Fin t i8 i9 i10 i14 n34 n35 n36 (fun j => l j || j == i8) (T.upd u n34 v) w2 := by
  unfold RQ
  simp only [or_ne h2, or_ne h3, or_ne h4, or_at, upd_at]
  exact ⟨fun _ => hb, fun _ _ => he, fun h => absurd (hl9.symm.trans h) (by simp), fun h => absurd (hl10.symm.trans h) (by simp), fun h => absurd (hl14.symm.trans h) (by simp)⟩
/-- The literal. -/
theorem RQ.lit (m1 : n34 ≠ n35) (h3 : i10 ≠ i9) (h4 : i14 ≠ i9) (hl10 : l i10 = false) (hl14 : l i14 = false) (hb : Below W.heap.size W wx) (he : E (u n34) wx) : RQ W E Mid Fin t i8 i9 i10 i14 n34 n35 n36 (fun j => l j || j == i9) (T.upd u n35 (.slice (some ⟨wx.heap.size, 0, none⟩) 1 1)) (wx.alloc (.cells #[u n34] t)) := by
  unfold RQ
  simp only [or_ne h3, or_ne h4, or_at, upd_at, upd_ne m1]
  exact ⟨fun _ => below_alloc hb _, fun _ h => absurd h (by simp), fun _ _ => ⟨wx, rfl, hb, he, rfl⟩, fun h => absurd (hl10.symm.trans h) (by simp), fun h => absurd (hl14.symm.trans h) (by simp)⟩
/-- The append. -/
theorem RQ.app {v : Value} {w3 : World} (h4 : i14 ≠ i10) (hl14 : l i14 = false) (hl9 : l i9 = true) (h5 : i9 ≠ i10) (hm : Mid v w3) : RQ W E Mid Fin t i8 i9 i10 i14 n34 n35 n36 (fun j => l j || j == i10) (T.upd u n36 v) w3 := by
  unfold RQ
  simp only [or_ne h4, or_ne h5, or_at, upd_at]
  exact ⟨fun h => absurd h (by simp), fun _ h => absurd (hl9.symm.trans h) (by simp), fun _ h => absurd h (by simp), fun _ _ => hm, fun h => absurd (hl14.symm.trans h) (by simp)⟩
/-- The store. -/
theorem RQ.store {w4 : World} (h4 : i10 ≠ i14) (h5 : i9 ≠ i14) (hl10 : l i10 = true) (hl9 : l i9 = true) (hf : Fin w4) : RQ W E Mid Fin t i8 i9 i10 i14 n34 n35 n36 (fun j => l j || j == i14) u w4 := by
  unfold RQ
  simp only [or_ne h4, or_ne h5, or_at]
  exact ⟨fun h => absurd (hl10.symm.trans h) (by simp), fun _ h => absurd (hl9.symm.trans h) (by simp), fun _ h => absurd (hl10.symm.trans h) (by simp), fun _ h => absurd h (by simp), fun _ => hf⟩
end
theorem R_over0 {α : Type} {d : Kd α} {e base : Nat} {ok : Nat → Prop} {W w1 : World} {v : Value} {xs : List α} {row : Option Nat} (hx : xs = []) (h : d.R e W base ok v xs) (hne : ∀ k, v.ownBlock = some k → some k ≠ row) (hg : W.grownBy w1 row) : d.R e w1 base ok v xs := by
  subst hx
  obtain ⟨h0, inner, ho, hr⟩ := h
  exact ⟨h0, inner, own_move ho (fun k hk => hg.block k (own_lt ho k hk) (hne k hk)), hr.1, fun j p hj => by simp at hj⟩
def rqF (b k0 : Nat) (vL vd : Value) (i : Nat) (u : Nat → Value) : Prop := match i with
  | 0 => u 26 = .pointer (some ⟨b, 0, none⟩)
  | 1 => u 27 = .pointer (some ⟨b, 0, none⟩)
  | 2 => u 28 = .pointer (some ⟨b, 0, none⟩)
  | 3 => u 29 = .pointer (some ⟨b, 0, none⟩)
  | 4 => u 30 = .pointer (some ⟨b, 5, none⟩)
  | 5 => u 31 = vL
  | 6 => u 32 = .pointer (some ⟨k0, 10, none⟩)
  | 7 => u 33 = vd
  | 11 => u 37 = .pointer (some ⟨b, 0, none⟩)
  | 12 => u 38 = .pointer (some ⟨b, 0, none⟩)
  | 13 => u 39 = .pointer (some ⟨b, 5, none⟩)
  | _ => True
theorem rqF.upd {b k0 : Nat} {vL vd : Value} {i : Nat} {u u' : Nat → Value} (hu : ∀ n, [26, 27, 28, 29, 30, 31, 32, 33, 34, 35, 36, 37, 38, 39, 99][i]? = some n → u' n = u n) (h : rqF b k0 vL vd i u) : rqF b k0 vL vd i u' := by
  rcases i with _ | _ | _ | _ | _ | _ | _ | _ | _ | _ | _ | _ | _ | _ | i
  · show u' 26 = _; rw [hu 26 rfl]; exact h
  · show u' 27 = _; rw [hu 27 rfl]; exact h
  · show u' 28 = _; rw [hu 28 rfl]; exact h
  · show u' 29 = _; rw [hu 29 rfl]; exact h
  · show u' 30 = _; rw [hu 30 rfl]; exact h
  · show u' 31 = _; rw [hu 31 rfl]; exact h
  · show u' 32 = _; rw [hu 32 rfl]; exact h
  · show u' 33 = _; rw [hu 33 rfl]; exact h
  · trivial
  · trivial
  · trivial
  · show u' 37 = _; rw [hu 37 rfl]; exact h
  · show u' 38 = _; rw [hu 38 rfl]; exact h
  · show u' 39 = _; rw [hu 39 rfl]; exact h
  · trivial
set_option maxHeartbeats 8000000 in
set_option maxRecDepth 100000 in
theorem request.calls (b gd : Nat) (P : Nat → Prop) (s : St) (out : List Ms) (k : Int) (x : Ms) (AX : Option Addr) (cX : Nat) (A : Option Addr) (c : Nat) (data : List Int) (w : World) (hM : Mac w b gd P s out) (hP : ∀ k, w.heap.size ≤ k → P k) (hg : ¬ P gd ∧ gd ≠ b) (hk : Okm s) (hd : Kd.C (Kd.int .u8) w A data.length data) (hbals : s.bals = []) (hout : out = []) :
    Calls Try.prog 24 #[.pointer (some ⟨b, 0, none⟩), .agg #[.int .i64 k, .int .i64 x.kind, .int .i64 x.fro, .int .i64 x.dst, .int .i64 x.view, .int .i64 x.last, .int .i64 x.prev, .slice AX x.log.length cX, .int .i64 x.commit, .int .i64 x.mat, .slice A data.length c]] w fun e w' => Keeps w w' (fun k => k = b ∨ P k) ∧ Ends (reqE s data) e (Mac w' b gd P (reqS s data) out) := by
  obtain ⟨hgl, AL, cL, AM, cM, AK, cK, AB, cB, AD, cD, AO, cO, hb, h1, h2, h3, h4, h5, h6, h7⟩ := hM
  have hu := Try.underlying39
  have hu61 := Try.underlying61
  have hu29 := Try.underlying29
  have hu25 := Try.underlying25
  have hu23 := Try.underlying23
  have hlb : b < w.heap.size := blk_lt hb
  have hn0 : s.n ≠ 0 := by have := hk.n; omega
  have HK := Aside0.mk (blk_alloc hb (.cells #[.int .i64 k, .int .i64 x.kind, .int .i64 x.fro, .int .i64 x.dst, .int .i64 x.view, .int .i64 x.last, .int .i64 x.prev, .slice AX x.log.length cX, .int .i64 x.commit, .int .i64 x.mat, .slice A data.length c] 39))
  have HQ := Aside0.mk (And.intro hP (And.intro hg (And.intro hgl (And.intro hlb hk))))
  have HD := Aside0.mk hd
  have HKP := Aside0.mk (Keeps.alloc (Keeps.refl w (fun k => k = b ∨ P k)) (.cells #[.int .i64 k, .int .i64 x.kind, .int .i64 x.fro, .int .i64 x.dst, .int .i64 x.view, .int .i64 x.last, .int .i64 x.prev, .slice AX x.log.length cX, .int .i64 x.commit, .int .i64 x.mat, .slice A data.length c] 39))
  have HE := Aside0.mk (And.intro hbals hout)
  have HR := Aside0.mk (And.intro h1 (And.intro h2 (And.intro h3 (And.intro h4 (And.intro h5 (And.intro h6 h7))))))
  clear h1 h2 h3 h4 h5 h6 h7 hP hg hgl hk hd hbals hout
  have x0 : (w.alloc (.cells #[.int .i64 k, .int .i64 x.kind, .int .i64 x.fro, .int .i64 x.dst, .int .i64 x.view, .int .i64 x.last, .int .i64 x.prev, .slice AX x.log.length cX, .int .i64 x.commit, .int .i64 x.mat, .slice A data.length c] 39)).cell? ⟨b, 0, none⟩ = some (.int .i64 s.id) := (blk_cell HK.out 0).trans rfl
  have x1 : (w.alloc (.cells #[.int .i64 k, .int .i64 x.kind, .int .i64 x.fro, .int .i64 x.dst, .int .i64 x.view, .int .i64 x.last, .int .i64 x.prev, .slice AX x.log.length cX, .int .i64 x.commit, .int .i64 x.mat, .slice A data.length c] 39)).cell? ⟨b, 1, none⟩ = some (.int .i64 s.n) := (blk_cell HK.out 1).trans rfl
  have x2 : (w.alloc (.cells #[.int .i64 k, .int .i64 x.kind, .int .i64 x.fro, .int .i64 x.dst, .int .i64 x.view, .int .i64 x.last, .int .i64 x.prev, .slice AX x.log.length cX, .int .i64 x.commit, .int .i64 x.mat, .slice A data.length c] 39)).cell? ⟨b, 2, none⟩ = some (.int .i64 s.view) := (blk_cell HK.out 2).trans rfl
  have x4 : (w.alloc (.cells #[.int .i64 k, .int .i64 x.kind, .int .i64 x.fro, .int .i64 x.dst, .int .i64 x.view, .int .i64 x.last, .int .i64 x.prev, .slice AX x.log.length cX, .int .i64 x.commit, .int .i64 x.mat, .slice A data.length c] 39)).cell? ⟨b, 4, none⟩ = some (.int .i64 s.status) := (blk_cell HK.out 4).trans rfl
  have x5 : (w.alloc (.cells #[.int .i64 k, .int .i64 x.kind, .int .i64 x.fro, .int .i64 x.dst, .int .i64 x.view, .int .i64 x.last, .int .i64 x.prev, .slice AX x.log.length cX, .int .i64 x.commit, .int .i64 x.mat, .slice A data.length c] 39)).cell? ⟨b, 5, none⟩ = some (.slice AL s.log.length cL) := (blk_cell HK.out 5).trans rfl
  have x7 : (w.alloc (.cells #[.int .i64 k, .int .i64 x.kind, .int .i64 x.fro, .int .i64 x.dst, .int .i64 x.view, .int .i64 x.last, .int .i64 x.prev, .slice AX x.log.length cX, .int .i64 x.commit, .int .i64 x.mat, .slice A data.length c] 39)).cell? ⟨b, 7, none⟩ = some (.slice AM s.mat.length cM) := (blk_cell HK.out 7).trans rfl
  clear hb hlb
  cases hl : leadsV s.id s.n s.view s.status with
  | false =>
    have e : reqE s data = some 9 := by unfold reqE; rw [hl, if_neg (by simp)]
    rw [e]
    clear e
    go_enter Try.func24, Try.ntmps24
    go_wp2_with (first | (go_at_call 16; refine (leads.calls b s.id s.n s.view s.status hn0 _ x0 x1 x2 x4).mono ?_; rw [hl]; rintro e w' ⟨rfl, ⟨m, rfl⟩⟩; replace HKP := Aside0.mk (HKP.out.drewN m)) | (go_at_call_of 44 (Value.bool true); refine (fail_bad.calls _ _ _).mono ?_; rintro e w' ⟨rfl, rfl⟩))
    exact ⟨rfl, HKP.out, rfl⟩
  | true =>
    by_cases hd1 : (data.length : Int) > 256
    · have d1 : decide (256 < (data.length : Int)) = true := decide_eq_true hd1
      have d2 : decide (256 < data.length) = true := decide_eq_true (by omega)
      have e : reqE s data = some 5 := by unfold reqE; rw [hl, if_pos rfl, if_pos hd1]
      rw [e]
      clear e hd1
      go_enter Try.func24, Try.ntmps24
      go_wp2_with (first | (go_at_call 16; refine (leads.calls b s.id s.n s.view s.status hn0 _ x0 x1 x2 x4).mono ?_; rw [hl]; rintro e w' ⟨rfl, ⟨m, rfl⟩⟩; replace HKP := Aside0.mk (HKP.out.drewN m)) | (go_at_call_of 44 (Value.bool false); refine (fail_ok.calls _ _ _).mono ?_; rintro e w' ⟨rfl, rfl⟩) | (go_at_call_of 44 (Value.bool true); refine (fail_bad.calls _ _ _).mono ?_; rintro e w' ⟨rfl, rfl⟩))
      exact ⟨rfl, HKP.out, rfl⟩
    · have d1 : decide (256 < (data.length : Int)) = false := decide_eq_false hd1
      have d2 : decide (256 < data.length) = false := decide_eq_false (by omega)
      by_cases hd3 : (s.log.length : Int) ≥ 512
      · have d3 : decide (512 ≤ (s.log.length : Int)) = true := decide_eq_true hd3
        have d4 : decide (512 ≤ s.log.length) = true := decide_eq_true (by omega)
        have e : reqE s data = some 51 := by unfold reqE; rw [hl, if_pos rfl, if_neg hd1, if_pos hd3]
        rw [e]
        clear e hd1 hd3
        go_enter Try.func24, Try.ntmps24
        go_wp2_with (first | (go_at_call 16; refine (leads.calls b s.id s.n s.view s.status hn0 _ x0 x1 x2 x4).mono ?_; rw [hl]; rintro e w' ⟨rfl, ⟨m, rfl⟩⟩; replace HKP := Aside0.mk (HKP.out.drewN m)) | (go_at_call_of 44 (Value.bool false); refine (fail_ok.calls _ _ _).mono ?_; rintro e w' ⟨rfl, rfl⟩) | (go_at_call_of 44 (Value.bool true); refine (fail_bad.calls _ _ _).mono ?_; rintro e w' ⟨rfl, rfl⟩))
        exact ⟨rfl, HKP.out, rfl⟩
      · have d3 : decide (512 ≤ (s.log.length : Int)) = false := decide_eq_false hd3
        have d4 : decide (512 ≤ s.log.length) = false := decide_eq_false (by omega)
        have e : reqE s data = none := by unfold reqE; rw [hl, if_pos rfl, if_neg hd1, if_neg hd3]
        rw [e]
        have HLL := Aside0.mk (And.intro (show s.log.length < 512 by omega) (And.intro (show data.length ≤ 256 by omega) hl))
        clear e hd1 hd3 x7
        go_enter Try.func24, Try.ntmps24
        go_upto_region 4 with (first | (go_at_call 16; refine (leads.calls b s.id s.n s.view s.status hn0 _ x0 x1 x2 x4).mono ?_; rw [hl]; rintro e w' ⟨rfl, ⟨m, rfl⟩⟩; replace HKP := Aside0.mk (HKP.out.drewN m)) | (go_at_call_of 44 (Value.bool false); refine (fail_ok.calls _ _ _).mono ?_; rintro e w' ⟨rfl, rfl⟩))
        have HB1 : Below w.heap.size w ((w.alloc (.cells #[.int .i64 k, .int .i64 x.kind, .int .i64 x.fro, .int .i64 x.dst, .int .i64 x.view, .int .i64 x.last, .int .i64 x.prev, .slice AX x.log.length cX, .int .i64 x.commit, .int .i64 x.mat, .slice A data.length c] 39)).drewN m) := pw_below_drewN (below_alloc (Below.refl _ _) _) m
        have KB : ((w.alloc (.cells #[.int .i64 k, .int .i64 x.kind, .int .i64 x.fro, .int .i64 x.dst, .int .i64 x.view, .int .i64 x.last, .int .i64 x.prev, .slice AX x.log.length cX, .int .i64 x.commit, .int .i64 x.mat, .slice A data.length c] 39)).drewN m).heap[w.heap.size]? = some (.cells #[.int .i64 k, .int .i64 x.kind, .int .i64 x.fro, .int .i64 x.dst, .int .i64 x.view, .int .i64 x.last, .int .i64 x.prev, .slice AX x.log.length cX, .int .i64 x.commit, .int .i64 x.mat, .slice A data.length c] 39 (0, 0)) := heap_alloc_new w _
        have hsz : ((w.alloc (.cells #[.int .i64 k, .int .i64 x.kind, .int .i64 x.fro, .int .i64 x.dst, .int .i64 x.view, .int .i64 x.last, .int .i64 x.prev, .slice AX x.log.length cX, .int .i64 x.commit, .int .i64 x.mat, .slice A data.length c] 39)).drewN m).heap.size = w.heap.size + 1 := by simp
        have HK1 : ((w.alloc (.cells #[.int .i64 k, .int .i64 x.kind, .int .i64 x.fro, .int .i64 x.dst, .int .i64 x.view, .int .i64 x.last, .int .i64 x.prev, .slice AX x.log.length cX, .int .i64 x.commit, .int .i64 x.mat, .slice A data.length c] 39)).drewN m).heap[b]? = some (.cells #[.int .i64 s.id, .int .i64 s.n, .int .i64 s.view, .int .i64 s.last, .int .i64 s.status, .slice AL s.log.length cL, .int .i64 s.commit, .slice AM s.mat.length cM, .slice AK s.marks.length cK, .bool s.sent, .slice AB s.bals.length cB, .int .i64 s.elapsed, .int .i64 s.timeout, .slice AD s.draws.length cD, .slice AO out.length cO] 61 (0, 0)) := HK.out
        generalize ((w.alloc (.cells #[.int .i64 k, .int .i64 x.kind, .int .i64 x.fro, .int .i64 x.dst, .int .i64 x.view, .int .i64 x.last, .int .i64 x.prev, .slice AX x.log.length cX, .int .i64 x.commit, .int .i64 x.mat, .slice A data.length c] 39)).drewN m) = W at *
        have HKP1 := HKP
        have x5 : W.cell? ⟨b, 5, none⟩ = some (.slice AL s.log.length cL) := (blk_cell HK1 5).trans rfl
        have xd : W.cell? ⟨w.heap.size, 10, none⟩ = some (.slice A data.length c) := (blk_cell KB 10).trans rfl
        have HB2 := Aside0.mk (And.intro HB1 (And.intro HK1 hsz))
        have HDW := Aside0.mk (Kd.C_below HD.out HB1)
        clear HB1 KB HK1 hsz x0 x1 x2 x4
        go_cut [3] (fun s3 wx => Aside0 (Mac wx b gd P { s with log := s.log ++ [data] } out ∧ Keeps w wx (fun k => k = b ∨ P k)))
        case first => as_aux_lemma =>
          obtain ⟨hB1, hK1, hsz⟩ := HB2.out
          refine region_invL (fun u => ⟨#[.pointer (some ⟨b, 0, none⟩), .agg #[.int .i64 k, .int .i64 x.kind, .int .i64 x.fro, .int .i64 x.dst, .int .i64 x.view, .int .i64 x.last, .int .i64 x.prev, .slice AX x.log.length cX, .int .i64 x.commit, .int .i64 x.mat, .slice A data.length c], undef, .pointer (some ⟨w.heap.size, 0, none⟩), .pointer (some ⟨b, 0, none⟩), .pointer (some ⟨b, 0, none⟩), .pointer (some ⟨b, 0, none⟩), .pointer (some ⟨b, 0, none⟩), .bool true, .bool false, .tuple #[], .pointer (some ⟨b, 0, none⟩), .pointer (some ⟨w.heap.size, 10, none⟩), .slice A data.length c, .int .i64 data.length, .bool false, .tuple #[], .pointer (some ⟨b, 0, none⟩), .pointer (some ⟨b, 0, none⟩), .pointer (some ⟨b, 0, none⟩), .pointer (some ⟨b, 0, none⟩), .pointer (some ⟨b, 5, none⟩), .slice AL s.log.length cL, .int .i64 s.log.length, .bool false, .tuple #[], u 26, u 27, u 28, u 29, u 30, u 31, u 32, u 33, u 34, u 35, u 36, u 37, u 38, u 39, undef, undef, undef, undef, undef, undef, undef, undef, undef, undef, undef, undef, undef, undef, undef, undef, undef, undef, undef], []⟩) (fun _ => undef) (RQ W (fun v w => ∃ (A2 : Option Addr) (c2 : Nat), v = .slice A2 data.length c2 ∧ (Kd.int .u8).R 5 w 0 (fun k => W.heap.size ≤ k) v data) (fun v w => ∃ (A2 : Option Addr) (c2 : Nat), v = .slice A2 (s.log ++ [data]).length c2 ∧ (Kd.slice 5 (Kd.int .u8)).R 22 w 0 P v (s.log ++ [data]) ∧ (Kd.int .i64).R 3 w 0 P (.slice AM s.mat.length cM) s.mat ∧ Kd.bool.R 4 w 0 P (.slice AK s.marks.length cK) s.marks ∧ k69.R 69 w 0 P (.slice AB s.bals.length cB) s.bals ∧ kMs.R 37 w 0 P (.slice AO out.length cO) out ∧ Kd.F (Kd.int .i64) w (fun k => k = gd) AD s.draws.length s.draws ∧ w.heap[b]? = some (.cells #[.int .i64 s.id, .int .i64 s.n, .int .i64 s.view, .int .i64 s.last, .int .i64 s.status, .slice AL s.log.length cL, .int .i64 s.commit, .slice AM s.mat.length cM, .slice AK s.marks.length cK, .bool s.sent, .slice AB s.bals.length cB, .int .i64 s.elapsed, .int .i64 s.timeout, .slice AD s.draws.length cD, .slice AO out.length cO] 61 (0, 0)) ∧ Keeps W w (fun k => k = b ∨ P k)) (fun w => Mac w b gd P { s with log := s.log ++ [data] } out ∧ Keeps W w (fun k => k = b ∨ P k)) 22 8 9 10 14 34 35 36) (fun i u _ => rqF b w.heap.size (.slice AL s.log.length cL) (.slice A data.length c) i u) rfl (by kernel_rfl) rfl ?g0 ?step ?done
          case g0 => exact ⟨fun _ => below_drew (Below.refl _ _), fun h => by simp at h, fun h => by simp at h, fun h => by simp at h, fun h => by simp at h⟩
          case step =>
            intro l u wx i o hx hG hF ho hl hn
            rcases i with _ | _ | _ | _ | _ | _ | _ | _ | _ | _ | _ | _ | _ | _ | _ | i
            · obtain rfl := Option.some.inj (show some _ = some o from ho)
              refine value_ (v := .pointer (some ⟨b, 0, none⟩)) rfl rfl (by go_simp; with_reducible rfl) ?_
              exact ⟨upd u 26 (.pointer (some ⟨b, 0, none⟩)), rfl, RQ.upd (by decide) (by decide) (by decide) (by decide) (by decide) (by decide) (by decide) hG, rfl, fun j hj hji hlj => rqF.upd (fun m hm => upd_ne (fun e => by subst e; exact hji ((by decide : ∀ j, j < 15 → ∀ i, i < 15 → ([26, 27, 28, 29, 30, 31, 32, 33, 34, 35, 36, 37, 38, 39, 99] : List Nat)[j]? = ([26, 27, 28, 29, 30, 31, 32, 33, 34, 35, 36, 37, 38, 39, 99] : List Nat)[i]? → j = i) j hj 0 (by decide) (hm.trans rfl)))) (hF j hj hlj)⟩
            · obtain rfl := Option.some.inj (show some _ = some o from ho)
              refine value_ (v := .pointer (some ⟨b, 0, none⟩)) rfl rfl (by go_simp; with_reducible rfl) ?_
              exact ⟨upd u 27 (.pointer (some ⟨b, 0, none⟩)), rfl, RQ.upd (by decide) (by decide) (by decide) (by decide) (by decide) (by decide) (by decide) hG, rfl, fun j hj hji hlj => rqF.upd (fun m hm => upd_ne (fun e => by subst e; exact hji ((by decide : ∀ j, j < 15 → ∀ i, i < 15 → ([26, 27, 28, 29, 30, 31, 32, 33, 34, 35, 36, 37, 38, 39, 99] : List Nat)[j]? = ([26, 27, 28, 29, 30, 31, 32, 33, 34, 35, 36, 37, 38, 39, 99] : List Nat)[i]? → j = i) j hj 1 (by decide) (hm.trans rfl)))) (hF j hj hlj)⟩
            · obtain rfl := Option.some.inj (show some _ = some o from ho)
              have e27 : u 27 = _ := hF 1 (by decide) (hn 1 (by decide))
              refine value_ (v := .pointer (some ⟨b, 0, none⟩)) rfl rfl (by go_simp; with_reducible rfl) ?_
              exact ⟨upd u 28 (.pointer (some ⟨b, 0, none⟩)), rfl, RQ.upd (by decide) (by decide) (by decide) (by decide) (by decide) (by decide) (by decide) hG, rfl, fun j hj hji hlj => rqF.upd (fun m hm => upd_ne (fun e => by subst e; exact hji ((by decide : ∀ j, j < 15 → ∀ i, i < 15 → ([26, 27, 28, 29, 30, 31, 32, 33, 34, 35, 36, 37, 38, 39, 99] : List Nat)[j]? = ([26, 27, 28, 29, 30, 31, 32, 33, 34, 35, 36, 37, 38, 39, 99] : List Nat)[i]? → j = i) j hj 2 (by decide) (hm.trans rfl)))) (hF j hj hlj)⟩
            · obtain rfl := Option.some.inj (show some _ = some o from ho)
              have e28 : u 28 = _ := hF 2 (by decide) (hn 2 (by decide))
              refine value_ (v := .pointer (some ⟨b, 0, none⟩)) rfl rfl (by go_simp; with_reducible rfl) ?_
              exact ⟨upd u 29 (.pointer (some ⟨b, 0, none⟩)), rfl, RQ.upd (by decide) (by decide) (by decide) (by decide) (by decide) (by decide) (by decide) hG, rfl, fun j hj hji hlj => rqF.upd (fun m hm => upd_ne (fun e => by subst e; exact hji ((by decide : ∀ j, j < 15 → ∀ i, i < 15 → ([26, 27, 28, 29, 30, 31, 32, 33, 34, 35, 36, 37, 38, 39, 99] : List Nat)[j]? = ([26, 27, 28, 29, 30, 31, 32, 33, 34, 35, 36, 37, 38, 39, 99] : List Nat)[i]? → j = i) j hj 3 (by decide) (hm.trans rfl)))) (hF j hj hlj)⟩
            · obtain rfl := Option.some.inj (show some _ = some o from ho)
              have e29 : u 29 = _ := hF 3 (by decide) (hn 3 (by decide))
              refine value_ (v := .pointer (some ⟨b, 5, none⟩)) rfl rfl (by go_simp; with_reducible rfl) ?_
              exact ⟨upd u 30 (.pointer (some ⟨b, 5, none⟩)), rfl, RQ.upd (by decide) (by decide) (by decide) (by decide) (by decide) (by decide) (by decide) hG, rfl, fun j hj hji hlj => rqF.upd (fun m hm => upd_ne (fun e => by subst e; exact hji ((by decide : ∀ j, j < 15 → ∀ i, i < 15 → ([26, 27, 28, 29, 30, 31, 32, 33, 34, 35, 36, 37, 38, 39, 99] : List Nat)[j]? = ([26, 27, 28, 29, 30, 31, 32, 33, 34, 35, 36, 37, 38, 39, 99] : List Nat)[i]? → j = i) j hj 4 (by decide) (hm.trans rfl)))) (hF j hj hlj)⟩
            · obtain rfl := Option.some.inj (show some _ = some o from ho)
              have e30 : u 30 = _ := hF 4 (by decide) (hn 4 (by decide))
              have hnb : l 10 = false := Bool.eq_false_iff.2 (fun h => nomatch (hx 10 _ rfl h 5 (by decide)).symm.trans hl)
              have y5 := ((hG.1 hnb).cell (World.block_lt_of_cell? _ _ x5)).trans x5
              refine value_ (v := .slice AL s.log.length cL) rfl rfl (by go_simp; with_reducible rfl) ?_
              exact ⟨upd u 31 (.slice AL s.log.length cL), rfl, RQ.upd (by decide) (by decide) (by decide) (by decide) (by decide) (by decide) (by decide) hG, rfl, fun j hj hji hlj => rqF.upd (fun m hm => upd_ne (fun e => by subst e; exact hji ((by decide : ∀ j, j < 15 → ∀ i, i < 15 → ([26, 27, 28, 29, 30, 31, 32, 33, 34, 35, 36, 37, 38, 39, 99] : List Nat)[j]? = ([26, 27, 28, 29, 30, 31, 32, 33, 34, 35, 36, 37, 38, 39, 99] : List Nat)[i]? → j = i) j hj 5 (by decide) (hm.trans rfl)))) (hF j hj hlj)⟩
            · obtain rfl := Option.some.inj (show some _ = some o from ho)
              refine value_ (v := .pointer (some ⟨w.heap.size, 10, none⟩)) rfl rfl (by go_simp; with_reducible rfl) ?_
              exact ⟨upd u 32 (.pointer (some ⟨w.heap.size, 10, none⟩)), rfl, RQ.upd (by decide) (by decide) (by decide) (by decide) (by decide) (by decide) (by decide) hG, rfl, fun j hj hji hlj => rqF.upd (fun m hm => upd_ne (fun e => by subst e; exact hji ((by decide : ∀ j, j < 15 → ∀ i, i < 15 → ([26, 27, 28, 29, 30, 31, 32, 33, 34, 35, 36, 37, 38, 39, 99] : List Nat)[j]? = ([26, 27, 28, 29, 30, 31, 32, 33, 34, 35, 36, 37, 38, 39, 99] : List Nat)[i]? → j = i) j hj 6 (by decide) (hm.trans rfl)))) (hF j hj hlj)⟩
            · obtain rfl := Option.some.inj (show some _ = some o from ho)
              have e32 : u 32 = _ := hF 6 (by decide) (hn 6 (by decide))
              have hnb : l 10 = false := Bool.eq_false_iff.2 (fun h => nomatch (hx 8 _ rfl (hx 9 _ rfl (hx 10 _ rfl h 9 (by decide)) 8 (by decide)) 7 (by decide)).symm.trans hl)
              have yd := ((hG.1 hnb).cell (World.block_lt_of_cell? _ _ xd)).trans xd
              refine value_ (v := .slice A data.length c) rfl rfl (by go_simp; with_reducible rfl) ?_
              exact ⟨upd u 33 (.slice A data.length c), rfl, RQ.upd (by decide) (by decide) (by decide) (by decide) (by decide) (by decide) (by decide) hG, rfl, fun j hj hji hlj => rqF.upd (fun m hm => upd_ne (fun e => by subst e; exact hji ((by decide : ∀ j, j < 15 → ∀ i, i < 15 → ([26, 27, 28, 29, 30, 31, 32, 33, 34, 35, 36, 37, 38, 39, 99] : List Nat)[j]? = ([26, 27, 28, 29, 30, 31, 32, 33, 34, 35, 36, 37, 38, 39, 99] : List Nat)[i]? → j = i) j hj 7 (by decide) (hm.trans rfl)))) (hF j hj hlj)⟩
            · obtain rfl := Option.some.inj (show some _ = some o from ho)
              have e33 : u 33 = _ := hF 7 (by decide) (hn 7 (by decide))
              have h9 : l 9 = false := Bool.eq_false_iff.2 (fun h => nomatch (hx 9 _ rfl h 8 (by decide)).symm.trans hl)
              have h10 : l 10 = false := Bool.eq_false_iff.2 (fun h => nomatch (hx 10 _ rfl h 9 (by decide)).symm.trans h9)
              have h14 : l 14 = false := Bool.eq_false_iff.2 (fun h => nomatch (hx 14 _ rfl h 10 (by decide)).symm.trans h10)
              have hBx := hG.1 h10
              refine goes_ Try.func54 (by kernel_rfl) rfl #[.slice A data.length c] rfl rfl rfl (by simp only [List.map_toArray, List.map_cons, List.map_nil, Act.eval]; rw [← e33]; rfl) ?_
              refine (bytes_Clone.calls A c data wx (Kd.C_below HDW.out hBx) (by have := HLL.out; omega)).mono ?_
              rintro e w2 ⟨v2, rfl, hR2, hb2⟩
              obtain ⟨A2, c2, rfl⟩ := Kd.R_slice hR2
              exact ⟨_, rfl, upd u 34 (.slice A2 data.length c2), rfl, RQ.call (by decide) (by decide) (by decide) h9 h10 h14 (hBx.trans (hb2.mono hBx.size)) ⟨A2, c2, rfl, Kd.R_lower (Kd.R_mono (Kd.R_bound hR2) (fun k hk => Nat.le_trans hBx.size hk.2.1)) (Nat.zero_le _)⟩, trivial, fun j hj hji hlj => rqF.upd (fun m hm => upd_ne (fun e => by subst e; exact hji ((by decide : ∀ j, j < 15 → ∀ i, i < 15 → ([26, 27, 28, 29, 30, 31, 32, 33, 34, 35, 36, 37, 38, 39, 99] : List Nat)[j]? = ([26, 27, 28, 29, 30, 31, 32, 33, 34, 35, 36, 37, 38, 39, 99] : List Nat)[i]? → j = i) j hj 8 (by decide) (hm.trans rfl)))) (hF j hj hlj)⟩
            · obtain rfl := Option.some.inj (show some _ = some o from ho)
              have h8 : l 8 = true := hn 8 (by decide)
              have h10 : l 10 = false := Bool.eq_false_iff.2 (fun h => nomatch (hx 10 _ rfl h 9 (by decide)).symm.trans hl)
              have h14 : l 14 = false := Bool.eq_false_iff.2 (fun h => nomatch (hx 14 _ rfl h 10 (by decide)).symm.trans h10)
              have hBx := hG.1 h10
              have hE := hG.2.1 h8 hl
              obtain ⟨A2, c2, e34, hR2⟩ := hE
              have hlit := RQ.lit (W := W) (E := (fun v w => ∃ (A2 : Option Addr) (c2 : Nat), v = .slice A2 data.length c2 ∧ (Kd.int .u8).R 5 w 0 (fun k => W.heap.size ≤ k) v data)) (Mid := (fun v w => ∃ (A2 : Option Addr) (c2 : Nat), v = .slice A2 (s.log ++ [data]).length c2 ∧ (Kd.slice 5 (Kd.int .u8)).R 22 w 0 P v (s.log ++ [data]) ∧ (Kd.int .i64).R 3 w 0 P (.slice AM s.mat.length cM) s.mat ∧ Kd.bool.R 4 w 0 P (.slice AK s.marks.length cK) s.marks ∧ k69.R 69 w 0 P (.slice AB s.bals.length cB) s.bals ∧ kMs.R 37 w 0 P (.slice AO out.length cO) out ∧ Kd.F (Kd.int .i64) w (fun k => k = gd) AD s.draws.length s.draws ∧ w.heap[b]? = some (.cells #[.int .i64 s.id, .int .i64 s.n, .int .i64 s.view, .int .i64 s.last, .int .i64 s.status, .slice AL s.log.length cL, .int .i64 s.commit, .slice AM s.mat.length cM, .slice AK s.marks.length cK, .bool s.sent, .slice AB s.bals.length cB, .int .i64 s.elapsed, .int .i64 s.timeout, .slice AD s.draws.length cD, .slice AO out.length cO] 61 (0, 0)) ∧ Keeps W w (fun k => k = b ∨ P k))) (Fin := (fun w => Mac w b gd P { s with log := s.log ++ [data] } out ∧ Keeps W w (fun k => k = b ∨ P k))) (t := 22) (i8 := 8) (i9 := 9) (i10 := 10) (i14 := 14) (n34 := 34) (n35 := 35) (n36 := 36) (l := l) (u := u) (wx := wx) (by decide) (by decide) (by decide) h10 h14 hBx ⟨A2, c2, e34, hR2⟩
              rw [e34] at hlit
              refine value_ (v := .slice (some ⟨wx.heap.size, 0, none⟩) 1 1) (w1 := wx.alloc (.cells #[.slice A2 data.length c2] 22)) rfl rfl (by first | (go_simp; done) | (go_simp; with_reducible rfl) | (go_simp; rfl)) ?_
              exact ⟨upd u 35 (.slice (some ⟨wx.heap.size, 0, none⟩) 1 1), rfl, hlit, trivial, fun j hj hji hlj => rqF.upd (fun m hm => upd_ne (fun e => by subst e; exact hji ((by decide : ∀ j, j < 15 → ∀ i, i < 15 → ([26, 27, 28, 29, 30, 31, 32, 33, 34, 35, 36, 37, 38, 39, 99] : List Nat)[j]? = ([26, 27, 28, 29, 30, 31, 32, 33, 34, 35, 36, 37, 38, 39, 99] : List Nat)[i]? → j = i) j hj 9 (by decide) (hm.trans rfl)))) (hF j hj hlj)⟩
            · obtain rfl := Option.some.inj (show some _ = some o from ho)
              have h9 : l 9 = true := hn 9 (by decide)
              have h14 : l 14 = false := Bool.eq_false_iff.2 (fun h => nomatch (hx 14 _ rfl h 10 (by decide)).symm.trans hl)
              have e31 : u 31 = _ := hF 5 (by decide) (hn 5 (by decide))
              obtain ⟨W', rfl, hBW, ⟨A2, c2, e34, hR2⟩, e35⟩ := hG.2.2.1 h9 hl
              rw [e34] at hR2
              obtain ⟨r1, r2, r3, r4, r5, r6, r7⟩ := HR.out
              have hzz := hB1.size
              have hB2 : Below w.heap.size w W' := hB1.trans (hBW.mono hzz)
              have hKb := blk_below hK1 hBW
              have q1 := Kd.R_below r1 hB2
              rw [show W'.alloc (.cells #[u 34] 22) = W'.alloc (.cells ([.slice A2 data.length c2] : List Value).toArray 22) from by rw [e34]]
              refine Kd.R_append_step (Kd.slice 5 (Kd.int .u8)) (w0 := W') 0 rfl (.tmp 31) (.tmp 35) 25 22 (.slice none 0 0) 24 rfl Try.underlying25 info22 rfl (by decide) (by omega) (.slice AL s.log.length cL) s.log data [.slice A2 data.length c2] P (fun k => W.heap.size ≤ k) e31 e35 ⟨_, rfl, hR2⟩ (fun k hk => ⟨HQ.out.1 k (by omega), fun e => by have h1 := Kd.R_lt r1 k e.symm; omega⟩) (fun k hk => HQ.out.1 k (by have := hBW.size; omega)) q1 (Below.refl _ _) (Nat.zero_le _) (by have := HLL.out; omega) ?_
              intro v1 w3 ho hb3 hg3 hat
              obtain ⟨A3, c3, rfl⟩ := Kd.R_slice ho
              have hown : ∀ k, (Value.slice AL s.log.length cL).ownBlock = some k → P k := r1.1
              have hgd : some gd ≠ (Value.slice AL s.log.length cL).ownBlock := fun e => HQ.out.2.1.1 (hown gd e.symm)
              have hty := Kd.R_typed q1
              have hnb' := Kd.R_ne q1 hKb (by decide)
              exact ⟨upd u 36 (.slice A3 (s.log ++ [data]).length c3), rfl, RQ.app (by decide) h14 h9 (by decide) ⟨A3, c3, rfl, ho, Kd.R_over' (Kd.R_below r2 hB2) hty (by decide) hg3, Kd.R_over' (Kd.R_below r3 hB2) hty (by decide) hg3, R_over0 HE.out.1 (Kd.R_below r4 hB2) (fun k hk e => by obtain ⟨c, hc⟩ := Kd.R_typed (Kd.R_below r4 hB2) k hk; obtain ⟨c', hc'⟩ := hty k e.symm; rw [hc] at hc'; exact absurd hc' (by simp)) hg3, R_over0 HE.out.2 (Kd.R_below r5 hB2) (fun k hk e => by obtain ⟨c, hc⟩ := Kd.R_typed (Kd.R_below r5 hB2) k hk; obtain ⟨c', hc'⟩ := hty k e.symm; rw [hc] at hc'; exact absurd hc' (by simp)) hg3, Kd.F_step r7 (fun k hk hl => by subst hk; exact (hg3.block k (Nat.lt_of_lt_of_le hl hB2.size) hgd).trans (hB2.block k hl)), blk_grown hKb hg3 hnb', (Keeps.of_belows hBW _).grown hg3 (fun k hk => .inl (.inr (hown k hk)))⟩, trivial, fun j hj hji hlj => rqF.upd (fun m hm => upd_ne (fun e => by subst e; exact hji ((by decide : ∀ j, j < 15 → ∀ i, i < 15 → ([26, 27, 28, 29, 30, 31, 32, 33, 34, 35, 36, 37, 38, 39, 99] : List Nat)[j]? = ([26, 27, 28, 29, 30, 31, 32, 33, 34, 35, 36, 37, 38, 39, 99] : List Nat)[i]? → j = i) j hj 10 (by decide) (hm.trans rfl)))) (hF j hj hlj)⟩
            · obtain rfl := Option.some.inj (show some _ = some o from ho)
              have e26 : u 26 = _ := hF 0 (by decide) (hn 0 (by decide))
              refine value_ (v := .pointer (some ⟨b, 0, none⟩)) rfl rfl (by go_simp; with_reducible rfl) ?_
              exact ⟨upd u 37 (.pointer (some ⟨b, 0, none⟩)), rfl, RQ.upd (by decide) (by decide) (by decide) (by decide) (by decide) (by decide) (by decide) hG, rfl, fun j hj hji hlj => rqF.upd (fun m hm => upd_ne (fun e => by subst e; exact hji ((by decide : ∀ j, j < 15 → ∀ i, i < 15 → ([26, 27, 28, 29, 30, 31, 32, 33, 34, 35, 36, 37, 38, 39, 99] : List Nat)[j]? = ([26, 27, 28, 29, 30, 31, 32, 33, 34, 35, 36, 37, 38, 39, 99] : List Nat)[i]? → j = i) j hj 11 (by decide) (hm.trans rfl)))) (hF j hj hlj)⟩
            · obtain rfl := Option.some.inj (show some _ = some o from ho)
              have e37 : u 37 = _ := hF 11 (by decide) (hn 11 (by decide))
              refine value_ (v := .pointer (some ⟨b, 0, none⟩)) rfl rfl (by go_simp; with_reducible rfl) ?_
              exact ⟨upd u 38 (.pointer (some ⟨b, 0, none⟩)), rfl, RQ.upd (by decide) (by decide) (by decide) (by decide) (by decide) (by decide) (by decide) hG, rfl, fun j hj hji hlj => rqF.upd (fun m hm => upd_ne (fun e => by subst e; exact hji ((by decide : ∀ j, j < 15 → ∀ i, i < 15 → ([26, 27, 28, 29, 30, 31, 32, 33, 34, 35, 36, 37, 38, 39, 99] : List Nat)[j]? = ([26, 27, 28, 29, 30, 31, 32, 33, 34, 35, 36, 37, 38, 39, 99] : List Nat)[i]? → j = i) j hj 12 (by decide) (hm.trans rfl)))) (hF j hj hlj)⟩
            · obtain rfl := Option.some.inj (show some _ = some o from ho)
              have e38 : u 38 = _ := hF 12 (by decide) (hn 12 (by decide))
              refine value_ (v := .pointer (some ⟨b, 5, none⟩)) rfl rfl (by go_simp; with_reducible rfl) ?_
              exact ⟨upd u 39 (.pointer (some ⟨b, 5, none⟩)), rfl, RQ.upd (by decide) (by decide) (by decide) (by decide) (by decide) (by decide) (by decide) hG, rfl, fun j hj hji hlj => rqF.upd (fun m hm => upd_ne (fun e => by subst e; exact hji ((by decide : ∀ j, j < 15 → ∀ i, i < 15 → ([26, 27, 28, 29, 30, 31, 32, 33, 34, 35, 36, 37, 38, 39, 99] : List Nat)[j]? = ([26, 27, 28, 29, 30, 31, 32, 33, 34, 35, 36, 37, 38, 39, 99] : List Nat)[i]? → j = i) j hj 13 (by decide) (hm.trans rfl)))) (hF j hj hlj)⟩
            · obtain rfl := Option.some.inj (show some _ = some o from ho)
              have h10 : l 10 = true := hn 10 (by decide)
              have h9 : l 9 = true := hx 10 _ rfl h10 9 (by decide)
              have e39 : u 39 = _ := hF 13 (by decide) (hn 13 (by decide))
              obtain ⟨A3, c3, e36, m1, m2, m3, m4, m5, m6, m7, m8⟩ := hG.2.2.2.1 h10 hl
              rw [e36] at m1
              have z0 : wx.cell? ⟨b, 5, none⟩ = some (.slice AL s.log.length cL) := (blk_cell m7 5).trans rfl
              have z1 := blk_frozen m7 5
              refine skip_ (w1 := wx.setCell ⟨b, 5, none⟩ (.slice A3 (s.log ++ [data]).length c3)) rfl rfl (by first | (go_simp; done) | (go_simp; with_reducible rfl)) ?_
              refine ⟨u, rfl, RQ.store (by decide) (by decide) h10 h9 ⟨⟨Nat.lt_of_lt_of_le (Nat.lt_of_lt_of_le HQ.out.2.2.1 (Nat.le_trans hB1.size m8.size)) (by simp), A3, c3, AM, cM, AK, cK, AB, cB, AD, cD, AO, cO, blk_put m7 5 (.slice A3 (s.log ++ [data]).length c3) rfl, Kd.R_set m1 m7 (by decide) 5 _, Kd.R_set m2 m7 (by decide) 5 _, Kd.R_set m3 m7 (by decide) 5 _, Kd.R_set m4 m7 (by decide) 5 _, Kd.R_set m5 m7 (by decide) 5 _, HR.out.2.2.2.2.2.1, Kd.F_step m6 (fun k hk _ => Below.heap_setCell wx _ _ k (by subst hk; exact HQ.out.2.1.2))⟩, m8.setCell (p := ⟨b, 5, none⟩) (.inl (.inl rfl)) _⟩, trivial, fun j hj hji hlj => hF j hj hlj⟩
            · exact absurd ho (by simp)
          case done =>
            intro l u wx hall hG hF
            have hfin := hG.2.2.2.2 (hall 14 (by decide))
            dsimp only
            go_wp2_with fail
            go_meet
            case rel => exact Aside0.mk ⟨hfin.1, HKP.out.trans hfin.2⟩
        case rest => as_aux_lemma =>
          obtain ⟨hM2, hKp⟩ := hcut.out
          clear hcut x5 xd
          obtain ⟨L2, hL2⟩ : ∃ L2, L2 = s.log ++ [data] := ⟨_, rfl⟩
          rw [← hL2] at hM2
          obtain ⟨hgl2, AL, cL, AM, cM, AK, cK, AB, cB, AD, cD, AO, cO, hb, h1, h2, h3, h4, h5, h6, h7⟩ := hM2
          dsimp only at hb h1 h2 h3 h4 h5 h6 h7
          have hk := HQ.out.2.2.2.2
          have hml : (s.mat.length : Int) = s.n := hk.mat HLL.out.2.2
          obtain ⟨g, cap, hv, _, hgl, hcells⟩ := Kd.R_form h2 (by have := hk.n; omega)
          have hv1 : AM = some ⟨g, 0, none⟩ := by injection hv
          subst hv1
          have y0 : wc.cell? ⟨b, 0, none⟩ = some (.int .i64 s.id) := (blk_cell hb 0).trans rfl
          have y5 : wc.cell? ⟨b, 5, none⟩ = some (.slice AL L2.length cL) := (blk_cell hb 5).trans rfl
          have y7 : wc.cell? ⟨b, 7, none⟩ = some (.slice (some ⟨g, 0, none⟩) s.mat.length cM) := (blk_cell hb 7).trans rfl
          have i0 : (0 ≤ s.id) = True := eq_true hk.id.1
          have i1 : (s.id < (s.mat.length : Int)) = True := eq_true (by have := hk.id.2; omega)
          have xg : wc.cell? ⟨g, s.id.toNat, none⟩ = some (.int .i64 (s.mat.getD s.id.toNat 0)) := by
            obtain ⟨c, hc, hM, hcell, _⟩ := Kd.R_elem h2 (0 : Int) s.id hk.id.1 (by have := hk.id.2; omega)
            have h0 : c = [.int .i64 (s.mat.getD s.id.toNat 0)] := hM
            have := hcell 0 _ (by rw [h0]; rfl)
            simpa [Kd.int, Kd.scalar, List.getD_eq_getElem?_getD] using this
          have fg := (by obtain ⟨_, _, _, _, hf⟩ := Kd.R_elem h2 (0 : Int) s.id hk.id.1 (by have := hk.id.2; omega); simpa [Kd.int, Kd.scalar] using hf 0 : wc.frozen? ⟨g, s.id.toNat, none⟩ = false)
          have hgb : g ≠ b := fun e => by obtain ⟨cells, hc⟩ := hcells; rw [e, hb] at hc; cases hc
          have hPg : P g := h2.1 g rfl
          have Z := Aside0.mk (And.intro hb (And.intro h1 (And.intro h2 (And.intro h3 (And.intro h4 (And.intro h5 (And.intro h6 (And.intro h7 (And.intro hKp (And.intro hgl2 (And.intro hgb (And.intro hPg (And.intro hcells hL2)))))))))))))
          clear hb h1 h2 h3 h4 h5 h6 h7 hKp hgl2 hgb hPg hcells hk hml hgl hv hL2
          go_upto_region 5 with fail
          go_still_tail 16, (by kernel_rfl)
          change wpList _ _ _ _ _ wc.drew
          go_wp2_with (go_at_call 55; refine Aside0.out ?_)
          refine Aside0.mk ?_
          obtain ⟨hb, h1, h2, h3, h4, h5, h6, h7, hKp, hgl2, hgb, hPg, hcells, hL2⟩ := Z.out
          have hk := HQ.out.2.2.2.2
          obtain ⟨gc, hgc⟩ := hcells
          have k2 : (wc.setCell ⟨g, s.id.toNat, none⟩ (.int .i64 L2.length)).heap[b]? = _ := blk_far hb (p := ⟨g, s.id.toNat, none⟩) (fun e => hgb e.symm) _
          have m2 := Kd.R_putn h2 s.id (L2.length : Int)
          have m1 := Kd.R_set h1 hgc (by decide) s.id.toNat (.int .i64 L2.length)
          have m3 := Kd.R_set h3 hgc (by decide) s.id.toNat (.int .i64 L2.length)
          have m4 := Kd.R_set h4 hgc (by decide) s.id.toNat (.int .i64 L2.length)
          have m5 := Kd.R_set h5 hgc (by decide) s.id.toNat (.int .i64 L2.length)
          have m7 := Kd.F_step h7 (W1 := wc.setCell ⟨g, s.id.toNat, none⟩ (.int .i64 L2.length)) (fun k hk2 _ => Below.heap_setCell wc ⟨g, s.id.toNat, none⟩ _ k (fun e => by have e2 : k = g := e; exact HQ.out.2.1.1 (by rw [← hk2, e2]; exact hPg)))
          have mk := hKp.setCell (p := ⟨g, s.id.toNat, none⟩) (.inl (.inr hPg)) (.int .i64 L2.length)
          refine (agree.calls b 61 #[.int .i64 s.id, .int .i64 s.n, .int .i64 s.view, .int .i64 s.last, .int .i64 s.status, .slice AL L2.length cL, .int .i64 s.commit, .slice (some ⟨g, 0, none⟩) s.mat.length cM, .slice AK s.marks.length cK, .bool s.sent, .slice AB s.bals.length cB, .int .i64 s.elapsed, .int .i64 s.timeout, .slice AD s.draws.length cD, .slice AO out.length cO] s.n s.commit AL cL L2 (some ⟨g, 0, none⟩) cM (s.mat.set s.id.toNat (L2.length : Int)) _ ?kb rfl rfl rfl (by rw [List.length_set]; rfl) hk.n (by have := hk.commit; rw [hL2, List.length_append, List.length_singleton]; omega) (by have := HLL.out.1; rw [hL2, List.length_append, List.length_singleton]; omega) ?kM).mono ?_
          case kb => exact k2
          case kM => exact fun W hW => by have := Kd.R_reads' (Kd.R_keeps (Kd.R_drew (Kd.R_types m2 k2 (by decide))) hW (fun k hk3 => hk3.2)); rw [List.length_set] at *; exact this.2.2
          rintro e w9 ⟨rfl, hb9, hk9⟩
          go_wp2
          go_end0
          have hll : L2.length = s.log.length + 1 := by rw [hL2, List.length_append, List.length_singleton]
          have hS : reqS s data = { s with log := L2, mat := (s.mat.set s.id.toNat (L2.length : Int)), commit := agreeV s.n (s.mat.set s.id.toNat (L2.length : Int)) L2.length s.commit } := by unfold reqS; rw [hll, ← hL2]; simp
          have mv : ∀ k, k ≠ b → k < (wc.setCell ⟨g, s.id.toNat, none⟩ (.int .i64 L2.length)).heap.size → w9.heap[k]? = (wc.setCell ⟨g, s.id.toNat, none⟩ (.int .i64 L2.length)).heap[k]? := fun k hk3 hl3 => hk9.block k hl3 hk3
          refine ⟨(mk.drew).trans (hk9.mono (fun k hk3 => .inl hk3)), rfl, ?_⟩
          rw [hS]
          have n2 := Kd.R_mono (Kd.R_step (Kd.R_types m2 k2 (by decide)) (fun k hk3 hl3 => mv k hk3.2 hl3)) (fun _ hk3 => hk3.1)
          rw [show (Value.slice (some ⟨g, 0, none⟩) s.mat.length cM) = .slice (some ⟨g, 0, none⟩) (s.mat.set s.id.toNat (L2.length : Int)).length cM from by rw [List.length_set]] at n2
          refine ⟨Nat.lt_of_lt_of_le (by simpa using hgl2) hk9.size, AL, cL, some ⟨g, 0, none⟩, cM, AK, cK, AB, cB, AD, cD, AO, cO, ?_, Kd.R_mono (Kd.R_step (Kd.R_types m1 k2 (by decide)) (fun k hk3 hl3 => mv k hk3.2 hl3)) (fun _ hk3 => hk3.1), n2, Kd.R_mono (Kd.R_step (Kd.R_types m3 k2 (by decide)) (fun k hk3 hl3 => mv k hk3.2 hl3)) (fun _ hk3 => hk3.1), Kd.R_mono (Kd.R_step (Kd.R_types m4 k2 (by decide)) (fun k hk3 hl3 => mv k hk3.2 hl3)) (fun _ hk3 => hk3.1), Kd.R_mono (Kd.R_step (Kd.R_types m5 k2 (by decide)) (fun k hk3 hl3 => mv k hk3.2 hl3)) (fun _ hk3 => hk3.1), h6, Kd.F_step m7 (fun k hk3 hl3 => mv k (by rw [hk3]; exact HQ.out.2.1.2) hl3)⟩
          show w9.heap[b]? = some (.cells #[.int .i64 s.id, .int .i64 s.n, .int .i64 s.view, .int .i64 s.last, .int .i64 s.status, .slice AL L2.length cL, .int .i64 (agreeV s.n (s.mat.set s.id.toNat (L2.length : Int)) L2.length s.commit), .slice (some ⟨g, 0, none⟩) (s.mat.set s.id.toNat (L2.length : Int)).length cM, .slice AK s.marks.length cK, .bool s.sent, .slice AB s.bals.length cB, .int .i64 s.elapsed, .int .i64 s.timeout, .slice AD s.draws.length cD, .slice AO out.length cO] 61 (0, 0))
          rw [List.length_set]
          exact hb9
end Go.Proofs.Ytojjnifbnppliaa.T
