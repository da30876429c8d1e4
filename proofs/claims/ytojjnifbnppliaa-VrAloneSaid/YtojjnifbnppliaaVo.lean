/- The first state; the example of the page. -/
import Derived.Test.YtojjnifbnppliaaVn
import Derived.Test.YtojjnifbnppliaaVf
namespace Go.Proofs.Ytojjnifbnppliaa.T
open Go.RowKit Go.Proofs.YtojjnifbnppliaaW.PrintWords Go.Proofs.YtojjnifbnppliaaW.PrintLast Go.Proofs.YtojjnifbnppliaaW.PrintMore
attribute [local go_sem] max2_int min2_int max_two min_two max_three min_three max_four min_four
set_option linter.unusedVariables false
set_option linter.unusedSimpArgs false
/-- A new replica, the first of n. -/
def new0 (n : Int) : St := newS 0 n []
theorem newF_new0 {n : Int} (hn : 1 ≤ n ∧ n ≤ 9) : newF 0 n [] = (new0 n, 0) := by
  unfold newF
  rw [if_pos ⟨wi_iff.2 hn, wi_iff.2 ⟨Int.le_refl _, by omega⟩⟩, if_neg (by simp)]
  rfl
set_option maxHeartbeats 1000000 in
theorem New0.calls (n : Int) (hn : 1 ≤ n ∧ n ≤ 9) (w : World) : Calls Try.prog 7 #[.int .i64 0, .int .i64 n, .slice none 0 0] w fun e w' => ∃ (AL : Option Addr) (cL : Nat) (AM : Option Addr) (cM : Nat) (AK : Option Addr) (cK : Nat) (AB : Option Addr) (cB : Nat) (AD : Option Addr) (cD : Nat), e = .returned (.tuple #[.agg #[.int .i64 (new0 n).id, .int .i64 (new0 n).n, .int .i64 (new0 n).view, .int .i64 (new0 n).last, .int .i64 (new0 n).status, .slice AL (new0 n).log.length cL, .int .i64 (new0 n).commit, .slice AM (new0 n).mat.length cM, .slice AK (new0 n).marks.length cK, .bool (new0 n).sent, .slice AB (new0 n).bals.length cB, .int .i64 (new0 n).elapsed, .int .i64 (new0 n).timeout, .slice AD (new0 n).draws.length cD], .int .i64 0]) ∧ Rd w' (new0 n) AL cL AM cM AK cK AB cB AD cD ∧ Below w.heap.size w w' := by
  have h := New.calls 0 n none 0 [] w (Kd.C_nil _ _) (Nat.le_refl _)
  rw [newF_new0 hn] at h
  exact h
set_option maxHeartbeats 1000000 in
/-- A request that is taken. -/
theorem Step3ok.calls (s s' : St) (AL : Option Addr) (cL : Nat) (AM : Option Addr) (cM : Nat) (AK : Option Addr) (cK : Nat) (AB : Option Addr) (cB : Nat) (AD : Option Addr) (cD : Nat) (x : Ms) (AX : Option Addr) (cX : Nat) (A : Option Addr) (c : Nat) (data : List Int) (k : Int) (hk3 : k = 3) (w : World) (hE : reqE s data = none) (hS : reqS s data = s') (hr : Rd w s AL cL AM cM AK cK AB cB AD cD) (hc : Chk s) (hb : s.bals = []) (hd : Kd.C (Kd.int .u8) w A data.length data) :
    Calls Try.prog 8 #[.agg #[.int .i64 s.id, .int .i64 s.n, .int .i64 s.view, .int .i64 s.last, .int .i64 s.status, .slice AL s.log.length cL, .int .i64 s.commit, .slice AM s.mat.length cM, .slice AK s.marks.length cK, .bool s.sent, .slice AB s.bals.length cB, .int .i64 s.elapsed, .int .i64 s.timeout, .slice AD s.draws.length cD], .agg #[.int .i64 k, .int .i64 x.kind, .int .i64 x.fro, .int .i64 x.dst, .int .i64 x.view, .int .i64 x.last, .int .i64 x.prev, .slice AX x.log.length cX, .int .i64 x.commit, .int .i64 x.mat, .slice A data.length c]] w fun e w' => ∃ (AL' : Option Addr) (cL' : Nat) (AM' : Option Addr) (cM' : Nat) (AK' : Option Addr) (cK' : Nat) (AB' : Option Addr) (cB' : Nat) (AD' : Option Addr) (cD' : Nat) (AO : Option Addr) (cO : Nat), e = .returned (.tuple #[.agg #[.int .i64 s'.id, .int .i64 s'.n, .int .i64 s'.view, .int .i64 s'.last, .int .i64 s'.status, .slice AL' s'.log.length cL', .int .i64 s'.commit, .slice AM' s'.mat.length cM', .slice AK' s'.marks.length cK', .bool s'.sent, .slice AB' s'.bals.length cB', .int .i64 s'.elapsed, .int .i64 s'.timeout, .slice AD' s'.draws.length cD'], .slice AO 0 cO, .int .i64 0]) ∧ (∀ W, Keeps w' W (fun k => k < w.heap.size) → Rd W s' AL' cL' AM' cM' AK' cK' AB' cB' AD' cD') ∧ Below w.heap.size w w' := by
  refine (Step3.calls s AL cL AM cM AK cK AB cB AD cD x AX cX A c data k hk3 w hr hc hb hd).mono ?_
  rintro e w' ⟨hb, h⟩
  rw [hE, hS] at h
  obtain ⟨AL', cL', AM', cM', AK', cK', AB', cB', AD', cD', AO, cO, he, h1⟩ := h
  exact ⟨AL', cL', AM', cM', AK', cK', AB', cB', AD', cD', AO, cO, he, fun W hW => (h1 W hW).1, hb⟩
set_option maxHeartbeats 1000000 in
/-- A request that is too long. -/
theorem Step3no.calls (s : St) (AL : Option Addr) (cL : Nat) (AM : Option Addr) (cM : Nat) (AK : Option Addr) (cK : Nat) (AB : Option Addr) (cB : Nat) (AD : Option Addr) (cD : Nat) (x : Ms) (AX : Option Addr) (cX : Nat) (A : Option Addr) (c : Nat) (data : List Int) (k : Int) (hk3 : k = 3) (ec : Int) (w : World) (hE : reqE s data = some ec) (hr : Rd w s AL cL AM cM AK cK AB cB AD cD) (hc : Chk s) (hb : s.bals = []) (hd : Kd.C (Kd.int .u8) w A data.length data) :
    Calls Try.prog 8 #[.agg #[.int .i64 s.id, .int .i64 s.n, .int .i64 s.view, .int .i64 s.last, .int .i64 s.status, .slice AL s.log.length cL, .int .i64 s.commit, .slice AM s.mat.length cM, .slice AK s.marks.length cK, .bool s.sent, .slice AB s.bals.length cB, .int .i64 s.elapsed, .int .i64 s.timeout, .slice AD s.draws.length cD], .agg #[.int .i64 k, .int .i64 x.kind, .int .i64 x.fro, .int .i64 x.dst, .int .i64 x.view, .int .i64 x.last, .int .i64 x.prev, .slice AX x.log.length cX, .int .i64 x.commit, .int .i64 x.mat, .slice A data.length c]] w fun e w' => e = .returned (.tuple #[.agg #[.int .i64 0, .int .i64 0, .int .i64 0, .int .i64 0, .int .i64 0, .slice none 0 0, .int .i64 0, .slice none 0 0, .slice none 0 0, .bool false, .slice none 0 0, .int .i64 0, .int .i64 0, .slice none 0 0], .slice none 0 0, .int .i64 ec]) ∧ Below w.heap.size w w' := by
  refine (Step3.calls s AL cL AM cM AK cK AB cB AD cD x AX cX A c data k hk3 w hr hc hb hd).mono ?_
  rintro e w' ⟨hb, h⟩
  rw [hE] at h
  exact ⟨h, hb⟩
set_option maxHeartbeats 1000000 in
/-- An answer that is taken. -/
theorem Step2ok.calls (s s' : St) (AL : Option Addr) (cL : Nat) (AM : Option Addr) (cM : Nat) (AK : Option Addr) (cK : Nat) (AB : Option Addr) (cB : Nat) (AD : Option Addr) (cD : Nat) (x : Ms) (AX : Option Addr) (cX : Nat) (A : Option Addr) (c : Nat) (data : List Int) (k : Int) (hk2 : k = 2) (hx2 : x.kind = 2) (w : World) (hE : prepE s x = none) (hS : prepS s x = s') (hr : Rd w s AL cL AM cM AK cK AB cB AD cD) (hc : Chk s) (hx : MsgOk s.id s.n x) (hv : decide (x.view < s.view) = false) (hlog : Kd.C (Kd.slice 5 (Kd.int .u8)) w AX x.log.length x.log) :
    Calls Try.prog 8 #[.agg #[.int .i64 s.id, .int .i64 s.n, .int .i64 s.view, .int .i64 s.last, .int .i64 s.status, .slice AL s.log.length cL, .int .i64 s.commit, .slice AM s.mat.length cM, .slice AK s.marks.length cK, .bool s.sent, .slice AB s.bals.length cB, .int .i64 s.elapsed, .int .i64 s.timeout, .slice AD s.draws.length cD], .agg #[.int .i64 k, .int .i64 x.kind, .int .i64 x.fro, .int .i64 x.dst, .int .i64 x.view, .int .i64 x.last, .int .i64 x.prev, .slice AX x.log.length cX, .int .i64 x.commit, .int .i64 x.mat, .slice A data.length c]] w fun e w' => ∃ (AL' : Option Addr) (cL' : Nat) (AM' : Option Addr) (cM' : Nat) (AK' : Option Addr) (cK' : Nat) (AB' : Option Addr) (cB' : Nat) (AD' : Option Addr) (cD' : Nat) (AO : Option Addr) (cO : Nat), e = .returned (.tuple #[.agg #[.int .i64 s'.id, .int .i64 s'.n, .int .i64 s'.view, .int .i64 s'.last, .int .i64 s'.status, .slice AL' s'.log.length cL', .int .i64 s'.commit, .slice AM' s'.mat.length cM', .slice AK' s'.marks.length cK', .bool s'.sent, .slice AB' s'.bals.length cB', .int .i64 s'.elapsed, .int .i64 s'.timeout, .slice AD' s'.draws.length cD'], .slice AO 0 cO, .int .i64 0]) ∧ (∀ W, Keeps w' W (fun k => k < w.heap.size) → Rd W s' AL' cL' AM' cM' AK' cK' AB' cB' AD' cD') ∧ Below w.heap.size w w' := by
  refine (Step2p.calls s AL cL AM cM AK cK AB cB AD cD x AX cX A c data k hk2 hx2 w hr hc hx hv hlog).mono ?_
  rintro e w' ⟨hb, h⟩
  rw [hE, hS] at h
  obtain ⟨AL', cL', AM', cM', AK', cK', AB', cB', AD', cD', AO, cO, he, h1⟩ := h
  exact ⟨AL', cL', AM', cM', AK', cK', AB', cB', AD', cD', AO, cO, he, fun W hW => (h1 W hW).1, hb⟩
set_option maxHeartbeats 1000000 in
theorem Num.calls (a : Int) (w : World) : Calls Try.prog 9 #[.int .i64 a] w fun e w' => e = .returned (.int .i64 a) ∧ w' = w := by
  go_enter Try.func9, Try.ntmps9
  go_wp2
  go_ret
  exact ⟨rfl, rfl⟩
theorem conv_lit (W : World) (cs : Array Value) (n c : Nat) : (convert 22 22 (.slice (some ⟨W.heap.size, 0, none⟩) n c)).run Try.prog (W.alloc (.cells cs 5)) = .ok (.slice (some ⟨W.heap.size, 0, none⟩) n c) (W.alloc (.cells cs 5 (cs.size, cs.size + 1))) := by
  have hsh : (W.alloc (.cells cs 5)).shape? W.heap.size = some (5, cs.size) := by
    unfold World.shape?
    rw [heap_alloc_new]
  have hfr : (W.alloc (.cells cs 5)).freeze ⟨W.heap.size, cs.size, none⟩ 1 = W.alloc (.cells cs 5 (cs.size, cs.size + 1)) := by
    have hm : ∀ (a : Array Obj) (x : Obj) (f : Obj → Obj), (a.push x).modify a.size f = a.push (f x) := by
      intro a x f
      apply Array.ext
      · simp
      · intro i h1 h2
        simp [Array.getElem_modify, Array.getElem_push]
        split <;> rename_i h
        · subst h; simp
        · by_cases hi : i < a.size
          · simp [hi]
          · simp at h1; omega
    unfold World.freeze World.alloc
    simp [hm]
  simp [convert, run_underlying Try.underlying22, run_underlying (show Try.prog.underlying 5 = some (.int .u8) by kernel_rfl), markStringish, hsh]
  exact hfr
theorem conv_at (W : World) (g n c : Nat) (cs : Array Value) (hg : g = W.heap.size) : (convert 22 22 (.slice (some ⟨g, 0, none⟩) n c)).run Try.prog (W.alloc (.cells cs 5)) = .ok (.slice (some ⟨g, 0, none⟩) n c) (W.alloc (.cells cs 5 (cs.size, cs.size + 1))) := by subst hg; exact conv_lit W cs n c
theorem a_C (W : World) (fr : Nat × Nat) : Kd.C (Kd.int .u8) (W.alloc (.cells #[.int .u8 97] 5 fr)) (some ⟨W.heap.size, 0, none⟩) ([97] : List Int).length [97] := by
  have hb := heap_alloc_new W (.cells #[.int .u8 97] 5 fr)
  refine ⟨rfl, by simp, fun _ => ⟨_, rfl, fun j p hj => ?_⟩⟩
  match j, hj with
  | 0, hj =>
    cases hj
    refine ⟨[.int .u8 97], rfl, rfl, fun i u hi => ?_⟩
    match i, hi with
    | 0, hi => cases hi; show World.cell? _ ⟨W.heap.size, 0, none⟩ = _; simp only [World.cell?]; rw [hb]; rfl
def aS1 : St := new0 1
def aS2 : St := reqS aS1 [97]
def aT1 : St := new0 3
def aT2 : St := reqS aT1 [97]
def aX : Ms := ⟨2, 1, 0, 0, 0, 0, [], 0, 1⟩
def zX : Ms := ⟨0, 0, 0, 0, 0, 0, [], 0, 0⟩
def aU : St := prepS aT2 aX
theorem aS1_chk : Chk aS1 := (check_iff _).1 (by kernel_rfl)
theorem aT1_chk : Chk aT1 := (check_iff _).1 (by kernel_rfl)
theorem aT2_chk : Chk aT2 := (check_iff _).1 (by kernel_rfl)
theorem aS2_e : reqE aS1 [97] = none := by kernel_rfl
theorem aT2_e : reqE aT1 [97] = none := by kernel_rfl
theorem aU_e : prepE aT2 aX = none := by kernel_rfl
theorem aX_ok : MsgOk aT2.id aT2.n aX := ⟨by kernel_rfl, by kernel_rfl, by kernel_rfl, by kernel_rfl, by kernel_rfl, by decide, by kernel_rfl, by kernel_rfl, by kernel_rfl, by kernel_rfl⟩
theorem aS2_c : aS2.commit = 1 := by kernel_rfl
theorem aT2_c : aT2.commit = 0 := by kernel_rfl
theorem aU_c : aU.commit = 1 := by kernel_rfl
theorem Keeps.row {w w1 : World} {S : Nat → Prop} (h : Keeps w w1 S) {g : Nat} (hg : S g) (cs : Array Value) : Keeps w (w1.setRow g cs) S := h.trans ⟨rfl, rfl, rfl, by simp, fun k _ hk => setRow_other w1 g k cs (fun e => hk (e ▸ hg))⟩
theorem laid29 (w1 : World) (CS : Array Value) : ((w1.alloc (.cells #[.int .i64 0, .int .i64 0, .int .i64 0, .int .i64 0, .int .i64 0, .slice none 0 0, .int .i64 0, .slice none 0 0, .slice none 0 0, .bool false, .slice none 0 0, .int .i64 0, .int .i64 0, .slice none 0 0] 29)).setRow w1.heap.size CS).heap[w1.heap.size]? = some (.cells CS 29 (0, 0)) ∧ Below w1.heap.size w1 ((w1.alloc (.cells #[.int .i64 0, .int .i64 0, .int .i64 0, .int .i64 0, .int .i64 0, .slice none 0 0, .int .i64 0, .slice none 0 0, .slice none 0 0, .bool false, .slice none 0 0, .int .i64 0, .int .i64 0, .slice none 0 0] 29)).setRow w1.heap.size CS) :=
  ⟨setRow_heap _ _ _ _ _ _ (heap_alloc_new _ _), below_row (below_alloc (Below.refl _ _) _) (Nat.le_refl _) _⟩
set_option maxHeartbeats 8000000 in
set_option maxRecDepth 100000 in
theorem alive.calls (w : World) : Calls Try.prog 6 #[] w fun e w' => e = .returned (.bool true) ∧ Below w.heap.size w w' := by
  have hu29 := Try.underlying29
  have hcv := conv_at
  go_enter Try.func6, Try.ntmps6
  go_upto_region 2 with (first | (go_at_call 7; refine (New0.calls 1 (by decide) _).mono ?_; rintro e w1 ⟨AL1, cL1, AM1, cM1, AK1, cK1, AB1, cB1, AD1, cD1, rfl, hr, hb⟩; have HR := Aside0.mk hr; have HB := Aside0.mk hb; clear hr hb) | ((with_reducible refine gate_ (.store 29 (.tmp 1) (.tmp 14)) rfl ?_); refine wpList_store_row rfl 29 (.tmp 1) (.tmp 14) rfl w1.heap.size #[.int .i64 (new0 1).id, .int .i64 (new0 1).n, .int .i64 (new0 1).view, .int .i64 (new0 1).last, .int .i64 (new0 1).status, .slice AL1 (new0 1).log.length cL1, .int .i64 (new0 1).commit, .slice AM1 (new0 1).mat.length cM1, .slice AK1 (new0 1).marks.length cK1, .bool (new0 1).sent, .slice AB1 (new0 1).bals.length cB1, .int .i64 (new0 1).elapsed, .int .i64 (new0 1).timeout, .slice AD1 (new0 1).draws.length cD1] rfl rfl 29 #[.int .i64 0, .int .i64 0, .int .i64 0, .int .i64 0, .int .i64 0, .slice none 0 0, .int .i64 0, .slice none 0 0, .slice none 0 0, .bool false, .slice none 0 0, .int .i64 0, .int .i64 0, .slice none 0 0] (heap_alloc_new _ _) (by kernel_rfl) rfl (by kernel_rfl) ?_))
  have HB1S := Aside0.mk HB.out.size
  obtain ⟨k1, hb1⟩ := laid29 w1 #[.int .i64 (new0 1).id, .int .i64 (new0 1).n, .int .i64 (new0 1).view, .int .i64 (new0 1).last, .int .i64 (new0 1).status, .slice AL1 (new0 1).log.length cL1, .int .i64 (new0 1).commit, .slice AM1 (new0 1).mat.length cM1, .slice AK1 (new0 1).marks.length cK1, .bool (new0 1).sent, .slice AB1 (new0 1).bals.length cB1, .int .i64 (new0 1).elapsed, .int .i64 (new0 1).timeout, .slice AD1 (new0 1).draws.length cD1]
  have K1 := Aside0.mk k1
  replace HR := Aside0.mk (Rd.below HR.out hb1)
  replace HB := Aside0.mk (HB.out.trans (hb1.mono HB.out.size))
  clear k1 hb1
  obtain ⟨g1, hg1⟩ : ∃ g, g = w1.heap.size := ⟨_, rfl⟩
  have HG1 := Aside0.mk (show w.heap.size ≤ g1 from by have := HB1S.out; omega)
  simp only [← hg1] at *
  clear hg1 HB1S
  generalize (w1.alloc (.cells #[.int .i64 0, .int .i64 0, .int .i64 0, .int .i64 0, .int .i64 0, .slice none 0 0, .int .i64 0, .slice none 0 0, .slice none 0 0, .bool false, .slice none 0 0, .int .i64 0, .int .i64 0, .slice none 0 0] 29)).setRow g1 #[.int .i64 (new0 1).id, .int .i64 (new0 1).n, .int .i64 (new0 1).view, .int .i64 (new0 1).last, .int .i64 (new0 1).status, .slice AL1 (new0 1).log.length cL1, .int .i64 (new0 1).commit, .slice AM1 (new0 1).mat.length cM1, .slice AK1 (new0 1).marks.length cK1, .bool (new0 1).sent, .slice AB1 (new0 1).bals.length cB1, .int .i64 (new0 1).elapsed, .int .i64 (new0 1).timeout, .slice AD1 (new0 1).draws.length cD1] = W1 at *
  go_upto_region 3 with (first | ((with_reducible refine gate_ (.load 29 (.tmp 1)) rfl ?_); refine wpList_load_row rfl 29 (.tmp 1) rfl g1 rfl 29 _ (0, 0) _ K1.out hu29 rfl (by kernel_rfl) ?_) | (go_at_call 8; refine (Step3ok.calls (new0 1) aS2 AL1 cL1 AM1 cM1 AK1 cK1 AB1 cB1 AD1 cD1 zX none 0 _ 1 [97] 3 rfl _ aS2_e rfl (Rd.below HR.out (below_alloc (Below.refl _ _) _)) aS1_chk rfl (a_C _ _)).mono ?_; rintro e w2 ⟨AL2, cL2, AM2, cM2, AK2, cK2, AB2, cB2, AD2, cD2, AO2, cO2, rfl, hr, hb⟩; replace K1 := Aside0.mk (blk_below (blk_alloc K1.out _) hb); replace HB := Aside0.mk ((below_alloc HB.out _).trans (hb.mono (below_alloc HB.out _).size)); clear HR hr hb) | ((with_reducible refine gate_ (.store 29 (.tmp 1) (.tmp 22)) rfl ?_); refine wpList_store_row rfl 29 (.tmp 1) (.tmp 22) rfl g1 #[.int .i64 aS2.id, .int .i64 aS2.n, .int .i64 aS2.view, .int .i64 aS2.last, .int .i64 aS2.status, .slice AL2 aS2.log.length cL2, .int .i64 aS2.commit, .slice AM2 aS2.mat.length cM2, .slice AK2 aS2.marks.length cK2, .bool aS2.sent, .slice AB2 aS2.bals.length cB2, .int .i64 aS2.elapsed, .int .i64 aS2.timeout, .slice AD2 aS2.draws.length cD2] rfl rfl 29 _ K1.out (by kernel_rfl) rfl (by kernel_rfl) ?_))
  replace K1 := Aside0.mk (setRow_heap w2 g1 _ #[.int .i64 aS2.id, .int .i64 aS2.n, .int .i64 aS2.view, .int .i64 aS2.last, .int .i64 aS2.status, .slice AL2 aS2.log.length cL2, .int .i64 aS2.commit, .slice AM2 aS2.mat.length cM2, .slice AK2 aS2.marks.length cK2, .bool aS2.sent, .slice AB2 aS2.bals.length cB2, .int .i64 aS2.elapsed, .int .i64 aS2.timeout, .slice AD2 aS2.draws.length cD2] 29 (0, 0) K1.out)
  replace HB := Aside0.mk (below_row HB.out HG1.out #[.int .i64 aS2.id, .int .i64 aS2.n, .int .i64 aS2.view, .int .i64 aS2.last, .int .i64 aS2.status, .slice AL2 aS2.log.length cL2, .int .i64 aS2.commit, .slice AM2 aS2.mat.length cM2, .slice AK2 aS2.marks.length cK2, .bool aS2.sent, .slice AB2 aS2.bals.length cB2, .int .i64 aS2.elapsed, .int .i64 aS2.timeout, .slice AD2 aS2.draws.length cD2])
  generalize w2.setRow g1 #[.int .i64 aS2.id, .int .i64 aS2.n, .int .i64 aS2.view, .int .i64 aS2.last, .int .i64 aS2.status, .slice AL2 aS2.log.length cL2, .int .i64 aS2.commit, .slice AM2 aS2.mat.length cM2, .slice AK2 aS2.marks.length cK2, .bool aS2.sent, .slice AB2 aS2.bals.length cB2, .int .i64 aS2.elapsed, .int .i64 aS2.timeout, .slice AD2 aS2.draws.length cD2] = W2 at *
  go_upto_region 4 with (first | (go_at_call 7; refine (New0.calls 3 (by decide) _).mono ?_; rintro e w3 ⟨AL3, cL3, AM3, cM3, AK3, cK3, AB3, cB3, AD3, cD3, rfl, hr, hb⟩; have HR := Aside0.mk hr; replace K1 := Aside0.mk (blk_below K1.out hb); replace HB := Aside0.mk (HB.out.trans (hb.mono HB.out.size)); clear hr hb) | ((with_reducible refine gate_ (.store 29 (.tmp 5) (.tmp 27)) rfl ?_); refine wpList_store_row rfl 29 (.tmp 5) (.tmp 27) rfl w3.heap.size #[.int .i64 (new0 3).id, .int .i64 (new0 3).n, .int .i64 (new0 3).view, .int .i64 (new0 3).last, .int .i64 (new0 3).status, .slice AL3 (new0 3).log.length cL3, .int .i64 (new0 3).commit, .slice AM3 (new0 3).mat.length cM3, .slice AK3 (new0 3).marks.length cK3, .bool (new0 3).sent, .slice AB3 (new0 3).bals.length cB3, .int .i64 (new0 3).elapsed, .int .i64 (new0 3).timeout, .slice AD3 (new0 3).draws.length cD3] rfl rfl 29 #[.int .i64 0, .int .i64 0, .int .i64 0, .int .i64 0, .int .i64 0, .slice none 0 0, .int .i64 0, .slice none 0 0, .slice none 0 0, .bool false, .slice none 0 0, .int .i64 0, .int .i64 0, .slice none 0 0] (heap_alloc_new _ _) (by kernel_rfl) rfl (by kernel_rfl) ?_))
  have HB3S := Aside0.mk HB.out.size
  obtain ⟨k3, hb3⟩ := laid29 w3 #[.int .i64 (new0 3).id, .int .i64 (new0 3).n, .int .i64 (new0 3).view, .int .i64 (new0 3).last, .int .i64 (new0 3).status, .slice AL3 (new0 3).log.length cL3, .int .i64 (new0 3).commit, .slice AM3 (new0 3).mat.length cM3, .slice AK3 (new0 3).marks.length cK3, .bool (new0 3).sent, .slice AB3 (new0 3).bals.length cB3, .int .i64 (new0 3).elapsed, .int .i64 (new0 3).timeout, .slice AD3 (new0 3).draws.length cD3]
  have K3 := Aside0.mk k3
  replace HR := Aside0.mk (Rd.below HR.out hb3)
  have K1L := Aside0.mk (blk_lt K1.out)
  replace HB := Aside0.mk (HB.out.trans (hb3.mono HB.out.size))
  replace K1 := Aside0.mk (blk_below K1.out hb3)
  clear k3 hb3
  obtain ⟨g5, hg5⟩ : ∃ g, g = w3.heap.size := ⟨_, rfl⟩
  have HG5 := Aside0.mk (show w.heap.size ≤ g5 ∧ g1 ≠ g5 from by have h1 := HB3S.out; have h2 := K1L.out; exact ⟨by omega, by omega⟩)
  simp only [← hg5] at *
  clear hg5 HB3S K1L
  generalize (w3.alloc (.cells #[.int .i64 0, .int .i64 0, .int .i64 0, .int .i64 0, .int .i64 0, .slice none 0 0, .int .i64 0, .slice none 0 0, .slice none 0 0, .bool false, .slice none 0 0, .int .i64 0, .int .i64 0, .slice none 0 0] 29)).setRow g5 #[.int .i64 (new0 3).id, .int .i64 (new0 3).n, .int .i64 (new0 3).view, .int .i64 (new0 3).last, .int .i64 (new0 3).status, .slice AL3 (new0 3).log.length cL3, .int .i64 (new0 3).commit, .slice AM3 (new0 3).mat.length cM3, .slice AK3 (new0 3).marks.length cK3, .bool (new0 3).sent, .slice AB3 (new0 3).bals.length cB3, .int .i64 (new0 3).elapsed, .int .i64 (new0 3).timeout, .slice AD3 (new0 3).draws.length cD3] = W3 at *
  have HG5L := Aside0.mk (blk_lt K3.out)
  go_upto_region 5 with (first | ((with_reducible refine gate_ (.load 29 (.tmp 5)) rfl ?_); refine wpList_load_row rfl 29 (.tmp 5) rfl g5 rfl 29 _ (0, 0) _ K3.out hu29 rfl (by kernel_rfl) ?_) | (go_at_call 8; refine (Step3ok.calls (new0 3) aT2 AL3 cL3 AM3 cM3 AK3 cK3 AB3 cB3 AD3 cD3 zX none 0 _ 1 [97] 3 rfl _ aT2_e rfl (Rd.below HR.out (below_alloc (Below.refl _ _) _)) aT1_chk rfl (a_C _ _)).mono ?_; rintro e w4 ⟨AL4, cL4, AM4, cM4, AK4, cK4, AB4, cB4, AD4, cD4, AO4, cO4, rfl, hr, hb⟩; replace K1 := Aside0.mk (blk_below (blk_alloc K1.out _) hb); replace K3 := Aside0.mk (blk_below (blk_alloc K3.out _) hb); replace HB := Aside0.mk ((below_alloc HB.out _).trans (hb.mono (below_alloc HB.out _).size)); replace HR := Aside0.mk hr; have HS4 := Aside0.mk (show g5 < (W3.alloc (.cells #[.int .u8 97] 5 (1, 2))).heap.size from by simp; have := HG5L.out; omega); clear hr hb) | ((with_reducible refine gate_ (.store 29 (.tmp 5) (.tmp 35)) rfl ?_); refine wpList_store_row rfl 29 (.tmp 5) (.tmp 35) rfl g5 #[.int .i64 aT2.id, .int .i64 aT2.n, .int .i64 aT2.view, .int .i64 aT2.last, .int .i64 aT2.status, .slice AL4 aT2.log.length cL4, .int .i64 aT2.commit, .slice AM4 aT2.mat.length cM4, .slice AK4 aT2.marks.length cK4, .bool aT2.sent, .slice AB4 aT2.bals.length cB4, .int .i64 aT2.elapsed, .int .i64 aT2.timeout, .slice AD4 aT2.draws.length cD4] rfl rfl 29 _ K3.out (by kernel_rfl) rfl (by kernel_rfl) ?_))
  replace K1 := Aside0.mk ((setRow_other w4 g5 g1 #[.int .i64 aT2.id, .int .i64 aT2.n, .int .i64 aT2.view, .int .i64 aT2.last, .int .i64 aT2.status, .slice AL4 aT2.log.length cL4, .int .i64 aT2.commit, .slice AM4 aT2.mat.length cM4, .slice AK4 aT2.marks.length cK4, .bool aT2.sent, .slice AB4 aT2.bals.length cB4, .int .i64 aT2.elapsed, .int .i64 aT2.timeout, .slice AD4 aT2.draws.length cD4] HG5.out.2).trans K1.out)
  have HRX := Aside0.mk (HR.out _ (Keeps.row (g := g5) (Keeps.refl w4 _) (by exact HS4.out) #[.int .i64 aT2.id, .int .i64 aT2.n, .int .i64 aT2.view, .int .i64 aT2.last, .int .i64 aT2.status, .slice AL4 aT2.log.length cL4, .int .i64 aT2.commit, .slice AM4 aT2.mat.length cM4, .slice AK4 aT2.marks.length cK4, .bool aT2.sent, .slice AB4 aT2.bals.length cB4, .int .i64 aT2.elapsed, .int .i64 aT2.timeout, .slice AD4 aT2.draws.length cD4]))
  replace K3 := Aside0.mk (setRow_heap w4 g5 _ #[.int .i64 aT2.id, .int .i64 aT2.n, .int .i64 aT2.view, .int .i64 aT2.last, .int .i64 aT2.status, .slice AL4 aT2.log.length cL4, .int .i64 aT2.commit, .slice AM4 aT2.mat.length cM4, .slice AK4 aT2.marks.length cK4, .bool aT2.sent, .slice AB4 aT2.bals.length cB4, .int .i64 aT2.elapsed, .int .i64 aT2.timeout, .slice AD4 aT2.draws.length cD4] 29 (0, 0) K3.out)
  replace HB := Aside0.mk (below_row HB.out HG5.out.1 #[.int .i64 aT2.id, .int .i64 aT2.n, .int .i64 aT2.view, .int .i64 aT2.last, .int .i64 aT2.status, .slice AL4 aT2.log.length cL4, .int .i64 aT2.commit, .slice AM4 aT2.mat.length cM4, .slice AK4 aT2.marks.length cK4, .bool aT2.sent, .slice AB4 aT2.bals.length cB4, .int .i64 aT2.elapsed, .int .i64 aT2.timeout, .slice AD4 aT2.draws.length cD4])
  clear HR HS4
  generalize w4.setRow g5 #[.int .i64 aT2.id, .int .i64 aT2.n, .int .i64 aT2.view, .int .i64 aT2.last, .int .i64 aT2.status, .slice AL4 aT2.log.length cL4, .int .i64 aT2.commit, .slice AM4 aT2.mat.length cM4, .slice AK4 aT2.marks.length cK4, .bool aT2.sent, .slice AB4 aT2.bals.length cB4, .int .i64 aT2.elapsed, .int .i64 aT2.timeout, .slice AD4 aT2.draws.length cD4] = W4 at *
  go_upto_region 6 with (first | ((with_reducible refine gate_ (.load 29 (.tmp 5)) rfl ?_); refine wpList_load_row rfl 29 (.tmp 5) rfl g5 rfl 29 _ (0, 0) _ K3.out hu29 rfl (by kernel_rfl) ?_) | (go_at_call 8; refine (Step2ok.calls aT2 aU AL4 cL4 AM4 cM4 AK4 cK4 AB4 cB4 AD4 cD4 aX none 0 none 0 [] 2 rfl rfl _ aU_e rfl HRX.out aT2_chk aX_ok (by kernel_rfl) (Kd.C_nil _ _)).mono ?_; rintro e w5 ⟨AL5, cL5, AM5, cM5, AK5, cK5, AB5, cB5, AD5, cD5, AO5, cO5, rfl, hr, hb⟩; replace K1 := Aside0.mk (blk_below K1.out hb); replace K3 := Aside0.mk (blk_below K3.out hb); replace HB := Aside0.mk (HB.out.trans (hb.mono HB.out.size)); clear hr hb) | ((with_reducible refine gate_ (.store 29 (.tmp 9) (.tmp 43)) rfl ?_); refine wpList_store_row rfl 29 (.tmp 9) (.tmp 43) rfl w5.heap.size #[.int .i64 aU.id, .int .i64 aU.n, .int .i64 aU.view, .int .i64 aU.last, .int .i64 aU.status, .slice AL5 aU.log.length cL5, .int .i64 aU.commit, .slice AM5 aU.mat.length cM5, .slice AK5 aU.marks.length cK5, .bool aU.sent, .slice AB5 aU.bals.length cB5, .int .i64 aU.elapsed, .int .i64 aU.timeout, .slice AD5 aU.draws.length cD5] rfl rfl 29 #[.int .i64 0, .int .i64 0, .int .i64 0, .int .i64 0, .int .i64 0, .slice none 0 0, .int .i64 0, .slice none 0 0, .slice none 0 0, .bool false, .slice none 0 0, .int .i64 0, .int .i64 0, .slice none 0 0] (heap_alloc_new _ _) (by kernel_rfl) rfl (by kernel_rfl) ?_))
  obtain ⟨k9, hb9⟩ := laid29 w5 #[.int .i64 aU.id, .int .i64 aU.n, .int .i64 aU.view, .int .i64 aU.last, .int .i64 aU.status, .slice AL5 aU.log.length cL5, .int .i64 aU.commit, .slice AM5 aU.mat.length cM5, .slice AK5 aU.marks.length cK5, .bool aU.sent, .slice AB5 aU.bals.length cB5, .int .i64 aU.elapsed, .int .i64 aU.timeout, .slice AD5 aU.draws.length cD5]
  replace K1 := blk_below K1.out hb9
  replace K3 := blk_below K3.out hb9
  replace HB := Aside0.mk (HB.out.trans (hb9.mono HB.out.size))
  clear hb9 HRX
  obtain ⟨g9, hg9⟩ : ∃ g, g = w5.heap.size := ⟨_, rfl⟩
  simp only [← hg9] at *
  clear hg9
  generalize (w5.alloc (.cells #[.int .i64 0, .int .i64 0, .int .i64 0, .int .i64 0, .int .i64 0, .slice none 0 0, .int .i64 0, .slice none 0 0, .slice none 0 0, .bool false, .slice none 0 0, .int .i64 0, .int .i64 0, .slice none 0 0] 29)).setRow g9 #[.int .i64 aU.id, .int .i64 aU.n, .int .i64 aU.view, .int .i64 aU.last, .int .i64 aU.status, .slice AL5 aU.log.length cL5, .int .i64 aU.commit, .slice AM5 aU.mat.length cM5, .slice AK5 aU.marks.length cK5, .bool aU.sent, .slice AB5 aU.bals.length cB5, .int .i64 aU.elapsed, .int .i64 aU.timeout, .slice AD5 aU.draws.length cD5] = W5 at *
  have x1 : W5.cell? ⟨g1, 6, none⟩ = some (.int .i64 1) := (blk_cell K1 6).trans (by show some (Value.int .i64 aS2.commit) = _; rw [aS2_c])
  have x5 : W5.cell? ⟨g5, 6, none⟩ = some (.int .i64 0) := (blk_cell K3 6).trans (by show some (Value.int .i64 aT2.commit) = _; rw [aT2_c])
  have x9 : W5.cell? ⟨g9, 6, none⟩ = some (.int .i64 1) := (blk_cell k9 6).trans (by show some (Value.int .i64 aU.commit) = _; rw [aU_c])
  clear K1 K3 k9 HG1 HG5 HG5L
  go_wp2_with (go_at_call 9; refine (Num.calls _ _).mono ?_; rintro e w' ⟨rfl, rfl⟩)
  go_ret
  exact ⟨rfl, HB.out⟩
end Go.Proofs.Ytojjnifbnppliaa.T
