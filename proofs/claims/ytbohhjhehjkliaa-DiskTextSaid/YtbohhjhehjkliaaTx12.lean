/- This text tells functions of the seat as plain functions, with their contracts, as the machine's calls meet them. -/
import Derived.Test.YtbohhjhehjkliaaTx0
import Derived.Test.YtbohhjhehjkliaaTx2
import Derived.Test.YtbohhjhehjkliaaTx3
import Derived.Test.YtbohhjhehjkliaaTx4
import Derived.Test.YtbohhjhehjkliaaTx5
import Derived.Test.YtbohhjhehjkliaaTx11
namespace Go.Proofs.Ytbohhjhehjkliaa.T
open Go.RowKit Go.Proofs.YtbohhjhehjkliaaW.PrintWords Go.Proofs.YtbohhjhehjkliaaW.PrintLast Go.Proofs.YtbohhjhehjkliaaW.PrintMore
attribute [local go_sem] max2_int min2_int max_two min_two max_three min_three max_four min_four   -- for this text's walks alone
set_option linter.unusedVariables false
set_option linter.unusedSimpArgs false

/-! ### undercroftlaw03_DiskText: function 6 -/
mutual
def undercroftlaw03_DiskText.j0 : Nat → Int → Int → List Int → Int → Int → Int → Bool → List (List Int) → List (S62) → Option (Bool)
  | 0, _, _, _, _, _, _, _, _, _ => none
  | k + 1, x0, x1, x2, x8, x9, x11, x57, x464000, x464001 => if x57 = true then ((undercroftlaw03_num.f x8).bind fun t465 => (if t465 = 0 then ((undercroftlaw03_num.f x11).bind fun t466 => (some (t466 == 41))) else (none))) else ((disk_GetAll.f x464000 x464001 x1 x9).bind fun bt467 => ((disk_GetAll.f x464000 x464001 0 x0).bind fun bt471 => ((undercroftlaw03_num.f x11).bind fun t475 => ((undercroftlaw03_num.f bt467.2).bind fun t476 => ((undercroftlaw03_num.f bt471.2).bind fun t477 => (if (wrap64 ((wrap64 (t475 + t476)) + t477)) = 0 then (if (bt467.1.length : Int) = (wrap64 (64 * x9)) then (if (bt471.1.length : Int) = (wrap64 (64 * x0)) then (if 0 ≤ (x2.length : Int) then (if (x2.length : Int) ≤ (bt467.1.length : Int) then ((undercroftplain_SameBytes.f k (bt467.1.take ((x2.length : Int) : Int).toNat) x2).bind fun t482 => (undercroftlaw03_DiskText.j1 k x1 x2 bt471.1 (!t482))) else (none)) else (none)) else (undercroftlaw03_DiskText.j1 k x1 x2 bt471.1 true)) else (undercroftlaw03_DiskText.j1 k x1 x2 bt471.1 true)) else (undercroftlaw03_DiskText.j1 k x1 x2 bt471.1 true)))))))
def undercroftlaw03_DiskText.j1 : Nat → Int → List Int → List Int → Bool → Option (Bool)
  | 0, _, _, _, _ => none
  | k + 1, x1, x2, x14, x110 => if x110 = true then (none) else (undercroftlaw03_DiskText.l0 k x1 x2 x14 0)
def undercroftlaw03_DiskText.l0 : Nat → Int → List Int → List Int → Int → Option (Bool)
  | 0, _, _, _, _ => none
  | k + 1, x1, x2, x14, x16 => if x16 < (x14.length : Int) then (if (wrap64 (x16 - (wrap64 (64 * x1)))) < 0 then (if 0 ≤ x16 then (if (rd x14 x16) = 0 then (undercroftlaw03_DiskText.l0 k x1 x2 x14 (wrap64 (x16 + 1))) else (none)) else (none)) else (if (wrap64 (x16 - (wrap64 (64 * x1)))) ≥ (x2.length : Int) then (if 0 ≤ x16 then (if (rd x14 x16) = 0 then (undercroftlaw03_DiskText.l0 k x1 x2 x14 (wrap64 (x16 + 1))) else (none)) else (none)) else (undercroftlaw03_DiskText.l0 k x1 x2 x14 (wrap64 (x16 + 1))))) else (some true)
end
def undercroftlaw03_DiskText.f (k : Nat) (a0 : Int) (a1 : Int) (l2 : List Int) : Option (Bool) := (undercroftlaw03_alive.f).bind fun t447 => (if t447 = true then (if (wrap64 (1 + (Int.tmod (wrap64 ((Int.tmod a0 20) + 20)) 20))) = 0 then (none) else ((disk_New.f k (wrap64 (1 + (Int.tmod (wrap64 ((Int.tmod a0 20) + 20)) 20)))).bind fun bt448 => ((disk_PutAll.f bt448.1 bt448.2.1 (Int.tmod (wrap64 ((Int.tmod a1 (wrap64 (1 + (Int.tmod (wrap64 ((Int.tmod a0 20) + 20)) 20)))) + (wrap64 (1 + (Int.tmod (wrap64 ((Int.tmod a0 20) + 20)) 20))))) (wrap64 (1 + (Int.tmod (wrap64 ((Int.tmod a0 20) + 20)) 20)))) l2).bind fun bt456 => ((undercroftlaw03_num.f bt448.2.2).bind fun t464 => (if t464 = 0 then (undercroftlaw03_DiskText.j0 k (wrap64 (1 + (Int.tmod (wrap64 ((Int.tmod a0 20) + 20)) 20))) (Int.tmod (wrap64 ((Int.tmod a1 (wrap64 (1 + (Int.tmod (wrap64 ((Int.tmod a0 20) + 20)) 20)))) + (wrap64 (1 + (Int.tmod (wrap64 ((Int.tmod a0 20) + 20)) 20))))) (wrap64 (1 + (Int.tmod (wrap64 ((Int.tmod a0 20) + 20)) 20)))) l2 bt448.2.2 (wrap64 (Int.tdiv (wrap64 ((l2.length : Int) + 63)) 64)) bt456.2.2 (decide ((wrap64 ((Int.tmod (wrap64 ((Int.tmod a1 (wrap64 (1 + (Int.tmod (wrap64 ((Int.tmod a0 20) + 20)) 20)))) + (wrap64 (1 + (Int.tmod (wrap64 ((Int.tmod a0 20) + 20)) 20))))) (wrap64 (1 + (Int.tmod (wrap64 ((Int.tmod a0 20) + 20)) 20)))) + (wrap64 (Int.tdiv (wrap64 ((l2.length : Int) + 63)) 64)))) > (wrap64 (1 + (Int.tmod (wrap64 ((Int.tmod a0 20) + 20)) 20))))) bt456.1 bt456.2.1) else (undercroftlaw03_DiskText.j0 k (wrap64 (1 + (Int.tmod (wrap64 ((Int.tmod a0 20) + 20)) 20))) (Int.tmod (wrap64 ((Int.tmod a1 (wrap64 (1 + (Int.tmod (wrap64 ((Int.tmod a0 20) + 20)) 20)))) + (wrap64 (1 + (Int.tmod (wrap64 ((Int.tmod a0 20) + 20)) 20))))) (wrap64 (1 + (Int.tmod (wrap64 ((Int.tmod a0 20) + 20)) 20)))) l2 bt448.2.2 (wrap64 (Int.tdiv (wrap64 ((l2.length : Int) + 63)) 64)) bt456.2.2 true bt456.1 bt456.2.1)))))) else (none))
theorem undercroftlaw03_DiskText.mono_l : ∀ k, (∀ y0 y1 y2 y3 y4 y5 y6 y7 y8, LeO (undercroftlaw03_DiskText.j0 k y0 y1 y2 y3 y4 y5 y6 y7 y8) (undercroftlaw03_DiskText.j0 (k + 1) y0 y1 y2 y3 y4 y5 y6 y7 y8)) ∧ (∀ y0 y1 y2 y3, LeO (undercroftlaw03_DiskText.j1 k y0 y1 y2 y3) (undercroftlaw03_DiskText.j1 (k + 1) y0 y1 y2 y3)) ∧ (∀ y0 y1 y2 y3, LeO (undercroftlaw03_DiskText.l0 k y0 y1 y2 y3) (undercroftlaw03_DiskText.l0 (k + 1) y0 y1 y2 y3))
  | 0 => ⟨fun _ _ _ _ _ _ _ _ _ r h => by simp [undercroftlaw03_DiskText.j0] at h, fun _ _ _ _ r h => by simp [undercroftlaw03_DiskText.j1] at h, fun _ _ _ _ r h => by simp [undercroftlaw03_DiskText.l0] at h⟩
  | k + 1 => by
    obtain ⟨ih0, ih1, ih2⟩ := undercroftlaw03_DiskText.mono_l k
    refine ⟨?_, ?_, ?_⟩
    · intro y0 y1 y2 y3 y4 y5 y6 y7 y8
      unfold undercroftlaw03_DiskText.j0
      repeat' first
      | (with_reducible exact ih0 _ _ _ _ _ _ _ _ _)
      | (with_reducible exact ih1 _ _ _ _)
      | (with_reducible exact ih2 _ _ _ _)
      | (with_reducible exact disk_New.mono _ _)
      | (with_reducible exact undercroftplain_SameBytes.mono _ _ _)
      | (with_reducible exact LeO.refl _)
      | (with_reducible exact LeO.none _)
      | (with_reducible refine LeO.ite ?_ ?_)
      | (with_reducible refine LeO.bind ?_ (fun _ => ?_))
      | exact ih0 _ _ _ _ _ _ _ _ _
      | exact ih1 _ _ _ _
      | exact ih2 _ _ _ _
      | exact disk_New.mono _ _
      | exact undercroftplain_SameBytes.mono _ _ _
      | exact LeO.none _
      | refine LeO.ite ?_ ?_
      | refine LeO.bind ?_ (fun _ => ?_)
    · intro y0 y1 y2 y3
      unfold undercroftlaw03_DiskText.j1
      repeat' first
      | (with_reducible exact ih0 _ _ _ _ _ _ _ _ _)
      | (with_reducible exact ih1 _ _ _ _)
      | (with_reducible exact ih2 _ _ _ _)
      | (with_reducible exact disk_New.mono _ _)
      | (with_reducible exact undercroftplain_SameBytes.mono _ _ _)
      | (with_reducible exact LeO.refl _)
      | (with_reducible exact LeO.none _)
      | (with_reducible refine LeO.ite ?_ ?_)
      | (with_reducible refine LeO.bind ?_ (fun _ => ?_))
      | exact ih0 _ _ _ _ _ _ _ _ _
      | exact ih1 _ _ _ _
      | exact ih2 _ _ _ _
      | exact disk_New.mono _ _
      | exact undercroftplain_SameBytes.mono _ _ _
      | exact LeO.none _
      | refine LeO.ite ?_ ?_
      | refine LeO.bind ?_ (fun _ => ?_)
    · intro y0 y1 y2 y3
      unfold undercroftlaw03_DiskText.l0
      repeat' first
      | (with_reducible exact ih0 _ _ _ _ _ _ _ _ _)
      | (with_reducible exact ih1 _ _ _ _)
      | (with_reducible exact ih2 _ _ _ _)
      | (with_reducible exact disk_New.mono _ _)
      | (with_reducible exact undercroftplain_SameBytes.mono _ _ _)
      | (with_reducible exact LeO.refl _)
      | (with_reducible exact LeO.none _)
      | (with_reducible refine LeO.ite ?_ ?_)
      | (with_reducible refine LeO.bind ?_ (fun _ => ?_))
      | exact ih0 _ _ _ _ _ _ _ _ _
      | exact ih1 _ _ _ _
      | exact ih2 _ _ _ _
      | exact disk_New.mono _ _
      | exact undercroftplain_SameBytes.mono _ _ _
      | exact LeO.none _
      | refine LeO.ite ?_ ?_
      | refine LeO.bind ?_ (fun _ => ?_)
theorem undercroftlaw03_DiskText.mono : ∀ a0 a1 a2 k, LeO (undercroftlaw03_DiskText.f k a0 a1 a2) (undercroftlaw03_DiskText.f (k + 1) a0 a1 a2) := by
  intro a0 a1 a2 k
  obtain ⟨ih0, ih1, ih2⟩ := undercroftlaw03_DiskText.mono_l k
  unfold undercroftlaw03_DiskText.f
  repeat' first
      | (with_reducible exact ih0 _ _ _ _ _ _ _ _ _)
      | (with_reducible exact ih1 _ _ _ _)
      | (with_reducible exact ih2 _ _ _ _)
      | (with_reducible exact disk_New.mono _ _)
      | (with_reducible exact undercroftplain_SameBytes.mono _ _ _)
      | (with_reducible exact LeO.refl _)
      | (with_reducible exact LeO.none _)
      | (with_reducible refine LeO.ite ?_ ?_)
      | (with_reducible refine LeO.bind ?_ (fun _ => ?_))
      | exact ih0 _ _ _ _ _ _ _ _ _
      | exact ih1 _ _ _ _
      | exact ih2 _ _ _ _
      | exact disk_New.mono _ _
      | exact undercroftplain_SameBytes.mono _ _ _
      | exact LeO.none _
      | refine LeO.ite ?_ ?_
      | refine LeO.bind ?_ (fun _ => ?_)
set_option maxHeartbeats 8000000 in
set_option maxRecDepth 100000 in
theorem undercroftlaw03_DiskText.calls (k : Nat) (a0 : Int) (a1 : Int) (A2 : Option Addr) (c2 : Nat) (l2 : List Int) (r : Bool) (w : World) (hr2 : Kd.C (Kd.int .u8) w A2 l2.length l2) (hc2 : l2.length ≤ c2) (h : undercroftlaw03_DiskText.f k a0 a1 l2 = some r) :
    Calls Try.prog 6 #[.int .i64 a0, .int .i64 a1, .slice A2 l2.length c2] w fun e w' => e = .returned (.bool r) ∧ Below w.heap.size w w' := by
  have hu30 := Try.underlying30
  have HR2 := Aside0.mk hr2
  have HC2 := Aside0.mk hc2
  clear hr2 hc2
  have HB := Aside0.mk (Below.refl w.heap.size w)
  have H : ((undercroftlaw03_alive.f).bind fun t447 => (if t447 = true then (if (wrap64 (1 + (Int.tmod (wrap64 ((Int.tmod a0 20) + 20)) 20))) = 0 then (none) else ((disk_New.f k (wrap64 (1 + (Int.tmod (wrap64 ((Int.tmod a0 20) + 20)) 20)))).bind fun bt448 => ((disk_PutAll.f bt448.1 bt448.2.1 (Int.tmod (wrap64 ((Int.tmod a1 (wrap64 (1 + (Int.tmod (wrap64 ((Int.tmod a0 20) + 20)) 20)))) + (wrap64 (1 + (Int.tmod (wrap64 ((Int.tmod a0 20) + 20)) 20))))) (wrap64 (1 + (Int.tmod (wrap64 ((Int.tmod a0 20) + 20)) 20)))) l2).bind fun bt456 => ((undercroftlaw03_num.f bt448.2.2).bind fun t464 => (if t464 = 0 then (undercroftlaw03_DiskText.j0 k (wrap64 (1 + (Int.tmod (wrap64 ((Int.tmod a0 20) + 20)) 20))) (Int.tmod (wrap64 ((Int.tmod a1 (wrap64 (1 + (Int.tmod (wrap64 ((Int.tmod a0 20) + 20)) 20)))) + (wrap64 (1 + (Int.tmod (wrap64 ((Int.tmod a0 20) + 20)) 20))))) (wrap64 (1 + (Int.tmod (wrap64 ((Int.tmod a0 20) + 20)) 20)))) l2 bt448.2.2 (wrap64 (Int.tdiv (wrap64 ((l2.length : Int) + 63)) 64)) bt456.2.2 (decide ((wrap64 ((Int.tmod (wrap64 ((Int.tmod a1 (wrap64 (1 + (Int.tmod (wrap64 ((Int.tmod a0 20) + 20)) 20)))) + (wrap64 (1 + (Int.tmod (wrap64 ((Int.tmod a0 20) + 20)) 20))))) (wrap64 (1 + (Int.tmod (wrap64 ((Int.tmod a0 20) + 20)) 20)))) + (wrap64 (Int.tdiv (wrap64 ((l2.length : Int) + 63)) 64)))) > (wrap64 (1 + (Int.tmod (wrap64 ((Int.tmod a0 20) + 20)) 20))))) bt456.1 bt456.2.1) else (undercroftlaw03_DiskText.j0 k (wrap64 (1 + (Int.tmod (wrap64 ((Int.tmod a0 20) + 20)) 20))) (Int.tmod (wrap64 ((Int.tmod a1 (wrap64 (1 + (Int.tmod (wrap64 ((Int.tmod a0 20) + 20)) 20)))) + (wrap64 (1 + (Int.tmod (wrap64 ((Int.tmod a0 20) + 20)) 20))))) (wrap64 (1 + (Int.tmod (wrap64 ((Int.tmod a0 20) + 20)) 20)))) l2 bt448.2.2 (wrap64 (Int.tdiv (wrap64 ((l2.length : Int) + 63)) 64)) bt456.2.2 true bt456.1 bt456.2.1)))))) else (none))) = some r := h
  clear h
  replace H := Option.bind_eq_some_iff.mp H
  obtain ⟨t447, A40, H⟩ := H
  replace H : (if t447 = true then (if (wrap64 (1 + (Int.tmod (wrap64 ((Int.tmod a0 20) + 20)) 20))) = 0 then (none) else ((disk_New.f k (wrap64 (1 + (Int.tmod (wrap64 ((Int.tmod a0 20) + 20)) 20)))).bind fun bt448 => ((disk_PutAll.f bt448.1 bt448.2.1 (Int.tmod (wrap64 ((Int.tmod a1 (wrap64 (1 + (Int.tmod (wrap64 ((Int.tmod a0 20) + 20)) 20)))) + (wrap64 (1 + (Int.tmod (wrap64 ((Int.tmod a0 20) + 20)) 20))))) (wrap64 (1 + (Int.tmod (wrap64 ((Int.tmod a0 20) + 20)) 20)))) l2).bind fun bt456 => ((undercroftlaw03_num.f bt448.2.2).bind fun t464 => (if t464 = 0 then (undercroftlaw03_DiskText.j0 k (wrap64 (1 + (Int.tmod (wrap64 ((Int.tmod a0 20) + 20)) 20))) (Int.tmod (wrap64 ((Int.tmod a1 (wrap64 (1 + (Int.tmod (wrap64 ((Int.tmod a0 20) + 20)) 20)))) + (wrap64 (1 + (Int.tmod (wrap64 ((Int.tmod a0 20) + 20)) 20))))) (wrap64 (1 + (Int.tmod (wrap64 ((Int.tmod a0 20) + 20)) 20)))) l2 bt448.2.2 (wrap64 (Int.tdiv (wrap64 ((l2.length : Int) + 63)) 64)) bt456.2.2 (decide ((wrap64 ((Int.tmod (wrap64 ((Int.tmod a1 (wrap64 (1 + (Int.tmod (wrap64 ((Int.tmod a0 20) + 20)) 20)))) + (wrap64 (1 + (Int.tmod (wrap64 ((Int.tmod a0 20) + 20)) 20))))) (wrap64 (1 + (Int.tmod (wrap64 ((Int.tmod a0 20) + 20)) 20)))) + (wrap64 (Int.tdiv (wrap64 ((l2.length : Int) + 63)) 64)))) > (wrap64 (1 + (Int.tmod (wrap64 ((Int.tmod a0 20) + 20)) 20))))) bt456.1 bt456.2.1) else (undercroftlaw03_DiskText.j0 k (wrap64 (1 + (Int.tmod (wrap64 ((Int.tmod a0 20) + 20)) 20))) (Int.tmod (wrap64 ((Int.tmod a1 (wrap64 (1 + (Int.tmod (wrap64 ((Int.tmod a0 20) + 20)) 20)))) + (wrap64 (1 + (Int.tmod (wrap64 ((Int.tmod a0 20) + 20)) 20))))) (wrap64 (1 + (Int.tmod (wrap64 ((Int.tmod a0 20) + 20)) 20)))) l2 bt448.2.2 (wrap64 (Int.tdiv (wrap64 ((l2.length : Int) + 63)) 64)) bt456.2.2 true bt456.1 bt456.2.1)))))) else (none)) = some r := H
  have A4 := Aside0.mk A40
  clear A40
  by_cases c5 : t447 = true
  · subst c5
    have H1 : (if (wrap64 (1 + (Int.tmod (wrap64 ((Int.tmod a0 20) + 20)) 20))) = 0 then (none) else ((disk_New.f k (wrap64 (1 + (Int.tmod (wrap64 ((Int.tmod a0 20) + 20)) 20)))).bind fun bt448 => ((disk_PutAll.f bt448.1 bt448.2.1 (Int.tmod (wrap64 ((Int.tmod a1 (wrap64 (1 + (Int.tmod (wrap64 ((Int.tmod a0 20) + 20)) 20)))) + (wrap64 (1 + (Int.tmod (wrap64 ((Int.tmod a0 20) + 20)) 20))))) (wrap64 (1 + (Int.tmod (wrap64 ((Int.tmod a0 20) + 20)) 20)))) l2).bind fun bt456 => ((undercroftlaw03_num.f bt448.2.2).bind fun t464 => (if t464 = 0 then (undercroftlaw03_DiskText.j0 k (wrap64 (1 + (Int.tmod (wrap64 ((Int.tmod a0 20) + 20)) 20))) (Int.tmod (wrap64 ((Int.tmod a1 (wrap64 (1 + (Int.tmod (wrap64 ((Int.tmod a0 20) + 20)) 20)))) + (wrap64 (1 + (Int.tmod (wrap64 ((Int.tmod a0 20) + 20)) 20))))) (wrap64 (1 + (Int.tmod (wrap64 ((Int.tmod a0 20) + 20)) 20)))) l2 bt448.2.2 (wrap64 (Int.tdiv (wrap64 ((l2.length : Int) + 63)) 64)) bt456.2.2 (decide ((wrap64 ((Int.tmod (wrap64 ((Int.tmod a1 (wrap64 (1 + (Int.tmod (wrap64 ((Int.tmod a0 20) + 20)) 20)))) + (wrap64 (1 + (Int.tmod (wrap64 ((Int.tmod a0 20) + 20)) 20))))) (wrap64 (1 + (Int.tmod (wrap64 ((Int.tmod a0 20) + 20)) 20)))) + (wrap64 (Int.tdiv (wrap64 ((l2.length : Int) + 63)) 64)))) > (wrap64 (1 + (Int.tmod (wrap64 ((Int.tmod a0 20) + 20)) 20))))) bt456.1 bt456.2.1) else (undercroftlaw03_DiskText.j0 k (wrap64 (1 + (Int.tmod (wrap64 ((Int.tmod a0 20) + 20)) 20))) (Int.tmod (wrap64 ((Int.tmod a1 (wrap64 (1 + (Int.tmod (wrap64 ((Int.tmod a0 20) + 20)) 20)))) + (wrap64 (1 + (Int.tmod (wrap64 ((Int.tmod a0 20) + 20)) 20))))) (wrap64 (1 + (Int.tmod (wrap64 ((Int.tmod a0 20) + 20)) 20)))) l2 bt448.2.2 (wrap64 (Int.tdiv (wrap64 ((l2.length : Int) + 63)) 64)) bt456.2.2 true bt456.1 bt456.2.1)))))) = some r := by rw [if_pos rfl] at H; exact H
    clear H
    have H := H1
    clear H1
    by_cases c6 : (wrap64 (1 + (Int.tmod (wrap64 ((Int.tmod a0 20) + 20)) 20))) = 0
    · rw [if_pos c6] at H
      exact absurd H (by simp)
    · rw [if_neg c6] at H
      have c6b0 : ((wrap64 (1 + (Int.tmod (wrap64 ((Int.tmod a0 20) + 20)) 20))) == 0) = false := beq_eq_false_iff_ne.mpr c6
      have c6b1 : ((wrap64 (1 + (Int.tmod (wrap64 ((Int.tmod a0 20) + 20)) 20))) != 0) = true := bne_iff_ne.mpr c6
      replace H := Option.bind_eq_some_iff.mp H
      obtain ⟨⟨t448, t451, t454⟩, A70, H⟩ := H
      replace H : ((disk_PutAll.f t448 t451 (Int.tmod (wrap64 ((Int.tmod a1 (wrap64 (1 + (Int.tmod (wrap64 ((Int.tmod a0 20) + 20)) 20)))) + (wrap64 (1 + (Int.tmod (wrap64 ((Int.tmod a0 20) + 20)) 20))))) (wrap64 (1 + (Int.tmod (wrap64 ((Int.tmod a0 20) + 20)) 20)))) l2).bind fun bt456 => ((undercroftlaw03_num.f t454).bind fun t464 => (if t464 = 0 then (undercroftlaw03_DiskText.j0 k (wrap64 (1 + (Int.tmod (wrap64 ((Int.tmod a0 20) + 20)) 20))) (Int.tmod (wrap64 ((Int.tmod a1 (wrap64 (1 + (Int.tmod (wrap64 ((Int.tmod a0 20) + 20)) 20)))) + (wrap64 (1 + (Int.tmod (wrap64 ((Int.tmod a0 20) + 20)) 20))))) (wrap64 (1 + (Int.tmod (wrap64 ((Int.tmod a0 20) + 20)) 20)))) l2 t454 (wrap64 (Int.tdiv (wrap64 ((l2.length : Int) + 63)) 64)) bt456.2.2 (decide ((wrap64 ((Int.tmod (wrap64 ((Int.tmod a1 (wrap64 (1 + (Int.tmod (wrap64 ((Int.tmod a0 20) + 20)) 20)))) + (wrap64 (1 + (Int.tmod (wrap64 ((Int.tmod a0 20) + 20)) 20))))) (wrap64 (1 + (Int.tmod (wrap64 ((Int.tmod a0 20) + 20)) 20)))) + (wrap64 (Int.tdiv (wrap64 ((l2.length : Int) + 63)) 64)))) > (wrap64 (1 + (Int.tmod (wrap64 ((Int.tmod a0 20) + 20)) 20))))) bt456.1 bt456.2.1) else (undercroftlaw03_DiskText.j0 k (wrap64 (1 + (Int.tmod (wrap64 ((Int.tmod a0 20) + 20)) 20))) (Int.tmod (wrap64 ((Int.tmod a1 (wrap64 (1 + (Int.tmod (wrap64 ((Int.tmod a0 20) + 20)) 20)))) + (wrap64 (1 + (Int.tmod (wrap64 ((Int.tmod a0 20) + 20)) 20))))) (wrap64 (1 + (Int.tmod (wrap64 ((Int.tmod a0 20) + 20)) 20)))) l2 t454 (wrap64 (Int.tdiv (wrap64 ((l2.length : Int) + 63)) 64)) bt456.2.2 true bt456.1 bt456.2.1)))) = some r := H
      have A7 := Aside0.mk A70
      clear A70
      replace H := Option.bind_eq_some_iff.mp H
      obtain ⟨⟨t456, t459, t462⟩, A80, H⟩ := H
      replace H : ((undercroftlaw03_num.f t454).bind fun t464 => (if t464 = 0 then (undercroftlaw03_DiskText.j0 k (wrap64 (1 + (Int.tmod (wrap64 ((Int.tmod a0 20) + 20)) 20))) (Int.tmod (wrap64 ((Int.tmod a1 (wrap64 (1 + (Int.tmod (wrap64 ((Int.tmod a0 20) + 20)) 20)))) + (wrap64 (1 + (Int.tmod (wrap64 ((Int.tmod a0 20) + 20)) 20))))) (wrap64 (1 + (Int.tmod (wrap64 ((Int.tmod a0 20) + 20)) 20)))) l2 t454 (wrap64 (Int.tdiv (wrap64 ((l2.length : Int) + 63)) 64)) t462 (decide ((wrap64 ((Int.tmod (wrap64 ((Int.tmod a1 (wrap64 (1 + (Int.tmod (wrap64 ((Int.tmod a0 20) + 20)) 20)))) + (wrap64 (1 + (Int.tmod (wrap64 ((Int.tmod a0 20) + 20)) 20))))) (wrap64 (1 + (Int.tmod (wrap64 ((Int.tmod a0 20) + 20)) 20)))) + (wrap64 (Int.tdiv (wrap64 ((l2.length : Int) + 63)) 64)))) > (wrap64 (1 + (Int.tmod (wrap64 ((Int.tmod a0 20) + 20)) 20))))) t456 t459) else (undercroftlaw03_DiskText.j0 k (wrap64 (1 + (Int.tmod (wrap64 ((Int.tmod a0 20) + 20)) 20))) (Int.tmod (wrap64 ((Int.tmod a1 (wrap64 (1 + (Int.tmod (wrap64 ((Int.tmod a0 20) + 20)) 20)))) + (wrap64 (1 + (Int.tmod (wrap64 ((Int.tmod a0 20) + 20)) 20))))) (wrap64 (1 + (Int.tmod (wrap64 ((Int.tmod a0 20) + 20)) 20)))) l2 t454 (wrap64 (Int.tdiv (wrap64 ((l2.length : Int) + 63)) 64)) t462 true t456 t459))) = some r := H
      have A8 := Aside0.mk A80
      clear A80
      have HC9 := Aside0.mk H
      clear H
      go_enter Try.func6, Try.ntmps6
      go_upto_region 8 with (first | ((with_reducible refine gate_callee (f := 8) rfl ?_); refine goesL_ (some 18) rfl rfl Try.func8 (by kernel_rfl) rfl #[] rfl (by (try simp only [List.map_toArray, List.map_cons, List.map_nil]); first | done | rfl | (simp only [List.length_drop, List.length_take]; rfl)) ?_; (with_reducible refine (undercroftlaw03_alive.calls  true _ A4.out).mono ?_); rintro e w10 ⟨rfl, hb⟩; refine ⟨_, rfl, ?_⟩; have n0_ := Aside0.mk (below_step (by repeat (first | (with_reducible first | exact HB.out | apply below_alloc | apply pw_below_drewN | apply below_drew1) | exact HB.out)) hb); clear HB; have HB := n0_; clear n0_; (try clear hb); (try clear hb2); (try clear hk); (try clear hi)) | ((with_reducible refine gate_callee (f := 24) rfl ?_); refine goesL_ (some 34) rfl rfl Try.func24 (by kernel_rfl) rfl #[.int .i64 (wrap64 (1 + (Int.tmod (wrap64 ((Int.tmod a0 20) + 20)) 20)))] rfl (by (try simp only [List.map_toArray, List.map_cons, List.map_nil]); first | done | rfl | (simp only [List.length_drop, List.length_take]; rfl)) ?_; (with_reducible refine (disk_New.calls k (wrap64 (1 + (Int.tmod (wrap64 ((Int.tmod a0 20) + 20)) 20))) t448 t451 t454 _ A7.out).mono ?_); rintro e w11 ⟨v449, v452, rfl, ho0, ho1, hb⟩; refine ⟨_, rfl, ?_⟩; have n0_ := Aside0.mk (Kd.S_lower ho0 (below_size (by repeat (first | (with_reducible first | exact HB.out | apply below_alloc | apply pw_below_drewN | apply below_drew1) | exact HB.out)))); have n1_ := Aside0.mk (Kd.S_lower ho1 (below_size (by repeat (first | (with_reducible first | exact HB.out | apply below_alloc | apply pw_below_drewN | apply below_drew1) | exact HB.out)))); have n2_ := Aside0.mk (below_step (by repeat (first | (with_reducible first | exact HB.out | apply below_alloc | apply pw_below_drewN | apply below_drew1) | exact HB.out)) hb); clear HB; have HO450 := n0_; have HO453 := n1_; have HB := n2_; clear n0_ n1_ n2_; (try clear hb); (try clear hb2); (try clear hk); (try clear hi); (try clear ho0); (try clear ho1)) | ((with_reducible refine gate_dst (N := 7) rfl ?_); (try (refine gate_guard (by rfl) ?_; dsimp only)); refine box_event ?hg (N := 7) ?hd (cs := #[.slice none 0 0, .slice none 0 0]) (t := 30) ?hr ?_; (case hd => rfl); (case hg => rfl); (case hr => first | (go_simp; done) | (go_simp; rfl)); intro gb455 hg w12 hbox hb; have n0_ := Aside0.mk (Kd.S_below (by (with_reducible repeat (first | apply Kd.S_alloc | apply Kd.S_drewN | apply Kd.S_drew)); exact HO450.out) hb); have n1_ := Aside0.mk (Kd.S_below (by (with_reducible repeat (first | apply Kd.S_alloc | apply Kd.S_drewN | apply Kd.S_drew)); exact HO453.out) hb); have n2_ := Aside0.mk (below_step (by repeat (first | (with_reducible first | exact HB.out | apply below_alloc | apply pw_below_drewN | apply below_drew1) | exact HB.out)) hb); have n3_ := Aside0.mk (hbox); have n4_ := Aside0.mk ((by rw [hg]; exact (below_size (by repeat (first | (with_reducible first | exact HB.out | apply below_alloc | apply pw_below_drewN | apply below_drew1) | exact HB.out))) : w.heap.size ≤ gb455)); have n5_ := Aside0.mk ((by rw [hg]; exact (below_size (by repeat (first | (with_reducible first | exact HB.out | apply below_alloc | apply pw_below_drewN | apply below_drew1) | exact HB.out))) : w.heap.size ≤ gb455)); clear HO450; clear HO453; clear HB; have HO450 := n0_; have HO453 := n1_; have HB := n2_; have BK455 := n3_; have GW455 := n4_; have GE455 := n5_; clear n0_ n1_ n2_ n3_ n4_ n5_; clear hb hbox hg; obtain ⟨Ao13, co13, eo13⟩ := Kd.S_slice HO450.out; subst eo13; have hcz14_0 : w12.cell? ⟨gb455, 0, none⟩ = some (.slice none 0 0) := (blk_cell BK455.out 0).trans rfl; have hcz14_1 : w12.cell? ⟨gb455, 1, none⟩ = some (.slice none 0 0) := (blk_cell BK455.out 1).trans rfl; have hfz14_0 := blk_frozen BK455.out 0; have hfz14_1 := blk_frozen BK455.out 1; obtain ⟨Ao15, co15, eo15⟩ := Kd.S_slice HO453.out; subst eo15) | ((with_reducible refine gate_callee (f := 25) rfl ?_); refine goesL_ (some 45) rfl rfl Try.func25 (by kernel_rfl) rfl #[.agg #[.slice Ao13 t448.length co13, .slice Ao15 t451.length co15], .int .i64 (Int.tmod (wrap64 ((Int.tmod a1 (wrap64 (1 + (Int.tmod (wrap64 ((Int.tmod a0 20) + 20)) 20)))) + (wrap64 (1 + (Int.tmod (wrap64 ((Int.tmod a0 20) + 20)) 20))))) (wrap64 (1 + (Int.tmod (wrap64 ((Int.tmod a0 20) + 20)) 20)))), .slice A2 l2.length c2] rfl (by (try simp only [List.map_toArray, List.map_cons, List.map_nil]); first | done | rfl | (simp only [List.length_drop, List.length_take]; rfl)) ?_; (with_reducible refine (disk_PutAll.calls _ _ t448 _ _ t451 (Int.tmod (wrap64 ((Int.tmod a1 (wrap64 (1 + (Int.tmod (wrap64 ((Int.tmod a0 20) + 20)) 20)))) + (wrap64 (1 + (Int.tmod (wrap64 ((Int.tmod a0 20) + 20)) 20))))) (wrap64 (1 + (Int.tmod (wrap64 ((Int.tmod a0 20) + 20)) 20)))) _ _ l2 t456 t459 t462 _ ?side1 ?side2 ?side3 ?side4 ?side5 ?side6 A8.out).mono ?_); (case side1 => refine (Kd.S_reads' (e := 36) (base := w.heap.size) (ok := fun k_ => True) (n := t448.length) (c := co13) ?_).2.2; exact (by (with_reducible repeat (first | apply Kd.S_alloc | apply Kd.S_drewN | apply Kd.S_drew)); exact (Kd.S_mono (Kd.S_far (p := ⟨gb455, 1, none⟩) (Kd.S_far (p := ⟨gb455, 0, none⟩) (Kd.S_types HO450.out BK455.out (by decide)) (fun _ hk => hk.2) (.slice Ao13 t448.length co13)) (fun _ hk => hk.2) (.slice Ao15 t451.length co15)) (fun _ h_ => h_.1)))); (case side2 => exact (Kd.S_reads' HO450.out).2.1); (case side3 => refine (Kd.S_reads' (e := 62) (base := w.heap.size) (ok := fun k_ => True) (n := t451.length) (c := co15) ?_).2.2; exact (by (with_reducible repeat (first | apply Kd.S_alloc | apply Kd.S_drewN | apply Kd.S_drew)); exact (Kd.S_mono (Kd.S_far (p := ⟨gb455, 1, none⟩) (Kd.S_far (p := ⟨gb455, 0, none⟩) (Kd.S_types HO453.out BK455.out (by decide)) (fun _ hk => hk.2) (.slice Ao13 t448.length co13)) (fun _ hk => hk.2) (.slice Ao15 t451.length co15)) (fun _ h_ => h_.1)))); (case side4 => exact (Kd.S_reads' HO453.out).2.1); (case side5 => exact Kd.C_below HR2.out (by repeat (first | (with_reducible first | exact HB.out | apply below_alloc | apply pw_below_drewN | apply below_drew1 | refine below_set ?_ GE455.out) | exact HB.out))); (case side6 => exact HC2.out); rintro e w16 ⟨v457, v460, rfl, ho0, ho1, hb⟩; refine ⟨_, rfl, ?_⟩; have n0_ := Aside0.mk (Kd.S_elder' (by (with_reducible repeat (first | apply Kd.S_alloc | apply Kd.S_drewN | apply Kd.S_drew)); exact (Kd.S_mono (Kd.S_far (p := ⟨gb455, 1, none⟩) (Kd.S_far (p := ⟨gb455, 0, none⟩) (Kd.S_types HO450.out BK455.out (by decide)) (fun _ hk => hk.2) (.slice Ao13 t448.length co13)) (fun _ hk => hk.2) (.slice Ao15 t451.length co15)) (fun _ h_ => h_.1))) (Kd.S_base ho0) hb); have n1_ := Aside0.mk (Kd.S_elder' (by (with_reducible repeat (first | apply Kd.S_alloc | apply Kd.S_drewN | apply Kd.S_drew)); exact (Kd.S_mono (Kd.S_far (p := ⟨gb455, 1, none⟩) (Kd.S_far (p := ⟨gb455, 0, none⟩) (Kd.S_types HO453.out BK455.out (by decide)) (fun _ hk => hk.2) (.slice Ao13 t448.length co13)) (fun _ hk => hk.2) (.slice Ao15 t451.length co15)) (fun _ h_ => h_.1))) (Kd.S_base ho1) hb); have n2_ := Aside0.mk (Kd.S_lower (Kd.S_new' ho0 (Kd.S_lt (by (with_reducible repeat (first | apply Kd.S_alloc | apply Kd.S_drewN | apply Kd.S_drew)); exact (Kd.S_mono (Kd.S_far (p := ⟨gb455, 1, none⟩) (Kd.S_far (p := ⟨gb455, 0, none⟩) (Kd.S_types HO450.out BK455.out (by decide)) (fun _ hk => hk.2) (.slice Ao13 t448.length co13)) (fun _ hk => hk.2) (.slice Ao15 t451.length co15)) (fun _ h_ => h_.1))))) (below_size (by repeat (first | (with_reducible first | exact HB.out | apply below_alloc | apply pw_below_drewN | apply below_drew1 | refine below_set ?_ GE455.out) | exact HB.out)))); have n3_ := Aside0.mk (Kd.S_lower (Kd.S_new' ho1 (Kd.S_lt (by (with_reducible repeat (first | apply Kd.S_alloc | apply Kd.S_drewN | apply Kd.S_drew)); exact (Kd.S_mono (Kd.S_far (p := ⟨gb455, 1, none⟩) (Kd.S_far (p := ⟨gb455, 0, none⟩) (Kd.S_types HO453.out BK455.out (by decide)) (fun _ hk => hk.2) (.slice Ao13 t448.length co13)) (fun _ hk => hk.2) (.slice Ao15 t451.length co15)) (fun _ h_ => h_.1))))) (below_size (by repeat (first | (with_reducible first | exact HB.out | apply below_alloc | apply pw_below_drewN | apply below_drew1 | refine below_set ?_ GE455.out) | exact HB.out)))); have n4_ := Aside0.mk (blk_below (g := gb455) (o := .cells #[.slice Ao13 t448.length co13, .slice Ao15 t451.length co15] 30 (0, 0)) (by (with_reducible repeat (first | refine blk_drewN ?_ _ | refine blk_drew ?_ | refine blk_alloc ?_ _)); refine blk_put (cs := #[.slice Ao13 t448.length co13, .slice none 0 0]) ?_ 1 _ rfl; (with_reducible repeat (first | refine blk_drewN ?_ _ | refine blk_drew ?_ | refine blk_alloc ?_ _)); refine blk_put (cs := #[.slice none 0 0, .slice none 0 0]) ?_ 0 _ rfl; (with_reducible repeat (first | refine blk_drewN ?_ _ | refine blk_drew ?_ | refine blk_alloc ?_ _)); exact BK455.out) hb); have n5_ := Aside0.mk (below_step (by repeat (first | (with_reducible first | exact HB.out | apply below_alloc | apply pw_below_drewN | apply below_drew1 | refine below_set ?_ GE455.out) | exact HB.out)) hb); clear HO450; clear HO453; clear BK455; clear HB; have HO450 := n0_; have HO453 := n1_; have HO458 := n2_; have HO461 := n3_; have BK455 := n4_; have HB := n5_; clear n0_ n1_ n2_ n3_ n4_ n5_; (try clear hb); (try clear hb2); (try clear hk); (try clear hi); (try clear ho0); (try clear ho1)) | ((with_reducible refine gate_dst (N := 10) rfl ?_); (try (refine gate_guard (by rfl) ?_; dsimp only)); refine box_event ?hg (N := 10) ?hd (cs := #[.slice none 0 0, .slice none 0 0]) (t := 30) ?hr ?_; (case hd => rfl); (case hg => rfl); (case hr => first | (go_simp; done) | (go_simp; rfl)); intro gb463 hg w17 hbox hb; have n0_ := Aside0.mk (Kd.S_below (by (with_reducible repeat (first | apply Kd.S_alloc | apply Kd.S_drewN | apply Kd.S_drew)); exact HO450.out) hb); have n1_ := Aside0.mk (Kd.S_below (by (with_reducible repeat (first | apply Kd.S_alloc | apply Kd.S_drewN | apply Kd.S_drew)); exact HO453.out) hb); have n2_ := Aside0.mk (Kd.S_below (by (with_reducible repeat (first | apply Kd.S_alloc | apply Kd.S_drewN | apply Kd.S_drew)); exact HO458.out) hb); have n3_ := Aside0.mk (Kd.S_below (by (with_reducible repeat (first | apply Kd.S_alloc | apply Kd.S_drewN | apply Kd.S_drew)); exact HO461.out) hb); have n4_ := Aside0.mk (blk_below (g := gb455) (o := .cells #[.slice Ao13 t448.length co13, .slice Ao15 t451.length co15] 30 (0, 0)) (by (with_reducible repeat (first | refine blk_drewN ?_ _ | refine blk_drew ?_ | refine blk_alloc ?_ _)); exact BK455.out) hb); have n5_ := Aside0.mk (below_step (by repeat (first | (with_reducible first | exact HB.out | apply below_alloc | apply pw_below_drewN | apply below_drew1 | refine below_set ?_ GE455.out) | exact HB.out)) hb); have n6_ := Aside0.mk (hbox); have n7_ := Aside0.mk ((by rw [hg]; exact (below_size (by repeat (first | (with_reducible first | exact HB.out | apply below_alloc | apply pw_below_drewN | apply below_drew1 | refine below_set ?_ GE455.out) | exact HB.out))) : w.heap.size ≤ gb463)); have n8_ := Aside0.mk ((by rw [hg]; exact (below_size (by repeat (first | (with_reducible first | exact HB.out | apply below_alloc | apply pw_below_drewN | apply below_drew1 | refine below_set ?_ GE455.out) | exact HB.out))) : w.heap.size ≤ gb463)); have n9_ := Aside0.mk ((by rw [hg]; exact Nat.ne_of_lt (blk_lt (g := gb455) (o := .cells #[.slice Ao13 t448.length co13, .slice Ao15 t451.length co15] 30 (0, 0)) (by (with_reducible repeat (first | refine blk_drewN ?_ _ | refine blk_drew ?_ | refine blk_alloc ?_ _)); exact BK455.out)) : gb455 ≠ gb463)); have n10_ := Aside0.mk ((by rw [hg]; exact Nat.ne_of_gt (blk_lt (g := gb455) (o := .cells #[.slice Ao13 t448.length co13, .slice Ao15 t451.length co15] 30 (0, 0)) (by (with_reducible repeat (first | refine blk_drewN ?_ _ | refine blk_drew ?_ | refine blk_alloc ?_ _)); exact BK455.out)) : gb463 ≠ gb455)); clear HO450; clear HO453; clear HO458; clear HO461; clear BK455; clear HB; have HO450 := n0_; have HO453 := n1_; have HO458 := n2_; have HO461 := n3_; have BK455 := n4_; have HB := n5_; have BK463 := n6_; have GW463 := n7_; have GE463 := n8_; have NB455_463 := n9_; have NB463_455 := n10_; clear n0_ n1_ n2_ n3_ n4_ n5_ n6_ n7_ n8_ n9_ n10_; clear hb hbox hg; obtain ⟨Ao18, co18, eo18⟩ := Kd.S_slice HO458.out; subst eo18; have hnb19 := NB463_455.out; have hnc19 := NB455_463.out; have hcz20_0 : w17.cell? ⟨gb463, 0, none⟩ = some (.slice none 0 0) := (blk_cell BK463.out 0).trans rfl; have hcz20_1 : w17.cell? ⟨gb463, 1, none⟩ = some (.slice none 0 0) := (blk_cell BK463.out 1).trans rfl; have hfz20_0 := blk_frozen BK463.out 0; have hfz20_1 := blk_frozen BK463.out 1; obtain ⟨Ao21, co21, eo21⟩ := Kd.S_slice HO461.out; subst eo21))
      (try simp only [Act.put, List.setIfInBounds_toArray, List.set_cons_zero, List.set_cons_succ])
      go_cut [57] (fun v57 wc => ∃ (kq : Nat) (x57_8 : Bool), v57 = .bool x57_8 ∧ Aside0 (undercroftlaw03_DiskText.j0 kq (wrap64 (1 + (Int.tmod (wrap64 ((Int.tmod a0 20) + 20)) 20))) (Int.tmod (wrap64 ((Int.tmod a1 (wrap64 (1 + (Int.tmod (wrap64 ((Int.tmod a0 20) + 20)) 20)))) + (wrap64 (1 + (Int.tmod (wrap64 ((Int.tmod a0 20) + 20)) 20))))) (wrap64 (1 + (Int.tmod (wrap64 ((Int.tmod a0 20) + 20)) 20)))) l2 t454 (wrap64 (Int.tdiv (wrap64 ((l2.length : Int) + 63)) 64)) t462 x57_8 t456 t459 = some r) ∧ Aside0 (kq ≤ k) ∧ Aside0 (Kd.S (Kd.slice 5 (Kd.int .u8)) 36 wc w.heap.size (fun k_ => some k_ ≠ ((.slice Ao18 t456.length co18) : Value).ownBlock) (.slice Ao13 t448.length co13) t448) ∧ Aside0 (Kd.S k62 62 wc w.heap.size (fun k_ => some k_ ≠ ((.slice Ao21 t459.length co21) : Value).ownBlock) (.slice Ao15 t451.length co15) t451) ∧ Aside0 (Kd.S (Kd.slice 5 (Kd.int .u8)) 36 wc w.heap.size (fun k_ => some k_ ≠ ((.slice Ao13 t448.length co13) : Value).ownBlock) (.slice Ao18 t456.length co18) t456) ∧ Aside0 (Kd.S k62 62 wc w.heap.size (fun k_ => some k_ ≠ ((.slice Ao15 t451.length co15) : Value).ownBlock) (.slice Ao21 t459.length co21) t459) ∧ Aside0 (wc.heap[gb455]? = some (.cells #[(.slice Ao13 t448.length co13), (.slice Ao15 t451.length co15)] 30 (0, 0))) ∧ Aside0 (wc.heap[gb463]? = some (.cells #[(.slice Ao18 t456.length co18), (.slice Ao21 t459.length co21)] 30 (0, 0))) ∧ Aside0 (Below w.heap.size w wc))
      case first =>
        have H := HC9.out
        clear HC9
        replace H := Option.bind_eq_some_iff.mp H
        obtain ⟨t464, A220, H⟩ := H
        replace H : (if t464 = 0 then (undercroftlaw03_DiskText.j0 k (wrap64 (1 + (Int.tmod (wrap64 ((Int.tmod a0 20) + 20)) 20))) (Int.tmod (wrap64 ((Int.tmod a1 (wrap64 (1 + (Int.tmod (wrap64 ((Int.tmod a0 20) + 20)) 20)))) + (wrap64 (1 + (Int.tmod (wrap64 ((Int.tmod a0 20) + 20)) 20))))) (wrap64 (1 + (Int.tmod (wrap64 ((Int.tmod a0 20) + 20)) 20)))) l2 t454 (wrap64 (Int.tdiv (wrap64 ((l2.length : Int) + 63)) 64)) t462 (decide ((wrap64 ((Int.tmod (wrap64 ((Int.tmod a1 (wrap64 (1 + (Int.tmod (wrap64 ((Int.tmod a0 20) + 20)) 20)))) + (wrap64 (1 + (Int.tmod (wrap64 ((Int.tmod a0 20) + 20)) 20))))) (wrap64 (1 + (Int.tmod (wrap64 ((Int.tmod a0 20) + 20)) 20)))) + (wrap64 (Int.tdiv (wrap64 ((l2.length : Int) + 63)) 64)))) > (wrap64 (1 + (Int.tmod (wrap64 ((Int.tmod a0 20) + 20)) 20))))) t456 t459) else (undercroftlaw03_DiskText.j0 k (wrap64 (1 + (Int.tmod (wrap64 ((Int.tmod a0 20) + 20)) 20))) (Int.tmod (wrap64 ((Int.tmod a1 (wrap64 (1 + (Int.tmod (wrap64 ((Int.tmod a0 20) + 20)) 20)))) + (wrap64 (1 + (Int.tmod (wrap64 ((Int.tmod a0 20) + 20)) 20))))) (wrap64 (1 + (Int.tmod (wrap64 ((Int.tmod a0 20) + 20)) 20)))) l2 t454 (wrap64 (Int.tdiv (wrap64 ((l2.length : Int) + 63)) 64)) t462 true t456 t459)) = some r := H
        have A22 := Aside0.mk A220
        clear A220
        by_cases c23 : t464 = 0
        · rw [if_pos c23] at H
          have c23b0 : (t464 == 0) = true := beq_iff_eq.mpr c23
          have c23b1 : (t464 != 0) = false := bne_eq_false_iff_eq.mpr c23
          clear c23
          (first | rw [c23b0] | (simp only [i64_w, i32_w]; rw [c23b0]) | skip)
          have H' := Aside0.mk H
          clear H
          go_wp2_with (first | ((with_reducible refine gate_callee (f := 11) rfl ?_); refine goesL_ (some 49) rfl rfl Try.func11 (by kernel_rfl) rfl #[.int .i64 t454] rfl (by (try simp only [List.map_toArray, List.map_cons, List.map_nil]); first | done | rfl | (simp only [List.length_drop, List.length_take]; rfl)) ?_; (with_reducible refine (undercroftlaw03_num.calls t454 t464 _ A22.out).mono ?_); rintro e w' ⟨rfl, ⟨nd, rfl⟩⟩; refine ⟨_, rfl, ?_⟩))
          go_meet
          case rel => exact ⟨_, (decide ((wrap64 ((Int.tmod (wrap64 ((Int.tmod a1 (wrap64 (1 + (Int.tmod (wrap64 ((Int.tmod a0 20) + 20)) 20)))) + (wrap64 (1 + (Int.tmod (wrap64 ((Int.tmod a0 20) + 20)) 20))))) (wrap64 (1 + (Int.tmod (wrap64 ((Int.tmod a0 20) + 20)) 20)))) + (wrap64 (Int.tdiv (wrap64 ((l2.length : Int) + 63)) 64)))) > (wrap64 (1 + (Int.tmod (wrap64 ((Int.tmod a0 20) + 20)) 20))))), (by first | rfl | (simp; done) | (simp [*]; done)), H', ⟨by first | omega | exact Nat.le_refl _⟩, ⟨by (with_reducible repeat (first | apply Kd.S_alloc | apply Kd.S_drewN | apply Kd.S_drew)); exact Kd.S_mono (Kd.S_far (p := ⟨gb463, 1, none⟩) (Kd.S_far (p := ⟨gb463, 0, none⟩) (Kd.S_types HO450.out BK463.out (by decide)) (fun _ hk => hk.2) (.slice Ao18 t456.length co18)) (fun _ hk => hk.2) (.slice Ao21 t459.length co21)) (fun _ hk => hk.1.2)⟩, ⟨by (with_reducible repeat (first | apply Kd.S_alloc | apply Kd.S_drewN | apply Kd.S_drew)); exact Kd.S_mono (Kd.S_far (p := ⟨gb463, 1, none⟩) (Kd.S_far (p := ⟨gb463, 0, none⟩) (Kd.S_types HO453.out BK463.out (by decide)) (fun _ hk => hk.2) (.slice Ao18 t456.length co18)) (fun _ hk => hk.2) (.slice Ao21 t459.length co21)) (fun _ hk => hk.1.2)⟩, ⟨by (with_reducible repeat (first | apply Kd.S_alloc | apply Kd.S_drewN | apply Kd.S_drew)); exact Kd.S_mono (Kd.S_far (p := ⟨gb463, 1, none⟩) (Kd.S_far (p := ⟨gb463, 0, none⟩) (Kd.S_types HO458.out BK463.out (by decide)) (fun _ hk => hk.2) (.slice Ao18 t456.length co18)) (fun _ hk => hk.2) (.slice Ao21 t459.length co21)) (fun _ hk => hk.1.2)⟩, ⟨by (with_reducible repeat (first | apply Kd.S_alloc | apply Kd.S_drewN | apply Kd.S_drew)); exact Kd.S_mono (Kd.S_far (p := ⟨gb463, 1, none⟩) (Kd.S_far (p := ⟨gb463, 0, none⟩) (Kd.S_types HO461.out BK463.out (by decide)) (fun _ hk => hk.2) (.slice Ao18 t456.length co18)) (fun _ hk => hk.2) (.slice Ao21 t459.length co21)) (fun _ hk => hk.1.2)⟩, ⟨by (with_reducible repeat (first | refine blk_drewN ?_ _ | refine blk_drew ?_ | refine blk_alloc ?_ _)); refine blk_far ?_ NB455_463.out _; (with_reducible repeat (first | refine blk_drewN ?_ _ | refine blk_drew ?_ | refine blk_alloc ?_ _)); refine blk_far ?_ NB455_463.out _; (with_reducible repeat (first | refine blk_drewN ?_ _ | refine blk_drew ?_ | refine blk_alloc ?_ _)); exact BK455.out⟩, ⟨by (with_reducible repeat (first | refine blk_drewN ?_ _ | refine blk_drew ?_ | refine blk_alloc ?_ _)); refine blk_put (cs := #[.slice Ao18 t456.length co18, .slice none 0 0]) ?_ 1 _ rfl; (with_reducible repeat (first | refine blk_drewN ?_ _ | refine blk_drew ?_ | refine blk_alloc ?_ _)); refine blk_put (cs := #[.slice none 0 0, .slice none 0 0]) ?_ 0 _ rfl; (with_reducible repeat (first | refine blk_drewN ?_ _ | refine blk_drew ?_ | refine blk_alloc ?_ _)); exact BK463.out⟩, ⟨by repeat (first | (with_reducible first | exact HB.out | apply below_alloc | apply pw_below_drewN | apply below_drew1 | refine below_set ?_ GE455.out | refine below_set ?_ GE463.out) | exact HB.out)⟩⟩
        · rw [if_neg c23] at H
          have c23b0 : (t464 == 0) = false := beq_eq_false_iff_ne.mpr c23
          have c23b1 : (t464 != 0) = true := bne_iff_ne.mpr c23
          (first | rw [c23b0] | (simp only [i64_w, i32_w]; rw [c23b0]) | skip)
          have H' := Aside0.mk H
          clear H
          go_wp2_with (first | ((with_reducible refine gate_callee (f := 11) rfl ?_); refine goesL_ (some 49) rfl rfl Try.func11 (by kernel_rfl) rfl #[.int .i64 t454] rfl (by (try simp only [List.map_toArray, List.map_cons, List.map_nil]); first | done | rfl | (simp only [List.length_drop, List.length_take]; rfl)) ?_; (with_reducible refine (undercroftlaw03_num.calls t454 t464 _ A22.out).mono ?_); rintro e w' ⟨rfl, ⟨nd, rfl⟩⟩; refine ⟨_, rfl, ?_⟩))
          go_meet
          case rel => exact ⟨_, (true), (by first | rfl | (simp; done) | (simp [*]; done)), H', ⟨by first | omega | exact Nat.le_refl _⟩, ⟨by (with_reducible repeat (first | apply Kd.S_alloc | apply Kd.S_drewN | apply Kd.S_drew)); exact Kd.S_mono (Kd.S_far (p := ⟨gb463, 1, none⟩) (Kd.S_far (p := ⟨gb463, 0, none⟩) (Kd.S_types HO450.out BK463.out (by decide)) (fun _ hk => hk.2) (.slice Ao18 t456.length co18)) (fun _ hk => hk.2) (.slice Ao21 t459.length co21)) (fun _ hk => hk.1.2)⟩, ⟨by (with_reducible repeat (first | apply Kd.S_alloc | apply Kd.S_drewN | apply Kd.S_drew)); exact Kd.S_mono (Kd.S_far (p := ⟨gb463, 1, none⟩) (Kd.S_far (p := ⟨gb463, 0, none⟩) (Kd.S_types HO453.out BK463.out (by decide)) (fun _ hk => hk.2) (.slice Ao18 t456.length co18)) (fun _ hk => hk.2) (.slice Ao21 t459.length co21)) (fun _ hk => hk.1.2)⟩, ⟨by (with_reducible repeat (first | apply Kd.S_alloc | apply Kd.S_drewN | apply Kd.S_drew)); exact Kd.S_mono (Kd.S_far (p := ⟨gb463, 1, none⟩) (Kd.S_far (p := ⟨gb463, 0, none⟩) (Kd.S_types HO458.out BK463.out (by decide)) (fun _ hk => hk.2) (.slice Ao18 t456.length co18)) (fun _ hk => hk.2) (.slice Ao21 t459.length co21)) (fun _ hk => hk.1.2)⟩, ⟨by (with_reducible repeat (first | apply Kd.S_alloc | apply Kd.S_drewN | apply Kd.S_drew)); exact Kd.S_mono (Kd.S_far (p := ⟨gb463, 1, none⟩) (Kd.S_far (p := ⟨gb463, 0, none⟩) (Kd.S_types HO461.out BK463.out (by decide)) (fun _ hk => hk.2) (.slice Ao18 t456.length co18)) (fun _ hk => hk.2) (.slice Ao21 t459.length co21)) (fun _ hk => hk.1.2)⟩, ⟨by (with_reducible repeat (first | refine blk_drewN ?_ _ | refine blk_drew ?_ | refine blk_alloc ?_ _)); refine blk_far ?_ NB455_463.out _; (with_reducible repeat (first | refine blk_drewN ?_ _ | refine blk_drew ?_ | refine blk_alloc ?_ _)); refine blk_far ?_ NB455_463.out _; (with_reducible repeat (first | refine blk_drewN ?_ _ | refine blk_drew ?_ | refine blk_alloc ?_ _)); exact BK455.out⟩, ⟨by (with_reducible repeat (first | refine blk_drewN ?_ _ | refine blk_drew ?_ | refine blk_alloc ?_ _)); refine blk_put (cs := #[.slice Ao18 t456.length co18, .slice none 0 0]) ?_ 1 _ rfl; (with_reducible repeat (first | refine blk_drewN ?_ _ | refine blk_drew ?_ | refine blk_alloc ?_ _)); refine blk_put (cs := #[.slice none 0 0, .slice none 0 0]) ?_ 0 _ rfl; (with_reducible repeat (first | refine blk_drewN ?_ _ | refine blk_drew ?_ | refine blk_alloc ?_ _)); exact BK463.out⟩, ⟨by repeat (first | (with_reducible first | exact HB.out | apply below_alloc | apply pw_below_drewN | apply below_drew1 | refine below_set ?_ GE455.out | refine below_set ?_ GE463.out) | exact HB.out)⟩⟩
      case rest =>
        clear HC9
        try clear c1
        try clear c2
        try clear p2
        try clear c5
        try clear c6
        try clear c6b0
        try clear c6b1
        try clear p6
        try clear c8
        try clear c11
        try clear c19
        try clear c23
        try clear c23b0
        try clear c23b1
        try clear hcz14_0
        try clear hcz14_1
        try clear hcz20_0
        try clear hcz20_1
        try clear hfz14_0
        try clear hfz14_1
        try clear hfz20_0
        try clear hfz20_1
        obtain ⟨kq, x57_8, rfl, HA, HJ8, HO_456000, HO_456001, HO_464000, HO_464001, BK455, BK463, HB⟩ := hcut
        cases kq with
        | zero => exact absurd HA.out (by simp [undercroftlaw03_DiskText.j0])
        | succ kj8 =>
          have H := HA.out
          clear HA
          simp only [undercroftlaw03_DiskText.j0] at H
          by_cases c24 : x57_8 = true
          · subst c24
            have H1 : ((undercroftlaw03_num.f t454).bind fun t465 => (if t465 = 0 then ((undercroftlaw03_num.f t462).bind fun t466 => (some (t466 == 41))) else (none))) = some r := by rw [if_pos rfl] at H; exact H
            clear H
            have H := H1
            clear H1
            replace H := Option.bind_eq_some_iff.mp H
            obtain ⟨t465, A250, H⟩ := H
            replace H : (if t465 = 0 then ((undercroftlaw03_num.f t462).bind fun t466 => (some (t466 == 41))) else (none)) = some r := H
            have A25 := Aside0.mk A250
            clear A250
            by_cases c26 : t465 = 0
            · rw [if_pos c26] at H
              have c26b0 : (t465 == 0) = true := beq_iff_eq.mpr c26
              have c26b1 : (t465 != 0) = false := bne_eq_false_iff_eq.mpr c26
              clear c26
              replace H := Option.bind_eq_some_iff.mp H
              obtain ⟨t466, A270, H⟩ := H
              replace H : (some (t466 == 41)) = some r := H
              have A27 := Aside0.mk A270
              clear A270
              obtain rfl := Option.some.inj H
              go_wp2_with (first | ((with_reducible refine gate_callee (f := 11) rfl ?_); refine goesL_ (some 59) rfl rfl Try.func11 (by kernel_rfl) rfl #[.int .i64 t454] rfl (by (try simp only [List.map_toArray, List.map_cons, List.map_nil]); first | done | rfl | (simp only [List.length_drop, List.length_take]; rfl)) ?_; (with_reducible refine (undercroftlaw03_num.calls t454 t465 _ A25.out).mono ?_); rintro e w' ⟨rfl, ⟨nd, rfl⟩⟩; refine ⟨_, rfl, ?_⟩) | (go_at_call 11; (with_reducible refine (undercroftlaw03_num.calls t462 t466 _ A27.out).mono ?_); rintro e w' ⟨rfl, ⟨nd, rfl⟩⟩))
              go_ret
              exact ⟨by first | rfl | (simp [errW_none, errW_some] <;> rfl) | (simp [*, errW_none, errW_some] <;> rfl), by repeat (first | (with_reducible first | exact HB.out | apply below_alloc | apply pw_below_drewN | apply below_drew1 | refine below_set ?_ GE455.out | refine below_set ?_ GE463.out) | exact HB.out)⟩
            · rw [if_neg c26] at H
              exact absurd H (by simp)
          · replace c24 := Bool.eq_false_iff.mpr c24
            subst c24
            have H1 : ((disk_GetAll.f t456 t459 (Int.tmod (wrap64 ((Int.tmod a1 (wrap64 (1 + (Int.tmod (wrap64 ((Int.tmod a0 20) + 20)) 20)))) + (wrap64 (1 + (Int.tmod (wrap64 ((Int.tmod a0 20) + 20)) 20))))) (wrap64 (1 + (Int.tmod (wrap64 ((Int.tmod a0 20) + 20)) 20)))) (wrap64 (Int.tdiv (wrap64 ((l2.length : Int) + 63)) 64))).bind fun bt467 => ((disk_GetAll.f t456 t459 0 (wrap64 (1 + (Int.tmod (wrap64 ((Int.tmod a0 20) + 20)) 20)))).bind fun bt471 => ((undercroftlaw03_num.f t462).bind fun t475 => ((undercroftlaw03_num.f bt467.2).bind fun t476 => ((undercroftlaw03_num.f bt471.2).bind fun t477 => (if (wrap64 ((wrap64 (t475 + t476)) + t477)) = 0 then (if (bt467.1.length : Int) = (wrap64 (64 * (wrap64 (Int.tdiv (wrap64 ((l2.length : Int) + 63)) 64)))) then (if (bt471.1.length : Int) = (wrap64 (64 * (wrap64 (1 + (Int.tmod (wrap64 ((Int.tmod a0 20) + 20)) 20))))) then (if 0 ≤ (l2.length : Int) then (if (l2.length : Int) ≤ (bt467.1.length : Int) then ((undercroftplain_SameBytes.f kj8 (bt467.1.take ((l2.length : Int) : Int).toNat) l2).bind fun t482 => (undercroftlaw03_DiskText.j1 kj8 (Int.tmod (wrap64 ((Int.tmod a1 (wrap64 (1 + (Int.tmod (wrap64 ((Int.tmod a0 20) + 20)) 20)))) + (wrap64 (1 + (Int.tmod (wrap64 ((Int.tmod a0 20) + 20)) 20))))) (wrap64 (1 + (Int.tmod (wrap64 ((Int.tmod a0 20) + 20)) 20)))) l2 bt471.1 (!t482))) else (none)) else (none)) else (undercroftlaw03_DiskText.j1 kj8 (Int.tmod (wrap64 ((Int.tmod a1 (wrap64 (1 + (Int.tmod (wrap64 ((Int.tmod a0 20) + 20)) 20)))) + (wrap64 (1 + (Int.tmod (wrap64 ((Int.tmod a0 20) + 20)) 20))))) (wrap64 (1 + (Int.tmod (wrap64 ((Int.tmod a0 20) + 20)) 20)))) l2 bt471.1 true)) else (undercroftlaw03_DiskText.j1 kj8 (Int.tmod (wrap64 ((Int.tmod a1 (wrap64 (1 + (Int.tmod (wrap64 ((Int.tmod a0 20) + 20)) 20)))) + (wrap64 (1 + (Int.tmod (wrap64 ((Int.tmod a0 20) + 20)) 20))))) (wrap64 (1 + (Int.tmod (wrap64 ((Int.tmod a0 20) + 20)) 20)))) l2 bt471.1 true)) else (undercroftlaw03_DiskText.j1 kj8 (Int.tmod (wrap64 ((Int.tmod a1 (wrap64 (1 + (Int.tmod (wrap64 ((Int.tmod a0 20) + 20)) 20)))) + (wrap64 (1 + (Int.tmod (wrap64 ((Int.tmod a0 20) + 20)) 20))))) (wrap64 (1 + (Int.tmod (wrap64 ((Int.tmod a0 20) + 20)) 20)))) l2 bt471.1 true))))))) = some r := by rw [if_neg (show ¬ (false = true) by decide)] at H; exact H
            clear H
            have H := H1
            clear H1
            replace H := Option.bind_eq_some_iff.mp H
            obtain ⟨⟨t467, t470⟩, A280, H⟩ := H
            replace H : ((disk_GetAll.f t456 t459 0 (wrap64 (1 + (Int.tmod (wrap64 ((Int.tmod a0 20) + 20)) 20)))).bind fun bt471 => ((undercroftlaw03_num.f t462).bind fun t475 => ((undercroftlaw03_num.f t470).bind fun t476 => ((undercroftlaw03_num.f bt471.2).bind fun t477 => (if (wrap64 ((wrap64 (t475 + t476)) + t477)) = 0 then (if (t467.length : Int) = (wrap64 (64 * (wrap64 (Int.tdiv (wrap64 ((l2.length : Int) + 63)) 64)))) then (if (bt471.1.length : Int) = (wrap64 (64 * (wrap64 (1 + (Int.tmod (wrap64 ((Int.tmod a0 20) + 20)) 20))))) then (if 0 ≤ (l2.length : Int) then (if (l2.length : Int) ≤ (t467.length : Int) then ((undercroftplain_SameBytes.f kj8 (t467.take ((l2.length : Int) : Int).toNat) l2).bind fun t482 => (undercroftlaw03_DiskText.j1 kj8 (Int.tmod (wrap64 ((Int.tmod a1 (wrap64 (1 + (Int.tmod (wrap64 ((Int.tmod a0 20) + 20)) 20)))) + (wrap64 (1 + (Int.tmod (wrap64 ((Int.tmod a0 20) + 20)) 20))))) (wrap64 (1 + (Int.tmod (wrap64 ((Int.tmod a0 20) + 20)) 20)))) l2 bt471.1 (!t482))) else (none)) else (none)) else (undercroftlaw03_DiskText.j1 kj8 (Int.tmod (wrap64 ((Int.tmod a1 (wrap64 (1 + (Int.tmod (wrap64 ((Int.tmod a0 20) + 20)) 20)))) + (wrap64 (1 + (Int.tmod (wrap64 ((Int.tmod a0 20) + 20)) 20))))) (wrap64 (1 + (Int.tmod (wrap64 ((Int.tmod a0 20) + 20)) 20)))) l2 bt471.1 true)) else (undercroftlaw03_DiskText.j1 kj8 (Int.tmod (wrap64 ((Int.tmod a1 (wrap64 (1 + (Int.tmod (wrap64 ((Int.tmod a0 20) + 20)) 20)))) + (wrap64 (1 + (Int.tmod (wrap64 ((Int.tmod a0 20) + 20)) 20))))) (wrap64 (1 + (Int.tmod (wrap64 ((Int.tmod a0 20) + 20)) 20)))) l2 bt471.1 true)) else (undercroftlaw03_DiskText.j1 kj8 (Int.tmod (wrap64 ((Int.tmod a1 (wrap64 (1 + (Int.tmod (wrap64 ((Int.tmod a0 20) + 20)) 20)))) + (wrap64 (1 + (Int.tmod (wrap64 ((Int.tmod a0 20) + 20)) 20))))) (wrap64 (1 + (Int.tmod (wrap64 ((Int.tmod a0 20) + 20)) 20)))) l2 bt471.1 true)))))) = some r := H
            have A28 := Aside0.mk A280
            clear A280
            replace H := Option.bind_eq_some_iff.mp H
            obtain ⟨⟨t471, t474⟩, A290, H⟩ := H
            replace H : ((undercroftlaw03_num.f t462).bind fun t475 => ((undercroftlaw03_num.f t470).bind fun t476 => ((undercroftlaw03_num.f t474).bind fun t477 => (if (wrap64 ((wrap64 (t475 + t476)) + t477)) = 0 then (if (t467.length : Int) = (wrap64 (64 * (wrap64 (Int.tdiv (wrap64 ((l2.length : Int) + 63)) 64)))) then (if (t471.length : Int) = (wrap64 (64 * (wrap64 (1 + (Int.tmod (wrap64 ((Int.tmod a0 20) + 20)) 20))))) then (if 0 ≤ (l2.length : Int) then (if (l2.length : Int) ≤ (t467.length : Int) then ((undercroftplain_SameBytes.f kj8 (t467.take ((l2.length : Int) : Int).toNat) l2).bind fun t482 => (undercroftlaw03_DiskText.j1 kj8 (Int.tmod (wrap64 ((Int.tmod a1 (wrap64 (1 + (Int.tmod (wrap64 ((Int.tmod a0 20) + 20)) 20)))) + (wrap64 (1 + (Int.tmod (wrap64 ((Int.tmod a0 20) + 20)) 20))))) (wrap64 (1 + (Int.tmod (wrap64 ((Int.tmod a0 20) + 20)) 20)))) l2 t471 (!t482))) else (none)) else (none)) else (undercroftlaw03_DiskText.j1 kj8 (Int.tmod (wrap64 ((Int.tmod a1 (wrap64 (1 + (Int.tmod (wrap64 ((Int.tmod a0 20) + 20)) 20)))) + (wrap64 (1 + (Int.tmod (wrap64 ((Int.tmod a0 20) + 20)) 20))))) (wrap64 (1 + (Int.tmod (wrap64 ((Int.tmod a0 20) + 20)) 20)))) l2 t471 true)) else (undercroftlaw03_DiskText.j1 kj8 (Int.tmod (wrap64 ((Int.tmod a1 (wrap64 (1 + (Int.tmod (wrap64 ((Int.tmod a0 20) + 20)) 20)))) + (wrap64 (1 + (Int.tmod (wrap64 ((Int.tmod a0 20) + 20)) 20))))) (wrap64 (1 + (Int.tmod (wrap64 ((Int.tmod a0 20) + 20)) 20)))) l2 t471 true)) else (undercroftlaw03_DiskText.j1 kj8 (Int.tmod (wrap64 ((Int.tmod a1 (wrap64 (1 + (Int.tmod (wrap64 ((Int.tmod a0 20) + 20)) 20)))) + (wrap64 (1 + (Int.tmod (wrap64 ((Int.tmod a0 20) + 20)) 20))))) (wrap64 (1 + (Int.tmod (wrap64 ((Int.tmod a0 20) + 20)) 20)))) l2 t471 true))))) = some r := H
            have A29 := Aside0.mk A290
            clear A290
            have HC30 := Aside0.mk H
            clear H
            have hnb31 := NB463_455.out
            have hnc31 := NB455_463.out
            have hcz32_0 : wc.cell? ⟨gb463, 0, none⟩ = some (.slice Ao18 t456.length co18) := (blk_cell BK463.out 0).trans rfl
            have hcz32_1 : wc.cell? ⟨gb463, 1, none⟩ = some (.slice Ao21 t459.length co21) := (blk_cell BK463.out 1).trans rfl
            have hfz32_0 := blk_frozen BK463.out 0
            have hfz32_1 := blk_frozen BK463.out 1
            go_upto_region 12 with (first | ((with_reducible refine gate_callee (f := 26) rfl ?_); refine goesL_ (some 70) rfl rfl Try.func26 (by kernel_rfl) rfl #[.agg #[.slice Ao18 t456.length co18, .slice Ao21 t459.length co21], .int .i64 (Int.tmod (wrap64 ((Int.tmod a1 (wrap64 (1 + (Int.tmod (wrap64 ((Int.tmod a0 20) + 20)) 20)))) + (wrap64 (1 + (Int.tmod (wrap64 ((Int.tmod a0 20) + 20)) 20))))) (wrap64 (1 + (Int.tmod (wrap64 ((Int.tmod a0 20) + 20)) 20)))), .int .i64 (wrap64 (Int.tdiv (wrap64 ((l2.length : Int) + 63)) 64))] rfl (by (try simp only [List.map_toArray, List.map_cons, List.map_nil]); first | done | rfl | (simp only [List.length_drop, List.length_take]; rfl)) ?_; (with_reducible refine (disk_GetAll.calls _ _ t456 _ _ t459 (Int.tmod (wrap64 ((Int.tmod a1 (wrap64 (1 + (Int.tmod (wrap64 ((Int.tmod a0 20) + 20)) 20)))) + (wrap64 (1 + (Int.tmod (wrap64 ((Int.tmod a0 20) + 20)) 20))))) (wrap64 (1 + (Int.tmod (wrap64 ((Int.tmod a0 20) + 20)) 20)))) (wrap64 (Int.tdiv (wrap64 ((l2.length : Int) + 63)) 64)) t467 t470 _ ?side1 ?side2 ?side3 ?side4 A28.out).mono ?_); (case side1 => repeat (first | exact (Kd.S_reads' HO_464000.out).2.2 | (with_reducible refine Kd.C_alloc ?_ _) | (with_reducible refine Kd.C_drewN ?_ _) | (with_reducible refine Kd.C_drew ?_))); (case side2 => exact (Kd.S_reads' HO_464000.out).2.1); (case side3 => repeat (first | exact (Kd.S_reads' HO_464001.out).2.2 | (with_reducible refine Kd.C_alloc ?_ _) | (with_reducible refine Kd.C_drewN ?_ _) | (with_reducible refine Kd.C_drew ?_))); (case side4 => exact (Kd.S_reads' HO_464001.out).2.1); rintro e w33 ⟨v468, rfl, ho0, hb⟩; refine ⟨_, rfl, ?_⟩; have n0_ := Aside0.mk (Kd.S_elder' (by (with_reducible repeat (first | apply Kd.S_alloc | apply Kd.S_drewN | apply Kd.S_drew)); exact HO_456000.out) (Kd.R_base ho0) hb); have n1_ := Aside0.mk (Kd.S_elder' (by (with_reducible repeat (first | apply Kd.S_alloc | apply Kd.S_drewN | apply Kd.S_drew)); exact HO_456001.out) (Kd.R_base ho0) hb); have n2_ := Aside0.mk (Kd.S_elder' (by (with_reducible repeat (first | apply Kd.S_alloc | apply Kd.S_drewN | apply Kd.S_drew)); exact HO_464000.out) (Kd.R_base ho0) hb); have n3_ := Aside0.mk (Kd.S_elder' (by (with_reducible repeat (first | apply Kd.S_alloc | apply Kd.S_drewN | apply Kd.S_drew)); exact HO_464001.out) (Kd.R_base ho0) hb); have n4_ := Aside0.mk (Kd.R_lower ho0 (below_size (by repeat (first | (with_reducible first | exact HB.out | apply below_alloc | apply pw_below_drewN | apply below_drew1 | refine below_set ?_ GE455.out | refine below_set ?_ GE463.out) | exact HB.out)))); have n5_ := Aside0.mk (blk_below (g := gb455) (o := .cells #[.slice Ao13 t448.length co13, .slice Ao15 t451.length co15] 30 (0, 0)) (by (with_reducible repeat (first | refine blk_drewN ?_ _ | refine blk_drew ?_ | refine blk_alloc ?_ _)); exact BK455.out) hb); have n6_ := Aside0.mk (blk_below (g := gb463) (o := .cells #[.slice Ao18 t456.length co18, .slice Ao21 t459.length co21] 30 (0, 0)) (by (with_reducible repeat (first | refine blk_drewN ?_ _ | refine blk_drew ?_ | refine blk_alloc ?_ _)); exact BK463.out) hb); have n7_ := Aside0.mk (below_step (by repeat (first | (with_reducible first | exact HB.out | apply below_alloc | apply pw_below_drewN | apply below_drew1 | refine below_set ?_ GE455.out | refine below_set ?_ GE463.out) | exact HB.out)) hb); clear HO_456000; clear HO_456001; clear HO_464000; clear HO_464001; clear BK455; clear BK463; clear HB; have HO_456000 := n0_; have HO_456001 := n1_; have HO_464000 := n2_; have HO_464001 := n3_; have HO469 := n4_; have BK455 := n5_; have BK463 := n6_; have HB := n7_; clear n0_ n1_ n2_ n3_ n4_ n5_ n6_ n7_; (try clear hb); (try clear hb2); (try clear hk); (try clear hi); (try clear ho0); have hcz34_0 : w33.cell? ⟨gb463, 0, none⟩ = some (.slice Ao18 t456.length co18) := (blk_cell BK463.out 0).trans rfl; have hcz34_1 : w33.cell? ⟨gb463, 1, none⟩ = some (.slice Ao21 t459.length co21) := (blk_cell BK463.out 1).trans rfl; have hfz34_0 := blk_frozen BK463.out 0; have hfz34_1 := blk_frozen BK463.out 1) | ((with_reducible refine gate_callee (f := 26) rfl ?_); refine goesL_ (some 76) rfl rfl Try.func26 (by kernel_rfl) rfl #[.agg #[.slice Ao18 t456.length co18, .slice Ao21 t459.length co21], .int .i64 0, .int .i64 (wrap64 (1 + (Int.tmod (wrap64 ((Int.tmod a0 20) + 20)) 20)))] rfl (by (try simp only [List.map_toArray, List.map_cons, List.map_nil]); first | done | rfl | (simp only [List.length_drop, List.length_take]; rfl)) ?_; (with_reducible refine (disk_GetAll.calls _ _ t456 _ _ t459 0 (wrap64 (1 + (Int.tmod (wrap64 ((Int.tmod a0 20) + 20)) 20))) t471 t474 _ ?side1 ?side2 ?side3 ?side4 A29.out).mono ?_); (case side1 => repeat (first | exact (Kd.S_reads' HO_464000.out).2.2 | (with_reducible refine Kd.C_alloc ?_ _) | (with_reducible refine Kd.C_drewN ?_ _) | (with_reducible refine Kd.C_drew ?_))); (case side2 => exact (Kd.S_reads' HO_464000.out).2.1); (case side3 => repeat (first | exact (Kd.S_reads' HO_464001.out).2.2 | (with_reducible refine Kd.C_alloc ?_ _) | (with_reducible refine Kd.C_drewN ?_ _) | (with_reducible refine Kd.C_drew ?_))); (case side4 => exact (Kd.S_reads' HO_464001.out).2.1); rintro e w35 ⟨v472, rfl, ho0, hb⟩; refine ⟨_, rfl, ?_⟩; have n0_ := Aside0.mk (Kd.S_elder' (by (with_reducible repeat (first | apply Kd.S_alloc | apply Kd.S_drewN | apply Kd.S_drew)); exact HO_456000.out) (Kd.R_base ho0) hb); have n1_ := Aside0.mk (Kd.S_elder' (by (with_reducible repeat (first | apply Kd.S_alloc | apply Kd.S_drewN | apply Kd.S_drew)); exact HO_456001.out) (Kd.R_base ho0) hb); have n2_ := Aside0.mk (Kd.S_elder' (by (with_reducible repeat (first | apply Kd.S_alloc | apply Kd.S_drewN | apply Kd.S_drew)); exact HO_464000.out) (Kd.R_base ho0) hb); have n3_ := Aside0.mk (Kd.S_elder' (by (with_reducible repeat (first | apply Kd.S_alloc | apply Kd.S_drewN | apply Kd.S_drew)); exact HO_464001.out) (Kd.R_base ho0) hb); have n4_ := Aside0.mk (Kd.R_elder' (by (with_reducible repeat (first | apply Kd.R_alloc | apply Kd.R_drewN | apply Kd.R_drew)); exact HO469.out) (Kd.R_base ho0) hb); have n5_ := Aside0.mk (Kd.R_lower (Kd.R_new' ho0 (Kd.R_lt (by (with_reducible repeat (first | apply Kd.R_alloc | apply Kd.R_drewN | apply Kd.R_drew)); exact HO469.out))) (below_size (by repeat (first | (with_reducible first | exact HB.out | apply below_alloc | apply pw_below_drewN | apply below_drew1 | refine below_set ?_ GE455.out | refine below_set ?_ GE463.out) | exact HB.out)))); have n6_ := Aside0.mk (blk_below (g := gb455) (o := .cells #[.slice Ao13 t448.length co13, .slice Ao15 t451.length co15] 30 (0, 0)) (by (with_reducible repeat (first | refine blk_drewN ?_ _ | refine blk_drew ?_ | refine blk_alloc ?_ _)); exact BK455.out) hb); have n7_ := Aside0.mk (blk_below (g := gb463) (o := .cells #[.slice Ao18 t456.length co18, .slice Ao21 t459.length co21] 30 (0, 0)) (by (with_reducible repeat (first | refine blk_drewN ?_ _ | refine blk_drew ?_ | refine blk_alloc ?_ _)); exact BK463.out) hb); have n8_ := Aside0.mk (below_step (by repeat (first | (with_reducible first | exact HB.out | apply below_alloc | apply pw_below_drewN | apply below_drew1 | refine below_set ?_ GE455.out | refine below_set ?_ GE463.out) | exact HB.out)) hb); clear HO_456000; clear HO_456001; clear HO_464000; clear HO_464001; clear HO469; clear BK455; clear BK463; clear HB; have HO_456000 := n0_; have HO_456001 := n1_; have HO_464000 := n2_; have HO_464001 := n3_; have HO469 := n4_; have HO473 := n5_; have BK455 := n6_; have BK463 := n7_; have HB := n8_; clear n0_ n1_ n2_ n3_ n4_ n5_ n6_ n7_ n8_; (try clear hb); (try clear hb2); (try clear hk); (try clear hi); (try clear ho0)))
            (try simp only [Act.put, List.setIfInBounds_toArray, List.set_cons_zero, List.set_cons_succ])
            go_cut [110] (fun v110 wc => ∃ (kq : Nat) (x110_29 : Bool), v110 = .bool x110_29 ∧ Aside0 (undercroftlaw03_DiskText.j1 kq (Int.tmod (wrap64 ((Int.tmod a1 (wrap64 (1 + (Int.tmod (wrap64 ((Int.tmod a0 20) + 20)) 20)))) + (wrap64 (1 + (Int.tmod (wrap64 ((Int.tmod a0 20) + 20)) 20))))) (wrap64 (1 + (Int.tmod (wrap64 ((Int.tmod a0 20) + 20)) 20)))) l2 t471 x110_29 = some r) ∧ Aside0 (kq ≤ kj8) ∧ Aside0 (Kd.R (Kd.int .u8) 5 wc w.heap.size (fun _ => True) v472 t471) ∧ Aside0 (Kd.S (Kd.slice 5 (Kd.int .u8)) 36 wc w.heap.size (fun k_ => some k_ ≠ (v472 : Value).ownBlock ∧ some k_ ≠ ((.slice Ao18 t456.length co18) : Value).ownBlock) (.slice Ao13 t448.length co13) t448) ∧ Aside0 (Kd.S k62 62 wc w.heap.size (fun k_ => some k_ ≠ (v472 : Value).ownBlock ∧ some k_ ≠ ((.slice Ao21 t459.length co21) : Value).ownBlock) (.slice Ao15 t451.length co15) t451) ∧ Aside0 (Kd.S (Kd.slice 5 (Kd.int .u8)) 36 wc w.heap.size (fun k_ => some k_ ≠ (v472 : Value).ownBlock ∧ some k_ ≠ ((.slice Ao13 t448.length co13) : Value).ownBlock) (.slice Ao18 t456.length co18) t456) ∧ Aside0 (Kd.S k62 62 wc w.heap.size (fun k_ => some k_ ≠ (v472 : Value).ownBlock ∧ some k_ ≠ ((.slice Ao15 t451.length co15) : Value).ownBlock) (.slice Ao21 t459.length co21) t459) ∧ Aside0 (wc.heap[gb455]? = some (.cells #[(.slice Ao13 t448.length co13), (.slice Ao15 t451.length co15)] 30 (0, 0))) ∧ Aside0 (wc.heap[gb463]? = some (.cells #[(.slice Ao18 t456.length co18), (.slice Ao21 t459.length co21)] 30 (0, 0))) ∧ Aside0 (Below w.heap.size w wc))
            case first =>
              have H := HC30.out
              clear HC30
              replace H := Option.bind_eq_some_iff.mp H
              obtain ⟨t475, A360, H⟩ := H
              replace H : ((undercroftlaw03_num.f t470).bind fun t476 => ((undercroftlaw03_num.f t474).bind fun t477 => (if (wrap64 ((wrap64 (t475 + t476)) + t477)) = 0 then (if (t467.length : Int) = (wrap64 (64 * (wrap64 (Int.tdiv (wrap64 ((l2.length : Int) + 63)) 64)))) then (if (t471.length : Int) = (wrap64 (64 * (wrap64 (1 + (Int.tmod (wrap64 ((Int.tmod a0 20) + 20)) 20))))) then (if 0 ≤ (l2.length : Int) then (if (l2.length : Int) ≤ (t467.length : Int) then ((undercroftplain_SameBytes.f kj8 (t467.take ((l2.length : Int) : Int).toNat) l2).bind fun t482 => (undercroftlaw03_DiskText.j1 kj8 (Int.tmod (wrap64 ((Int.tmod a1 (wrap64 (1 + (Int.tmod (wrap64 ((Int.tmod a0 20) + 20)) 20)))) + (wrap64 (1 + (Int.tmod (wrap64 ((Int.tmod a0 20) + 20)) 20))))) (wrap64 (1 + (Int.tmod (wrap64 ((Int.tmod a0 20) + 20)) 20)))) l2 t471 (!t482))) else (none)) else (none)) else (undercroftlaw03_DiskText.j1 kj8 (Int.tmod (wrap64 ((Int.tmod a1 (wrap64 (1 + (Int.tmod (wrap64 ((Int.tmod a0 20) + 20)) 20)))) + (wrap64 (1 + (Int.tmod (wrap64 ((Int.tmod a0 20) + 20)) 20))))) (wrap64 (1 + (Int.tmod (wrap64 ((Int.tmod a0 20) + 20)) 20)))) l2 t471 true)) else (undercroftlaw03_DiskText.j1 kj8 (Int.tmod (wrap64 ((Int.tmod a1 (wrap64 (1 + (Int.tmod (wrap64 ((Int.tmod a0 20) + 20)) 20)))) + (wrap64 (1 + (Int.tmod (wrap64 ((Int.tmod a0 20) + 20)) 20))))) (wrap64 (1 + (Int.tmod (wrap64 ((Int.tmod a0 20) + 20)) 20)))) l2 t471 true)) else (undercroftlaw03_DiskText.j1 kj8 (Int.tmod (wrap64 ((Int.tmod a1 (wrap64 (1 + (Int.tmod (wrap64 ((Int.tmod a0 20) + 20)) 20)))) + (wrap64 (1 + (Int.tmod (wrap64 ((Int.tmod a0 20) + 20)) 20))))) (wrap64 (1 + (Int.tmod (wrap64 ((Int.tmod a0 20) + 20)) 20)))) l2 t471 true)))) = some r := H
              have A36 := Aside0.mk A360
              clear A360
              replace H := Option.bind_eq_some_iff.mp H
              obtain ⟨t476, A370, H⟩ := H
              replace H : ((undercroftlaw03_num.f t474).bind fun t477 => (if (wrap64 ((wrap64 (t475 + t476)) + t477)) = 0 then (if (t467.length : Int) = (wrap64 (64 * (wrap64 (Int.tdiv (wrap64 ((l2.length : Int) + 63)) 64)))) then (if (t471.length : Int) = (wrap64 (64 * (wrap64 (1 + (Int.tmod (wrap64 ((Int.tmod a0 20) + 20)) 20))))) then (if 0 ≤ (l2.length : Int) then (if (l2.length : Int) ≤ (t467.length : Int) then ((undercroftplain_SameBytes.f kj8 (t467.take ((l2.length : Int) : Int).toNat) l2).bind fun t482 => (undercroftlaw03_DiskText.j1 kj8 (Int.tmod (wrap64 ((Int.tmod a1 (wrap64 (1 + (Int.tmod (wrap64 ((Int.tmod a0 20) + 20)) 20)))) + (wrap64 (1 + (Int.tmod (wrap64 ((Int.tmod a0 20) + 20)) 20))))) (wrap64 (1 + (Int.tmod (wrap64 ((Int.tmod a0 20) + 20)) 20)))) l2 t471 (!t482))) else (none)) else (none)) else (undercroftlaw03_DiskText.j1 kj8 (Int.tmod (wrap64 ((Int.tmod a1 (wrap64 (1 + (Int.tmod (wrap64 ((Int.tmod a0 20) + 20)) 20)))) + (wrap64 (1 + (Int.tmod (wrap64 ((Int.tmod a0 20) + 20)) 20))))) (wrap64 (1 + (Int.tmod (wrap64 ((Int.tmod a0 20) + 20)) 20)))) l2 t471 true)) else (undercroftlaw03_DiskText.j1 kj8 (Int.tmod (wrap64 ((Int.tmod a1 (wrap64 (1 + (Int.tmod (wrap64 ((Int.tmod a0 20) + 20)) 20)))) + (wrap64 (1 + (Int.tmod (wrap64 ((Int.tmod a0 20) + 20)) 20))))) (wrap64 (1 + (Int.tmod (wrap64 ((Int.tmod a0 20) + 20)) 20)))) l2 t471 true)) else (undercroftlaw03_DiskText.j1 kj8 (Int.tmod (wrap64 ((Int.tmod a1 (wrap64 (1 + (Int.tmod (wrap64 ((Int.tmod a0 20) + 20)) 20)))) + (wrap64 (1 + (Int.tmod (wrap64 ((Int.tmod a0 20) + 20)) 20))))) (wrap64 (1 + (Int.tmod (wrap64 ((Int.tmod a0 20) + 20)) 20)))) l2 t471 true))) = some r := H
              have A37 := Aside0.mk A370
              clear A370
              replace H := Option.bind_eq_some_iff.mp H
              obtain ⟨t477, A380, H⟩ := H
              replace H : (if (wrap64 ((wrap64 (t475 + t476)) + t477)) = 0 then (if (t467.length : Int) = (wrap64 (64 * (wrap64 (Int.tdiv (wrap64 ((l2.length : Int) + 63)) 64)))) then (if (t471.length : Int) = (wrap64 (64 * (wrap64 (1 + (Int.tmod (wrap64 ((Int.tmod a0 20) + 20)) 20))))) then (if 0 ≤ (l2.length : Int) then (if (l2.length : Int) ≤ (t467.length : Int) then ((undercroftplain_SameBytes.f kj8 (t467.take ((l2.length : Int) : Int).toNat) l2).bind fun t482 => (undercroftlaw03_DiskText.j1 kj8 (Int.tmod (wrap64 ((Int.tmod a1 (wrap64 (1 + (Int.tmod (wrap64 ((Int.tmod a0 20) + 20)) 20)))) + (wrap64 (1 + (Int.tmod (wrap64 ((Int.tmod a0 20) + 20)) 20))))) (wrap64 (1 + (Int.tmod (wrap64 ((Int.tmod a0 20) + 20)) 20)))) l2 t471 (!t482))) else (none)) else (none)) else (undercroftlaw03_DiskText.j1 kj8 (Int.tmod (wrap64 ((Int.tmod a1 (wrap64 (1 + (Int.tmod (wrap64 ((Int.tmod a0 20) + 20)) 20)))) + (wrap64 (1 + (Int.tmod (wrap64 ((Int.tmod a0 20) + 20)) 20))))) (wrap64 (1 + (Int.tmod (wrap64 ((Int.tmod a0 20) + 20)) 20)))) l2 t471 true)) else (undercroftlaw03_DiskText.j1 kj8 (Int.tmod (wrap64 ((Int.tmod a1 (wrap64 (1 + (Int.tmod (wrap64 ((Int.tmod a0 20) + 20)) 20)))) + (wrap64 (1 + (Int.tmod (wrap64 ((Int.tmod a0 20) + 20)) 20))))) (wrap64 (1 + (Int.tmod (wrap64 ((Int.tmod a0 20) + 20)) 20)))) l2 t471 true)) else (undercroftlaw03_DiskText.j1 kj8 (Int.tmod (wrap64 ((Int.tmod a1 (wrap64 (1 + (Int.tmod (wrap64 ((Int.tmod a0 20) + 20)) 20)))) + (wrap64 (1 + (Int.tmod (wrap64 ((Int.tmod a0 20) + 20)) 20))))) (wrap64 (1 + (Int.tmod (wrap64 ((Int.tmod a0 20) + 20)) 20)))) l2 t471 true)) = some r := H
              have A38 := Aside0.mk A380
              clear A380
              by_cases c39 : (wrap64 ((wrap64 (t475 + t476)) + t477)) = 0
              · rw [if_pos c39] at H
                have c39b0 : ((wrap64 ((wrap64 (t475 + t476)) + t477)) == 0) = true := beq_iff_eq.mpr c39
                have c39b1 : ((wrap64 ((wrap64 (t475 + t476)) + t477)) != 0) = false := bne_eq_false_iff_eq.mpr c39
                clear c39
                (first | rw [c39b0] | (simp only [i64_w, i32_w]; rw [c39b0]) | skip)
                by_cases c40 : (t467.length : Int) = (wrap64 (64 * (wrap64 (Int.tdiv (wrap64 ((l2.length : Int) + 63)) 64))))
                · rw [if_pos c40] at H
                  have c40b0 : ((t467.length : Int) == (wrap64 (64 * (wrap64 (Int.tdiv (wrap64 ((l2.length : Int) + 63)) 64))))) = true := beq_iff_eq.mpr c40
                  have c40b1 : ((t467.length : Int) != (wrap64 (64 * (wrap64 (Int.tdiv (wrap64 ((l2.length : Int) + 63)) 64))))) = false := bne_eq_false_iff_eq.mpr c40
                  clear c40
                  by_cases c41 : (t471.length : Int) = (wrap64 (64 * (wrap64 (1 + (Int.tmod (wrap64 ((Int.tmod a0 20) + 20)) 20)))))
                  · rw [if_pos c41] at H
                    have c41b0 : ((t471.length : Int) == (wrap64 (64 * (wrap64 (1 + (Int.tmod (wrap64 ((Int.tmod a0 20) + 20)) 20)))))) = true := beq_iff_eq.mpr c41
                    have c41b1 : ((t471.length : Int) != (wrap64 (64 * (wrap64 (1 + (Int.tmod (wrap64 ((Int.tmod a0 20) + 20)) 20)))))) = false := bne_eq_false_iff_eq.mpr c41
                    clear c41
                    by_cases c42 : 0 ≤ (l2.length : Int)
                    · rw [if_pos c42] at H
                      have c42b0 := eq_true c42
                      have c42b1 : decide (0 ≤ (l2.length : Int)) = true := decide_eq_true c42
                      clear c42
                      by_cases c43 : (l2.length : Int) ≤ (t467.length : Int)
                      · rw [if_pos c43] at H
                        have c43b0 := eq_true c43
                        have c43b1 : decide ((l2.length : Int) ≤ (t467.length : Int)) = true := decide_eq_true c43
                        clear c43
                        obtain ⟨y478, hy478⟩ : ∃ y_ : List Int, y_ = (t467.take ((l2.length : Int) : Int).toNat) := ⟨_, rfl⟩
                        replace H : ((undercroftplain_SameBytes.f kj8 y478 l2).bind fun t482 => (undercroftlaw03_DiskText.j1 kj8 (Int.tmod (wrap64 ((Int.tmod a1 (wrap64 (1 + (Int.tmod (wrap64 ((Int.tmod a0 20) + 20)) 20)))) + (wrap64 (1 + (Int.tmod (wrap64 ((Int.tmod a0 20) + 20)) 20))))) (wrap64 (1 + (Int.tmod (wrap64 ((Int.tmod a0 20) + 20)) 20)))) l2 t471 (!t482))) = some r := by first | (rw [hy478]; with_reducible exact H) | (have H2_ := (Option.bind_some _ _).symm.trans H; rw [hy478]; with_reducible exact H2_) | (have H2_ := (Option.bind_some _ _).symm.trans H; with_reducible exact H2_) | with_reducible exact H | (rw [hy478]; exact H) | exact H
                        have Ny478 := Aside0.mk hy478
                        clear hy478
                        replace H := Option.bind_eq_some_iff.mp H
                        obtain ⟨t482, A440, H⟩ := H
                        replace H : (undercroftlaw03_DiskText.j1 kj8 (Int.tmod (wrap64 ((Int.tmod a1 (wrap64 (1 + (Int.tmod (wrap64 ((Int.tmod a0 20) + 20)) 20)))) + (wrap64 (1 + (Int.tmod (wrap64 ((Int.tmod a0 20) + 20)) 20))))) (wrap64 (1 + (Int.tmod (wrap64 ((Int.tmod a0 20) + 20)) 20)))) l2 t471 (!t482)) = some r := H
                        have A44 := Aside0.mk A440
                        clear A440
                        have H' := Aside0.mk H
                        clear H
                        go_wp2_with (first | ((with_reducible refine gate_callee (f := 11) rfl ?_); refine goesL_ (some 80) rfl rfl Try.func11 (by kernel_rfl) rfl #[.int .i64 t462] rfl (by (try simp only [List.map_toArray, List.map_cons, List.map_nil]); first | done | rfl | (simp only [List.length_drop, List.length_take]; rfl)) ?_; (with_reducible refine (undercroftlaw03_num.calls t462 t475 _ A36.out).mono ?_); rintro e w' ⟨rfl, ⟨nd, rfl⟩⟩; refine ⟨_, rfl, ?_⟩) | ((with_reducible refine gate_callee (f := 11) rfl ?_); refine goesL_ (some 82) rfl rfl Try.func11 (by kernel_rfl) rfl #[.int .i64 t470] rfl (by (try simp only [List.map_toArray, List.map_cons, List.map_nil]); first | done | rfl | (simp only [List.length_drop, List.length_take]; rfl)) ?_; (with_reducible refine (undercroftlaw03_num.calls t470 t476 _ A37.out).mono ?_); rintro e w' ⟨rfl, ⟨nd, rfl⟩⟩; refine ⟨_, rfl, ?_⟩) | ((with_reducible refine gate_callee (f := 11) rfl ?_); refine goesL_ (some 85) rfl rfl Try.func11 (by kernel_rfl) rfl #[.int .i64 t474] rfl (by (try simp only [List.map_toArray, List.map_cons, List.map_nil]); first | done | rfl | (simp only [List.length_drop, List.length_take]; rfl)) ?_; (with_reducible refine (undercroftlaw03_num.calls t474 t477 _ A38.out).mono ?_); rintro e w' ⟨rfl, ⟨nd, rfl⟩⟩; refine ⟨_, rfl, ?_⟩; obtain ⟨Ao45, co45, eo45⟩ := Kd.R_slice HO469.out; subst eo45; obtain ⟨Ao46, co46, eo46⟩ := Kd.R_slice HO473.out; subst eo46; have q47 : ((l2.length : Int) : Int) ≤ ((t467.length : Int) : Int) := of_decide_eq_true (by first | (with_reducible assumption) | assumption); obtain ⟨i047, hi047, _, hsz47, _⟩ := info_parts info5; have hroom47 : t467.length ≤ co45 := (Kd.R_reads' HO469.out).2.1; have hC47 : Kd.C (Kd.int .u8) _ Ao45 t467.length t467 := (Kd.R_reads' HO469.out).2.2; have hcut47 := cut_to (P := Try.prog) 36 5 .i64 Try.underlying36 hi047 Ao45 t467.length co45 (l2.length : Int) (of_decide_eq_true (by first | (with_reducible assumption) | assumption)) q47 hroom47; have hr47 := Kd.C_take (m := ((l2.length : Int) : Int).toNat) hC47 (by omega); have hy47 : y478.length = ((l2.length : Int) : Int).toNat := (by rw [Ny478.out, List.length_take]; omega); rw [← Ny478.out] at hr47; rw [← hy47] at hcut47; have HR481 := Aside0.mk hr47; have HC481 := Aside0.mk (show y478.length ≤ co45 from by omega); clear hr47 hC47 hroom47 hi047 hsz47; have KY47 := Aside0.mk hy47; clear hy47; have KL47 := Aside0.mk (show ((l2.length : Int) : Int).toNat ≤ t467.length from by omega); replace q47 := eq_true q47) | (go_at_call 13; (with_reducible refine (undercroftplain_SameBytes.calls kj8 _ _ y478 _ _ l2 t482 _ ?side1 ?side2 ?side3 ?side4 A44.out).mono ?_); (case side1 => repeat (first | exact (by repeat (first | (with_reducible exact HR481.out) | (with_reducible refine Kd.C_alloc ?_ _) | (with_reducible refine Kd.C_drewN ?_ _) | (with_reducible refine Kd.C_drew ?_) | exact HR481.out)) | (with_reducible refine Kd.C_alloc ?_ _) | (with_reducible refine Kd.C_drewN ?_ _) | (with_reducible refine Kd.C_drew ?_))); (case side2 => exact HC481.out); (case side3 => repeat (first | exact (Kd.C_below HR2.out (by repeat (first | (with_reducible first | exact HB.out | apply below_alloc | apply pw_below_drewN | apply below_drew1 | refine below_set ?_ GE455.out | refine below_set ?_ GE463.out) | exact HB.out))) | (with_reducible refine Kd.C_alloc ?_ _) | (with_reducible refine Kd.C_drewN ?_ _) | (with_reducible refine Kd.C_drew ?_))); (case side4 => exact HC2.out); rintro e w' ⟨rfl, ⟨nd, rfl⟩⟩))
                        go_meet
                        case rel => exact ⟨_, (!t482), (by first | rfl | (simp; done) | (simp [*]; done)), H', ⟨by have := HJ8.out; first | omega | exact Nat.le_refl _⟩, ⟨by (with_reducible repeat (first | apply Kd.R_alloc | apply Kd.R_drewN | apply Kd.R_drew)); exact Kd.R_mono HO473.out (fun _ hk => trivial)⟩, ⟨by (with_reducible repeat (first | apply Kd.S_alloc | apply Kd.S_drewN | apply Kd.S_drew)); exact Kd.S_mono HO_456000.out (fun _ hk => ⟨hk.2, hk.1.1⟩)⟩, ⟨by (with_reducible repeat (first | apply Kd.S_alloc | apply Kd.S_drewN | apply Kd.S_drew)); exact Kd.S_mono HO_456001.out (fun _ hk => ⟨hk.2, hk.1.1⟩)⟩, ⟨by (with_reducible repeat (first | apply Kd.S_alloc | apply Kd.S_drewN | apply Kd.S_drew)); exact Kd.S_mono HO_464000.out (fun _ hk => ⟨hk.2, hk.1.1⟩)⟩, ⟨by (with_reducible repeat (first | apply Kd.S_alloc | apply Kd.S_drewN | apply Kd.S_drew)); exact Kd.S_mono HO_464001.out (fun _ hk => ⟨hk.2, hk.1.1⟩)⟩, ⟨by (with_reducible repeat (first | refine blk_drewN ?_ _ | refine blk_drew ?_ | refine blk_alloc ?_ _)); exact BK455.out⟩, ⟨by (with_reducible repeat (first | refine blk_drewN ?_ _ | refine blk_drew ?_ | refine blk_alloc ?_ _)); exact BK463.out⟩, ⟨by repeat (first | (with_reducible first | exact HB.out | apply below_alloc | apply pw_below_drewN | apply below_drew1 | refine below_set ?_ GE455.out | refine below_set ?_ GE463.out) | exact HB.out)⟩⟩
                      · rw [if_neg c43] at H
                        exact absurd H (by simp)
                    · rw [if_neg c42] at H
                      exact absurd H (by simp)
                  · rw [if_neg c41] at H
                    have c41b0 : ((t471.length : Int) == (wrap64 (64 * (wrap64 (1 + (Int.tmod (wrap64 ((Int.tmod a0 20) + 20)) 20)))))) = false := beq_eq_false_iff_ne.mpr c41
                    have c41b1 : ((t471.length : Int) != (wrap64 (64 * (wrap64 (1 + (Int.tmod (wrap64 ((Int.tmod a0 20) + 20)) 20)))))) = true := bne_iff_ne.mpr c41
                    have H' := Aside0.mk H
                    clear H
                    go_wp2_with (first | ((with_reducible refine gate_callee (f := 11) rfl ?_); refine goesL_ (some 80) rfl rfl Try.func11 (by kernel_rfl) rfl #[.int .i64 t462] rfl (by (try simp only [List.map_toArray, List.map_cons, List.map_nil]); first | done | rfl | (simp only [List.length_drop, List.length_take]; rfl)) ?_; (with_reducible refine (undercroftlaw03_num.calls t462 t475 _ A36.out).mono ?_); rintro e w' ⟨rfl, ⟨nd, rfl⟩⟩; refine ⟨_, rfl, ?_⟩) | ((with_reducible refine gate_callee (f := 11) rfl ?_); refine goesL_ (some 82) rfl rfl Try.func11 (by kernel_rfl) rfl #[.int .i64 t470] rfl (by (try simp only [List.map_toArray, List.map_cons, List.map_nil]); first | done | rfl | (simp only [List.length_drop, List.length_take]; rfl)) ?_; (with_reducible refine (undercroftlaw03_num.calls t470 t476 _ A37.out).mono ?_); rintro e w' ⟨rfl, ⟨nd, rfl⟩⟩; refine ⟨_, rfl, ?_⟩) | ((with_reducible refine gate_callee (f := 11) rfl ?_); refine goesL_ (some 85) rfl rfl Try.func11 (by kernel_rfl) rfl #[.int .i64 t474] rfl (by (try simp only [List.map_toArray, List.map_cons, List.map_nil]); first | done | rfl | (simp only [List.length_drop, List.length_take]; rfl)) ?_; (with_reducible refine (undercroftlaw03_num.calls t474 t477 _ A38.out).mono ?_); rintro e w' ⟨rfl, ⟨nd, rfl⟩⟩; refine ⟨_, rfl, ?_⟩; obtain ⟨Ao48, co48, eo48⟩ := Kd.R_slice HO469.out; subst eo48; obtain ⟨Ao49, co49, eo49⟩ := Kd.R_slice HO473.out; subst eo49))
                    go_meet
                    case rel => exact ⟨_, (true), (by first | rfl | (simp; done) | (simp [*]; done)), H', ⟨by have := HJ8.out; first | omega | exact Nat.le_refl _⟩, ⟨by (with_reducible repeat (first | apply Kd.R_alloc | apply Kd.R_drewN | apply Kd.R_drew)); exact Kd.R_mono HO473.out (fun _ hk => trivial)⟩, ⟨by (with_reducible repeat (first | apply Kd.S_alloc | apply Kd.S_drewN | apply Kd.S_drew)); exact Kd.S_mono HO_456000.out (fun _ hk => ⟨hk.2, hk.1.1⟩)⟩, ⟨by (with_reducible repeat (first | apply Kd.S_alloc | apply Kd.S_drewN | apply Kd.S_drew)); exact Kd.S_mono HO_456001.out (fun _ hk => ⟨hk.2, hk.1.1⟩)⟩, ⟨by (with_reducible repeat (first | apply Kd.S_alloc | apply Kd.S_drewN | apply Kd.S_drew)); exact Kd.S_mono HO_464000.out (fun _ hk => ⟨hk.2, hk.1.1⟩)⟩, ⟨by (with_reducible repeat (first | apply Kd.S_alloc | apply Kd.S_drewN | apply Kd.S_drew)); exact Kd.S_mono HO_464001.out (fun _ hk => ⟨hk.2, hk.1.1⟩)⟩, ⟨by (with_reducible repeat (first | refine blk_drewN ?_ _ | refine blk_drew ?_ | refine blk_alloc ?_ _)); exact BK455.out⟩, ⟨by (with_reducible repeat (first | refine blk_drewN ?_ _ | refine blk_drew ?_ | refine blk_alloc ?_ _)); exact BK463.out⟩, ⟨by repeat (first | (with_reducible first | exact HB.out | apply below_alloc | apply pw_below_drewN | apply below_drew1 | refine below_set ?_ GE455.out | refine below_set ?_ GE463.out) | exact HB.out)⟩⟩
                · rw [if_neg c40] at H
                  have c40b0 : ((t467.length : Int) == (wrap64 (64 * (wrap64 (Int.tdiv (wrap64 ((l2.length : Int) + 63)) 64))))) = false := beq_eq_false_iff_ne.mpr c40
                  have c40b1 : ((t467.length : Int) != (wrap64 (64 * (wrap64 (Int.tdiv (wrap64 ((l2.length : Int) + 63)) 64))))) = true := bne_iff_ne.mpr c40
                  have H' := Aside0.mk H
                  clear H
                  go_wp2_with (first | ((with_reducible refine gate_callee (f := 11) rfl ?_); refine goesL_ (some 80) rfl rfl Try.func11 (by kernel_rfl) rfl #[.int .i64 t462] rfl (by (try simp only [List.map_toArray, List.map_cons, List.map_nil]); first | done | rfl | (simp only [List.length_drop, List.length_take]; rfl)) ?_; (with_reducible refine (undercroftlaw03_num.calls t462 t475 _ A36.out).mono ?_); rintro e w' ⟨rfl, ⟨nd, rfl⟩⟩; refine ⟨_, rfl, ?_⟩) | ((with_reducible refine gate_callee (f := 11) rfl ?_); refine goesL_ (some 82) rfl rfl Try.func11 (by kernel_rfl) rfl #[.int .i64 t470] rfl (by (try simp only [List.map_toArray, List.map_cons, List.map_nil]); first | done | rfl | (simp only [List.length_drop, List.length_take]; rfl)) ?_; (with_reducible refine (undercroftlaw03_num.calls t470 t476 _ A37.out).mono ?_); rintro e w' ⟨rfl, ⟨nd, rfl⟩⟩; refine ⟨_, rfl, ?_⟩) | ((with_reducible refine gate_callee (f := 11) rfl ?_); refine goesL_ (some 85) rfl rfl Try.func11 (by kernel_rfl) rfl #[.int .i64 t474] rfl (by (try simp only [List.map_toArray, List.map_cons, List.map_nil]); first | done | rfl | (simp only [List.length_drop, List.length_take]; rfl)) ?_; (with_reducible refine (undercroftlaw03_num.calls t474 t477 _ A38.out).mono ?_); rintro e w' ⟨rfl, ⟨nd, rfl⟩⟩; refine ⟨_, rfl, ?_⟩; obtain ⟨Ao50, co50, eo50⟩ := Kd.R_slice HO469.out; subst eo50))
                  go_meet
                  case rel => exact ⟨_, (true), (by first | rfl | (simp; done) | (simp [*]; done)), H', ⟨by have := HJ8.out; first | omega | exact Nat.le_refl _⟩, ⟨by (with_reducible repeat (first | apply Kd.R_alloc | apply Kd.R_drewN | apply Kd.R_drew)); exact Kd.R_mono HO473.out (fun _ hk => trivial)⟩, ⟨by (with_reducible repeat (first | apply Kd.S_alloc | apply Kd.S_drewN | apply Kd.S_drew)); exact Kd.S_mono HO_456000.out (fun _ hk => ⟨hk.2, hk.1.1⟩)⟩, ⟨by (with_reducible repeat (first | apply Kd.S_alloc | apply Kd.S_drewN | apply Kd.S_drew)); exact Kd.S_mono HO_456001.out (fun _ hk => ⟨hk.2, hk.1.1⟩)⟩, ⟨by (with_reducible repeat (first | apply Kd.S_alloc | apply Kd.S_drewN | apply Kd.S_drew)); exact Kd.S_mono HO_464000.out (fun _ hk => ⟨hk.2, hk.1.1⟩)⟩, ⟨by (with_reducible repeat (first | apply Kd.S_alloc | apply Kd.S_drewN | apply Kd.S_drew)); exact Kd.S_mono HO_464001.out (fun _ hk => ⟨hk.2, hk.1.1⟩)⟩, ⟨by (with_reducible repeat (first | refine blk_drewN ?_ _ | refine blk_drew ?_ | refine blk_alloc ?_ _)); exact BK455.out⟩, ⟨by (with_reducible repeat (first | refine blk_drewN ?_ _ | refine blk_drew ?_ | refine blk_alloc ?_ _)); exact BK463.out⟩, ⟨by repeat (first | (with_reducible first | exact HB.out | apply below_alloc | apply pw_below_drewN | apply below_drew1 | refine below_set ?_ GE455.out | refine below_set ?_ GE463.out) | exact HB.out)⟩⟩
              · rw [if_neg c39] at H
                have c39b0 : ((wrap64 ((wrap64 (t475 + t476)) + t477)) == 0) = false := beq_eq_false_iff_ne.mpr c39
                have c39b1 : ((wrap64 ((wrap64 (t475 + t476)) + t477)) != 0) = true := bne_iff_ne.mpr c39
                (first | rw [c39b0] | (simp only [i64_w, i32_w]; rw [c39b0]) | skip)
                have H' := Aside0.mk H
                clear H
                go_wp2_with (first | ((with_reducible refine gate_callee (f := 11) rfl ?_); refine goesL_ (some 80) rfl rfl Try.func11 (by kernel_rfl) rfl #[.int .i64 t462] rfl (by (try simp only [List.map_toArray, List.map_cons, List.map_nil]); first | done | rfl | (simp only [List.length_drop, List.length_take]; rfl)) ?_; (with_reducible refine (undercroftlaw03_num.calls t462 t475 _ A36.out).mono ?_); rintro e w' ⟨rfl, ⟨nd, rfl⟩⟩; refine ⟨_, rfl, ?_⟩) | ((with_reducible refine gate_callee (f := 11) rfl ?_); refine goesL_ (some 82) rfl rfl Try.func11 (by kernel_rfl) rfl #[.int .i64 t470] rfl (by (try simp only [List.map_toArray, List.map_cons, List.map_nil]); first | done | rfl | (simp only [List.length_drop, List.length_take]; rfl)) ?_; (with_reducible refine (undercroftlaw03_num.calls t470 t476 _ A37.out).mono ?_); rintro e w' ⟨rfl, ⟨nd, rfl⟩⟩; refine ⟨_, rfl, ?_⟩) | ((with_reducible refine gate_callee (f := 11) rfl ?_); refine goesL_ (some 85) rfl rfl Try.func11 (by kernel_rfl) rfl #[.int .i64 t474] rfl (by (try simp only [List.map_toArray, List.map_cons, List.map_nil]); first | done | rfl | (simp only [List.length_drop, List.length_take]; rfl)) ?_; (with_reducible refine (undercroftlaw03_num.calls t474 t477 _ A38.out).mono ?_); rintro e w' ⟨rfl, ⟨nd, rfl⟩⟩; refine ⟨_, rfl, ?_⟩))
                go_meet
                case rel => exact ⟨_, (true), (by first | rfl | (simp; done) | (simp [*]; done)), H', ⟨by have := HJ8.out; first | omega | exact Nat.le_refl _⟩, ⟨by (with_reducible repeat (first | apply Kd.R_alloc | apply Kd.R_drewN | apply Kd.R_drew)); exact Kd.R_mono HO473.out (fun _ hk => trivial)⟩, ⟨by (with_reducible repeat (first | apply Kd.S_alloc | apply Kd.S_drewN | apply Kd.S_drew)); exact Kd.S_mono HO_456000.out (fun _ hk => ⟨hk.2, hk.1.1⟩)⟩, ⟨by (with_reducible repeat (first | apply Kd.S_alloc | apply Kd.S_drewN | apply Kd.S_drew)); exact Kd.S_mono HO_456001.out (fun _ hk => ⟨hk.2, hk.1.1⟩)⟩, ⟨by (with_reducible repeat (first | apply Kd.S_alloc | apply Kd.S_drewN | apply Kd.S_drew)); exact Kd.S_mono HO_464000.out (fun _ hk => ⟨hk.2, hk.1.1⟩)⟩, ⟨by (with_reducible repeat (first | apply Kd.S_alloc | apply Kd.S_drewN | apply Kd.S_drew)); exact Kd.S_mono HO_464001.out (fun _ hk => ⟨hk.2, hk.1.1⟩)⟩, ⟨by (with_reducible repeat (first | refine blk_drewN ?_ _ | refine blk_drew ?_ | refine blk_alloc ?_ _)); exact BK455.out⟩, ⟨by (with_reducible repeat (first | refine blk_drewN ?_ _ | refine blk_drew ?_ | refine blk_alloc ?_ _)); exact BK463.out⟩, ⟨by repeat (first | (with_reducible first | exact HB.out | apply below_alloc | apply pw_below_drewN | apply below_drew1 | refine below_set ?_ GE455.out | refine below_set ?_ GE463.out) | exact HB.out)⟩⟩
            case rest =>
              clear HC30
              try clear c1
              try clear c2
              try clear p2
              try clear c3
              try clear c4
              try clear q4
              try clear c5
              try clear c6
              try clear c6b0
              try clear c6b1
              try clear p6
              try clear c8
              try clear c11
              try clear c19
              try clear c23
              try clear c23b0
              try clear c23b1
              try clear c24
              try clear c25
              try clear c26
              try clear c26b0
              try clear c26b1
              try clear c31
              try clear c39
              try clear c39b0
              try clear c39b1
              try clear c40
              try clear c40b0
              try clear c40b1
              try clear c41
              try clear c41b0
              try clear c41b1
              try clear c42
              try clear c42b0
              try clear c42b1
              try clear c43
              try clear c43b0
              try clear c43b1
              try clear q47
              try clear hcz14_0
              try clear hcz14_1
              try clear hcz20_0
              try clear hcz20_1
              try clear hcz32_0
              try clear hcz32_1
              try clear hcz34_0
              try clear hcz34_1
              try clear hfz14_0
              try clear hfz14_1
              try clear hfz20_0
              try clear hfz20_1
              try clear hfz32_0
              try clear hfz32_1
              try clear hfz34_0
              try clear hfz34_1
              try clear p2
              try clear p6
              try clear q47
              obtain ⟨kq, x110_29, rfl, HA, HJ29, HO_14, HO_456000, HO_456001, HO_464000, HO_464001, BK455, BK463, HB⟩ := hcut
              cases kq with
              | zero => exact absurd HA.out (by simp [undercroftlaw03_DiskText.j1])
              | succ kj29 =>
                have H := HA.out
                clear HA
                simp only [undercroftlaw03_DiskText.j1] at H
                by_cases c51 : x110_29 = true
                · subst c51
                  have H1 : (none) = some r := by rw [if_pos rfl] at H; exact H
                  clear H
                  have H := H1
                  clear H1
                  exact absurd H (by simp)
                · replace c51 := Bool.eq_false_iff.mpr c51
                  subst c51
                  have H1 : (undercroftlaw03_DiskText.l0 kj29 (Int.tmod (wrap64 ((Int.tmod a1 (wrap64 (1 + (Int.tmod (wrap64 ((Int.tmod a0 20) + 20)) 20)))) + (wrap64 (1 + (Int.tmod (wrap64 ((Int.tmod a0 20) + 20)) 20))))) (wrap64 (1 + (Int.tmod (wrap64 ((Int.tmod a0 20) + 20)) 20)))) l2 t471 0) = some r := by rw [if_neg (show ¬ (false = true) by decide)] at H; exact H
                  clear H
                  have H := H1
                  clear H1
                  have H' := Aside0.mk H
                  clear H
                  go_wp2
                  go_loopg [16] kj29 (fun kq v16 w' => ∃ (x16_3 : Int), v16 = .int .i64 x16_3 ∧ Aside0 (undercroftlaw03_DiskText.l0 kq (Int.tmod (wrap64 ((Int.tmod a1 (wrap64 (1 + (Int.tmod (wrap64 ((Int.tmod a0 20) + 20)) 20)))) + (wrap64 (1 + (Int.tmod (wrap64 ((Int.tmod a0 20) + 20)) 20))))) (wrap64 (1 + (Int.tmod (wrap64 ((Int.tmod a0 20) + 20)) 20)))) l2 t471 x16_3 = some r) ∧ Aside0 (kq ≤ kj29) ∧ Aside0 (Kd.R (Kd.int .u8) 5 w' w.heap.size (fun _ => True) v472 t471) ∧ Aside0 (Kd.S (Kd.slice 5 (Kd.int .u8)) 36 w' w.heap.size (fun k_ => some k_ ≠ (v472 : Value).ownBlock ∧ some k_ ≠ ((.slice Ao18 t456.length co18) : Value).ownBlock) (.slice Ao13 t448.length co13) t448) ∧ Aside0 (Kd.S k62 62 w' w.heap.size (fun k_ => some k_ ≠ (v472 : Value).ownBlock ∧ some k_ ≠ ((.slice Ao21 t459.length co21) : Value).ownBlock) (.slice Ao15 t451.length co15) t451) ∧ Aside0 (Kd.S (Kd.slice 5 (Kd.int .u8)) 36 w' w.heap.size (fun k_ => some k_ ≠ (v472 : Value).ownBlock ∧ some k_ ≠ ((.slice Ao13 t448.length co13) : Value).ownBlock) (.slice Ao18 t456.length co18) t456) ∧ Aside0 (Kd.S k62 62 w' w.heap.size (fun k_ => some k_ ≠ (v472 : Value).ownBlock ∧ some k_ ≠ ((.slice Ao15 t451.length co15) : Value).ownBlock) (.slice Ao21 t459.length co21) t459) ∧ Aside0 (w'.heap[gb455]? = some (.cells #[(.slice Ao13 t448.length co13), (.slice Ao15 t451.length co15)] 30 (0, 0))) ∧ Aside0 (w'.heap[gb463]? = some (.cells #[(.slice Ao18 t456.length co18), (.slice Ao21 t459.length co21)] 30 (0, 0))) ∧ Aside0 (Below w.heap.size w w'))
                  case atStart => exact ⟨(0), (by first | rfl | (simp; done) | (simp [*]; done)), H', ⟨Nat.le_refl _⟩, ⟨by (with_reducible repeat (first | apply Kd.R_alloc | apply Kd.R_drewN | apply Kd.R_drew)); exact HO_14.out⟩, ⟨by (with_reducible repeat (first | apply Kd.S_alloc | apply Kd.S_drewN | apply Kd.S_drew)); exact HO_456000.out⟩, ⟨by (with_reducible repeat (first | apply Kd.S_alloc | apply Kd.S_drewN | apply Kd.S_drew)); exact HO_456001.out⟩, ⟨by (with_reducible repeat (first | apply Kd.S_alloc | apply Kd.S_drewN | apply Kd.S_drew)); exact HO_464000.out⟩, ⟨by (with_reducible repeat (first | apply Kd.S_alloc | apply Kd.S_drewN | apply Kd.S_drew)); exact HO_464001.out⟩, ⟨by (with_reducible repeat (first | refine blk_drewN ?_ _ | refine blk_drew ?_ | refine blk_alloc ?_ _)); exact BK455.out⟩, ⟨by (with_reducible repeat (first | refine blk_drewN ?_ _ | refine blk_drew ?_ | refine blk_alloc ?_ _)); exact BK463.out⟩, ⟨by repeat (first | (with_reducible first | exact HB.out | apply below_alloc | apply pw_below_drewN | apply below_drew1 | refine below_set ?_ GE455.out | refine below_set ?_ GE463.out) | exact HB.out)⟩⟩
                  case round =>
                    clear H'
                    try clear c1
                    try clear c2
                    try clear p2
                    try clear c3
                    try clear c4
                    try clear q4
                    try clear c5
                    try clear c6
                    try clear c6b0
                    try clear c6b1
                    try clear p6
                    try clear c8
                    try clear c11
                    try clear c19
                    try clear c23
                    try clear c23b0
                    try clear c23b1
                    try clear c24
                    try clear c25
                    try clear c26
                    try clear c26b0
                    try clear c26b1
                    try clear c31
                    try clear c39
                    try clear c39b0
                    try clear c39b1
                    try clear c40
                    try clear c40b0
                    try clear c40b1
                    try clear c41
                    try clear c41b0
                    try clear c41b1
                    try clear c42
                    try clear c42b0
                    try clear c42b1
                    try clear c43
                    try clear c43b0
                    try clear c43b1
                    try clear q47
                    try clear c51
                    try clear hcz14_0
                    try clear hcz14_1
                    try clear hcz20_0
                    try clear hcz20_1
                    try clear hcz32_0
                    try clear hcz32_1
                    try clear hcz34_0
                    try clear hcz34_1
                    try clear hfz14_0
                    try clear hfz14_1
                    try clear hfz20_0
                    try clear hfz20_1
                    try clear hfz32_0
                    try clear hfz32_1
                    try clear hfz34_0
                    try clear hfz34_1
                    try clear p2
                    try clear p6
                    try clear q4
                    try clear q47
                    obtain ⟨x16_3, rfl, HA, HK3, HO_14, HO_456000, HO_456001, HO_464000, HO_464001, BK455, BK463, HB⟩ := hrel
                    cases gk with
                    | zero => exact absurd HA.out (by simp [undercroftlaw03_DiskText.l0])
                    | succ k3 =>
                      have H := HA.out
                      clear HA
                      simp only [undercroftlaw03_DiskText.l0] at H
                      by_cases c52 : x16_3 < (t471.length : Int)
                      · rw [if_pos c52] at H
                        have c52b0 : decide (x16_3 < (t471.length : Int)) = true := decide_eq_true c52
                        clear c52
                        by_cases c53 : (wrap64 (x16_3 - (wrap64 (64 * (Int.tmod (wrap64 ((Int.tmod a1 (wrap64 (1 + (Int.tmod (wrap64 ((Int.tmod a0 20) + 20)) 20)))) + (wrap64 (1 + (Int.tmod (wrap64 ((Int.tmod a0 20) + 20)) 20))))) (wrap64 (1 + (Int.tmod (wrap64 ((Int.tmod a0 20) + 20)) 20)))))))) < 0
                        · rw [if_pos c53] at H
                          have c53b0 : decide ((wrap64 (x16_3 - (wrap64 (64 * (Int.tmod (wrap64 ((Int.tmod a1 (wrap64 (1 + (Int.tmod (wrap64 ((Int.tmod a0 20) + 20)) 20)))) + (wrap64 (1 + (Int.tmod (wrap64 ((Int.tmod a0 20) + 20)) 20))))) (wrap64 (1 + (Int.tmod (wrap64 ((Int.tmod a0 20) + 20)) 20)))))))) < 0) = true := decide_eq_true c53
                          clear c53
                          by_cases c54 : 0 ≤ x16_3
                          · rw [if_pos c54] at H
                            have c54b0 : decide (0 ≤ x16_3) = true := decide_eq_true c54
                            clear c54
                            by_cases c55 : (rd t471 x16_3) = 0
                            · rw [if_pos c55] at H
                              have c55b0 : ((rd t471 x16_3) == 0) = true := beq_iff_eq.mpr c55
                              have c55b1 : ((rd t471 x16_3) != 0) = false := bne_eq_false_iff_eq.mpr c55
                              clear c55
                              have H' := Aside0.mk H
                              clear H
                              obtain ⟨Ao56, co56, eo56⟩ := Kd.R_slice HO_14.out
                              subst eo56
                              have p483 : 0 ≤ (x16_3 : Int) := of_decide_eq_true (by first | (with_reducible assumption) | assumption)
                              have q483 : x16_3 < (t471.length : Int) := of_decide_eq_true (by first | (with_reducible assumption) | assumption)
                              obtain ⟨ad483, e483, hx483_0⟩ := Kd.at_int (Kd.R_reads' HO_14.out).2.2 x16_3 p483 q483
                              cases e483
                              replace p483 := eq_true p483
                              replace q483 := eq_true q483
                              go_wp2
                              go_roundg k3
                              case measure => have := HJ8.out; have := HJ29.out; have := HK3.out; omega
                              case rel => exact ⟨(wrap64 (x16_3 + 1)), (by first | rfl | (simp; done) | (simp [*]; done)), H', ⟨by have := HJ8.out; have := HJ29.out; have := HK3.out; omega⟩, ⟨by (with_reducible repeat (first | apply Kd.R_alloc | apply Kd.R_drewN | apply Kd.R_drew)); exact HO_14.out⟩, ⟨by (with_reducible repeat (first | apply Kd.S_alloc | apply Kd.S_drewN | apply Kd.S_drew)); exact HO_456000.out⟩, ⟨by (with_reducible repeat (first | apply Kd.S_alloc | apply Kd.S_drewN | apply Kd.S_drew)); exact HO_456001.out⟩, ⟨by (with_reducible repeat (first | apply Kd.S_alloc | apply Kd.S_drewN | apply Kd.S_drew)); exact HO_464000.out⟩, ⟨by (with_reducible repeat (first | apply Kd.S_alloc | apply Kd.S_drewN | apply Kd.S_drew)); exact HO_464001.out⟩, ⟨by (with_reducible repeat (first | refine blk_drewN ?_ _ | refine blk_drew ?_ | refine blk_alloc ?_ _)); exact BK455.out⟩, ⟨by (with_reducible repeat (first | refine blk_drewN ?_ _ | refine blk_drew ?_ | refine blk_alloc ?_ _)); exact BK463.out⟩, ⟨by repeat (first | (with_reducible first | exact HB.out | apply below_alloc | apply pw_below_drewN | apply below_drew1 | refine below_set ?_ GE455.out | refine below_set ?_ GE463.out) | exact HB.out)⟩⟩
                            · rw [if_neg c55] at H
                              exact absurd H (by simp)
                          · rw [if_neg c54] at H
                            exact absurd H (by simp)
                        · rw [if_neg c53] at H
                          have c53b0 : decide ((wrap64 (x16_3 - (wrap64 (64 * (Int.tmod (wrap64 ((Int.tmod a1 (wrap64 (1 + (Int.tmod (wrap64 ((Int.tmod a0 20) + 20)) 20)))) + (wrap64 (1 + (Int.tmod (wrap64 ((Int.tmod a0 20) + 20)) 20))))) (wrap64 (1 + (Int.tmod (wrap64 ((Int.tmod a0 20) + 20)) 20)))))))) < 0) = false := decide_eq_false c53
                          clear c53
                          by_cases c57 : (wrap64 (x16_3 - (wrap64 (64 * (Int.tmod (wrap64 ((Int.tmod a1 (wrap64 (1 + (Int.tmod (wrap64 ((Int.tmod a0 20) + 20)) 20)))) + (wrap64 (1 + (Int.tmod (wrap64 ((Int.tmod a0 20) + 20)) 20))))) (wrap64 (1 + (Int.tmod (wrap64 ((Int.tmod a0 20) + 20)) 20)))))))) ≥ (l2.length : Int)
                          · rw [if_pos c57] at H
                            have c57b0 : decide ((l2.length : Int) ≤ (wrap64 (x16_3 - (wrap64 (64 * (Int.tmod (wrap64 ((Int.tmod a1 (wrap64 (1 + (Int.tmod (wrap64 ((Int.tmod a0 20) + 20)) 20)))) + (wrap64 (1 + (Int.tmod (wrap64 ((Int.tmod a0 20) + 20)) 20))))) (wrap64 (1 + (Int.tmod (wrap64 ((Int.tmod a0 20) + 20)) 20))))))))) = true := decide_eq_true c57
                            clear c57
                            by_cases c58 : 0 ≤ x16_3
                            · rw [if_pos c58] at H
                              have c58b0 : decide (0 ≤ x16_3) = true := decide_eq_true c58
                              clear c58
                              by_cases c59 : (rd t471 x16_3) = 0
                              · rw [if_pos c59] at H
                                have c59b0 : ((rd t471 x16_3) == 0) = true := beq_iff_eq.mpr c59
                                have c59b1 : ((rd t471 x16_3) != 0) = false := bne_eq_false_iff_eq.mpr c59
                                clear c59
                                have H' := Aside0.mk H
                                clear H
                                obtain ⟨Ao60, co60, eo60⟩ := Kd.R_slice HO_14.out
                                subst eo60
                                have p484 : 0 ≤ (x16_3 : Int) := of_decide_eq_true (by first | (with_reducible assumption) | assumption)
                                have q484 : x16_3 < (t471.length : Int) := of_decide_eq_true (by first | (with_reducible assumption) | assumption)
                                obtain ⟨ad484, e484, hx484_0⟩ := Kd.at_int (Kd.R_reads' HO_14.out).2.2 x16_3 p484 q484
                                cases e484
                                replace p484 := eq_true p484
                                replace q484 := eq_true q484
                                go_wp2
                                go_roundg k3
                                case measure => have := HJ8.out; have := HJ29.out; have := HK3.out; omega
                                case rel => exact ⟨(wrap64 (x16_3 + 1)), (by first | rfl | (simp; done) | (simp [*]; done)), H', ⟨by have := HJ8.out; have := HJ29.out; have := HK3.out; omega⟩, ⟨by (with_reducible repeat (first | apply Kd.R_alloc | apply Kd.R_drewN | apply Kd.R_drew)); exact HO_14.out⟩, ⟨by (with_reducible repeat (first | apply Kd.S_alloc | apply Kd.S_drewN | apply Kd.S_drew)); exact HO_456000.out⟩, ⟨by (with_reducible repeat (first | apply Kd.S_alloc | apply Kd.S_drewN | apply Kd.S_drew)); exact HO_456001.out⟩, ⟨by (with_reducible repeat (first | apply Kd.S_alloc | apply Kd.S_drewN | apply Kd.S_drew)); exact HO_464000.out⟩, ⟨by (with_reducible repeat (first | apply Kd.S_alloc | apply Kd.S_drewN | apply Kd.S_drew)); exact HO_464001.out⟩, ⟨by (with_reducible repeat (first | refine blk_drewN ?_ _ | refine blk_drew ?_ | refine blk_alloc ?_ _)); exact BK455.out⟩, ⟨by (with_reducible repeat (first | refine blk_drewN ?_ _ | refine blk_drew ?_ | refine blk_alloc ?_ _)); exact BK463.out⟩, ⟨by repeat (first | (with_reducible first | exact HB.out | apply below_alloc | apply pw_below_drewN | apply below_drew1 | refine below_set ?_ GE455.out | refine below_set ?_ GE463.out) | exact HB.out)⟩⟩
                              · rw [if_neg c59] at H
                                exact absurd H (by simp)
                            · rw [if_neg c58] at H
                              exact absurd H (by simp)
                          · rw [if_neg c57] at H
                            have c57b0 : decide ((l2.length : Int) ≤ (wrap64 (x16_3 - (wrap64 (64 * (Int.tmod (wrap64 ((Int.tmod a1 (wrap64 (1 + (Int.tmod (wrap64 ((Int.tmod a0 20) + 20)) 20)))) + (wrap64 (1 + (Int.tmod (wrap64 ((Int.tmod a0 20) + 20)) 20))))) (wrap64 (1 + (Int.tmod (wrap64 ((Int.tmod a0 20) + 20)) 20))))))))) = false := decide_eq_false c57
                            clear c57
                            have H' := Aside0.mk H
                            clear H
                            obtain ⟨Ao61, co61, eo61⟩ := Kd.R_slice HO_14.out
                            subst eo61
                            go_wp2
                            go_roundg k3
                            case measure => have := HJ8.out; have := HJ29.out; have := HK3.out; omega
                            case rel => exact ⟨(wrap64 (x16_3 + 1)), (by first | rfl | (simp; done) | (simp [*]; done)), H', ⟨by have := HJ8.out; have := HJ29.out; have := HK3.out; omega⟩, ⟨by (with_reducible repeat (first | apply Kd.R_alloc | apply Kd.R_drewN | apply Kd.R_drew)); exact HO_14.out⟩, ⟨by (with_reducible repeat (first | apply Kd.S_alloc | apply Kd.S_drewN | apply Kd.S_drew)); exact HO_456000.out⟩, ⟨by (with_reducible repeat (first | apply Kd.S_alloc | apply Kd.S_drewN | apply Kd.S_drew)); exact HO_456001.out⟩, ⟨by (with_reducible repeat (first | apply Kd.S_alloc | apply Kd.S_drewN | apply Kd.S_drew)); exact HO_464000.out⟩, ⟨by (with_reducible repeat (first | apply Kd.S_alloc | apply Kd.S_drewN | apply Kd.S_drew)); exact HO_464001.out⟩, ⟨by (with_reducible repeat (first | refine blk_drewN ?_ _ | refine blk_drew ?_ | refine blk_alloc ?_ _)); exact BK455.out⟩, ⟨by (with_reducible repeat (first | refine blk_drewN ?_ _ | refine blk_drew ?_ | refine blk_alloc ?_ _)); exact BK463.out⟩, ⟨by repeat (first | (with_reducible first | exact HB.out | apply below_alloc | apply pw_below_drewN | apply below_drew1 | refine below_set ?_ GE455.out | refine below_set ?_ GE463.out) | exact HB.out)⟩⟩
                      · rw [if_neg c52] at H
                        have c52b0 : decide (x16_3 < (t471.length : Int)) = false := decide_eq_false c52
                        clear c52
                        obtain rfl := Option.some.inj H
                        obtain ⟨Ao62, co62, eo62⟩ := Kd.R_slice HO_14.out
                        subst eo62
                        go_wp2
                        go_ret
                        exact ⟨by first | rfl | (simp [errW_none, errW_some] <;> rfl) | (simp [*, errW_none, errW_some] <;> rfl), by repeat (first | (with_reducible first | exact HB.out | apply below_alloc | apply pw_below_drewN | apply below_drew1 | refine below_set ?_ GE455.out | refine below_set ?_ GE463.out) | exact HB.out)⟩
  · replace c5 := Bool.eq_false_iff.mpr c5
    subst c5
    have H1 : (none) = some r := by rw [if_neg (show ¬ (false = true) by decide)] at H; exact H
    clear H
    have H := H1
    clear H1
    exact absurd H (by simp)

/-- THE ONE PURE STATEMENT of undercroftlaw03_DiskText: yours. -/
def undercroftlaw03_DiskText.Pure : Prop := ∀ (a0 : Int) (a1 : Int) (l2 : List Int), (Lit.int .i64 a0).wf = true → (Lit.int .i64 a1).wf = true → l2.length ≤ maxLen → l2.length * 1 ≤ 140737488351232 → (∀ x ∈ l2, (Lit.int .u8 x).wf = true) → ∃ k, undercroftlaw03_DiskText.f k a0 a1 l2 = some true
theorem undercroftlaw03_DiskText.walk (P : undercroftlaw03_DiskText.Pure) (a0 : Int) (a1 : Int) (a2 : Option Addr) (len2 cap2 : Nat) (z2 : List Int) (w : World) (w0 : (Lit.int .i64 a0).wf = true) (w1 : (Lit.int .i64 a1).wf = true) (w2 : (a2 = none ∧ len2 = 0 ∧ cap2 = 0 ∧ z2 = []) ∨ ∃ x, a2 = some x ∧ len2 ≤ cap2 ∧ cap2 ≤ maxLen ∧ z2.length = cap2 ∧ (∀ i, i < z2.length → w.cell? (x.add i) = some (.int .u8 (z2.getD i 0))) ∧ ∀ n ∈ z2, (Lit.int .u8 n).wf = true) (y2 : len2 * 1 ≤ 140737488351232) :
    Calls Try.prog 6 #[.int .i64 a0, .int .i64 a1, .slice a2 len2 cap2] w fun e w' => e = .returned (.bool true) ∧ Below w.heap.size w w' := by
  obtain ⟨l2, rfl, hr2, hm2, hw2, hc2⟩ := ReadsInt.ofRowC w2
  obtain ⟨k, h⟩ := P a0 a1 l2 w0 w1 hm2 y2 hw2
  refine (undercroftlaw03_DiskText.calls k a0 a1 _ _ l2 true w (Kd.C_of_reads (d := (0 : Int)) (h1 := fun _ => rfl) hr2) hc2 h).mono ?_
  rintro e w' ⟨rfl, hd⟩
  exact ⟨rfl, hd⟩

end Go.Proofs.Ytbohhjhehjkliaa.T
