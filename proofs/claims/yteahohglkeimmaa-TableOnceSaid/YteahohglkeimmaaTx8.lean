/- This text tells functions of the seat as plain functions, with their contracts, as the machine's calls meet them. -/
import Derived.Test.YteahohglkeimmaaTx0
import Derived.Test.YteahohglkeimmaaTx2
import Derived.Test.YteahohglkeimmaaTx3
import Derived.Test.YteahohglkeimmaaTx6
namespace Go.Proofs.Yteahohglkeimmaa.T
open Go.RowKit Go.Proofs.YteahohglkeimmaaW.PrintWords Go.Proofs.YteahohglkeimmaaW.PrintLast Go.Proofs.YteahohglkeimmaaW.PrintMore
attribute [local go_sem] max2_int min2_int max_two min_two max_three min_three max_four min_four   -- for this text's walks alone
set_option linter.unusedVariables false
set_option linter.unusedSimpArgs false

/-! ### undercroftlaw14_TableOnce: function 6 -/
mutual
def undercroftlaw14_TableOnce.l0 : Nat → Int → List (S56) → List (S39) → List Int → List Bool → Int → Option (Bool)
  | 0, _, _, _, _, _, _ => none
  | k + 1, x0, x1, x5, x7, x8, x9 => if x9 < (x1.length : Int) then (undercroftlaw14_TableOnce.j1 k x0 x1 x5 x7 x8 x9 (decide (x9 < 200))) else (undercroftlaw14_TableOnce.j1 k x0 x1 x5 x7 x8 x9 false)
def undercroftlaw14_TableOnce.j1 : Nat → Int → List (S56) → List (S39) → List Int → List Bool → Int → Bool → Option (Bool)
  | 0, _, _, _, _, _, _, _ => none
  | k + 1, x0, x1, x5, x7, x8, x9, x53 => if x53 = true then (if 0 ≤ x9 then (if x9 < (x1.length : Int) then (if x0 = 0 then (none) else (if (Int.tmod (wrap64 ((Int.tmod ((rd_T56 x1 x9).f0) 3) + 3)) 3) = 0 then ((table_Alloc.f x5 (wrap64 (x9 + 1)) (Int.tmod (wrap64 ((Int.tmod ((rd_T56 x1 x9).f2) 9) + 9)) 9)).bind fun bt305 => (undercroftlaw14_TableOnce.l1 k x0 x1 x5 x7 x8 x9 (Int.tmod (wrap64 ((Int.tmod ((rd_T56 x1 x9).f2) 9) + 9)) 9) bt305.1 bt305.2.1 bt305.2.2 false 0)) else (if (Int.tmod (wrap64 ((Int.tmod ((rd_T56 x1 x9).f0) 3) + 3)) 3) = 1 then ((table_Kill.f x5 (Int.tmod (wrap64 ((Int.tmod ((rd_T56 x1 x9).f1) x0) + x0)) x0) 1).bind fun bt316 => ((undercroftlaw14_num.f bt316.2).bind fun t320 => (if 0 ≤ (Int.tmod (wrap64 ((Int.tmod ((rd_T56 x1 x9).f1) x0) + x0)) x0) then (if (Int.tmod (wrap64 ((Int.tmod ((rd_T56 x1 x9).f1) x0) + x0)) x0) < (x8.length : Int) then (if rdOf false x8 (Int.tmod (wrap64 ((Int.tmod ((rd_T56 x1 x9).f1) x0) + x0)) x0) = true then (if (Int.tmod (wrap64 ((Int.tmod ((rd_T56 x1 x9).f1) x0) + x0)) x0) < (x7.length : Int) then (undercroftlaw14_TableOnce.j3 k x0 x1 x5 x7 x8 x9 (Int.tmod (wrap64 ((Int.tmod ((rd_T56 x1 x9).f1) x0) + x0)) x0) bt316.1 bt316.2 ((t320 == 0) != (decide ((rd x7 (Int.tmod (wrap64 ((Int.tmod ((rd_T56 x1 x9).f1) x0) + x0)) x0)) > 0)))) else (none)) else (undercroftlaw14_TableOnce.j3 k x0 x1 x5 x7 x8 x9 (Int.tmod (wrap64 ((Int.tmod ((rd_T56 x1 x9).f1) x0) + x0)) x0) bt316.1 bt316.2 ((t320 == 0) != false))) else (none)) else (none)))) else (if (Int.tmod (wrap64 ((Int.tmod ((rd_T56 x1 x9).f0) 3) + 3)) 3) = 2 then ((table_Free.f x5 (Int.tmod (wrap64 ((Int.tmod ((rd_T56 x1 x9).f1) x0) + x0)) x0)).bind fun bt326 => ((undercroftlaw14_num.f bt326.2).bind fun t330 => (if 0 ≤ (Int.tmod (wrap64 ((Int.tmod ((rd_T56 x1 x9).f1) x0) + x0)) x0) then (if (Int.tmod (wrap64 ((Int.tmod ((rd_T56 x1 x9).f1) x0) + x0)) x0) < (x8.length : Int) then (if rdOf false x8 (Int.tmod (wrap64 ((Int.tmod ((rd_T56 x1 x9).f1) x0) + x0)) x0) = true then (if (Int.tmod (wrap64 ((Int.tmod ((rd_T56 x1 x9).f1) x0) + x0)) x0) < (x7.length : Int) then (undercroftlaw14_TableOnce.j4 k x0 x1 x5 x7 x8 x9 (Int.tmod (wrap64 ((Int.tmod ((rd_T56 x1 x9).f1) x0) + x0)) x0) bt326.1 bt326.2 ((t330 == 0) != ((rd x7 (Int.tmod (wrap64 ((Int.tmod ((rd_T56 x1 x9).f1) x0) + x0)) x0)) == 0))) else (none)) else (undercroftlaw14_TableOnce.j4 k x0 x1 x5 x7 x8 x9 (Int.tmod (wrap64 ((Int.tmod ((rd_T56 x1 x9).f1) x0) + x0)) x0) bt326.1 bt326.2 ((t330 == 0) != false))) else (none)) else (none)))) else (undercroftlaw14_TableOnce.j5 k x0 x1 x5 x7 x8 x9))))) else (none)) else (none)) else (some true)
def undercroftlaw14_TableOnce.j5 : Nat → Int → List (S56) → List (S39) → List Int → List Bool → Int → Option (Bool)
  | 0, _, _, _, _, _, _ => none
  | k + 1, x0, x1, x5, x7, x8, x9 => (table_Room.f k x5).bind fun bt335 => (undercroftlaw14_TableOnce.l2 k x0 x1 x5 x7 x8 x9 bt335.1 bt335.2.1 bt335.2.2 0 0 0)
def undercroftlaw14_TableOnce.l2 : Nat → Int → List (S56) → List (S39) → List Int → List Bool → Int → Int → Int → Int → Int → Int → Int → Option (Bool)
  | 0, _, _, _, _, _, _, _, _, _, _, _, _ => none
  | k + 1, x0, x1, x5, x7, x8, x9, x21, x22, x23, x24, x25, x26 => if x26 < x0 then (if 0 ≤ x26 then (if x26 < (x7.length : Int) then (if x26 < (x8.length : Int) then (if rdOf false x8 x26 = true then (undercroftlaw14_TableOnce.l2 k x0 x1 x5 x7 x8 x9 x21 x22 x23 x24 (wrap64 (x25 + (rd x7 x26))) (wrap64 (x26 + 1))) else (undercroftlaw14_TableOnce.l2 k x0 x1 x5 x7 x8 x9 x21 x22 x23 (wrap64 (x24 + 1)) (wrap64 (x25 + (rd x7 x26))) (wrap64 (x26 + 1)))) else (none)) else (none)) else (none)) else ((undercroftlaw14_num.f x23).bind fun t340 => (if t340 = 0 then (if x21 = x24 then (if x22 = x25 then (undercroftlaw14_TableOnce.l0 k x0 x1 x5 x7 x8 (wrap64 (x9 + 1))) else (none)) else (none)) else (none)))
def undercroftlaw14_TableOnce.l1 : Nat → Int → List (S56) → List (S39) → List Int → List Bool → Int → Int → List (S39) → Int → Int → Bool → Int → Option (Bool)
  | 0, _, _, _, _, _, _, _, _, _, _, _, _ => none
  | k + 1, x0, x1, x5, x7, x8, x9, x11, x12, x13, x14, x15, x16 => if x16 < x0 then (if x15 = true then (undercroftlaw14_TableOnce.l1 k x0 x1 x5 x7 x8 x9 x11 x12 x13 x14 true (wrap64 (x16 + 1))) else (if 0 ≤ x16 then (if x16 < (x8.length : Int) then (undercroftlaw14_TableOnce.l1 k x0 x1 x5 x7 x8 x9 x11 x12 x13 x14 (!(rdOf false x8 x16)) (wrap64 (x16 + 1))) else (none)) else (none))) else (if x15 = true then ((undercroftlaw14_num.f x14).bind fun t311 => (if t311 = 0 then (if x13 < 0 then (none) else (if x13 ≥ x0 then (none) else (if 0 ≤ x13 then (if x13 < (x8.length : Int) then (if rdOf false x8 x13 = true then (none) else (if x13 < (x7.length : Int) then (undercroftlaw14_TableOnce.j5 k x0 x1 x12 (x7.set (x13 : Int).toNat x11) (x8.set (x13 : Int).toNat true) x9) else (none))) else (none)) else (none)))) else (none))) else ((undercroftlaw14_num.f x14).bind fun t315 => (if t315 = 51 then (undercroftlaw14_TableOnce.l0 k x0 x1 x5 x7 x8 (wrap64 (x9 + 1))) else (none))))
def undercroftlaw14_TableOnce.j3 : Nat → Int → List (S56) → List (S39) → List Int → List Bool → Int → Int → List (S39) → Int → Bool → Option (Bool)
  | 0, _, _, _, _, _, _, _, _, _, _ => none
  | k + 1, x0, x1, x5, x7, x8, x9, x10, x17, x18, x160 => if x160 = true then (none) else ((undercroftlaw14_num.f x18).bind fun t323 => (if t323 = 0 then (if 0 ≤ x10 then (if x10 < (x7.length : Int) then (undercroftlaw14_TableOnce.j5 k x0 x1 x17 (x7.set (x10 : Int).toNat (wrap64 ((rd x7 x10) - 1))) x8 x9) else (none)) else (none)) else (undercroftlaw14_TableOnce.j5 k x0 x1 x5 x7 x8 x9)))
def undercroftlaw14_TableOnce.j4 : Nat → Int → List (S56) → List (S39) → List Int → List Bool → Int → Int → List (S39) → Int → Bool → Option (Bool)
  | 0, _, _, _, _, _, _, _, _, _, _ => none
  | k + 1, x0, x1, x5, x7, x8, x9, x10, x19, x20, x193 => if x193 = true then (none) else ((undercroftlaw14_num.f x20).bind fun t333 => (if t333 = 0 then (if 0 ≤ x10 then (if x10 < (x8.length : Int) then (undercroftlaw14_TableOnce.j5 k x0 x1 x19 x7 (x8.set (x10 : Int).toNat false) x9) else (none)) else (none)) else (undercroftlaw14_TableOnce.j5 k x0 x1 x5 x7 x8 x9)))
end
def undercroftlaw14_TableOnce.f (k : Nat) (a0 : Int) (l1 : List (S56)) : Option (Bool) := (undercroftlaw14_alive.f).bind fun t290 => (if t290 = true then ((table_New.f (wrap64 (1 + (Int.tmod (wrap64 ((Int.tmod a0 12) + 12)) 12)))).bind fun bt291 => ((undercroftlaw14_num.f bt291.2).bind fun t295 => (if t295 = 0 then (if 0 ≤ (wrap64 (1 + (Int.tmod (wrap64 ((Int.tmod a0 12) + 12)) 12))) then (if (wrap64 (1 + (Int.tmod (wrap64 ((Int.tmod a0 12) + 12)) 12)) : Int).toNat ≤ 35184372088832 then (if (wrap64 (1 + (Int.tmod (wrap64 ((Int.tmod a0 12) + 12)) 12)) : Int).toNat ≤ 281474976710656 then (undercroftlaw14_TableOnce.l0 k (wrap64 (1 + (Int.tmod (wrap64 ((Int.tmod a0 12) + 12)) 12))) l1 bt291.1 (List.replicate (wrap64 (1 + (Int.tmod (wrap64 ((Int.tmod a0 12) + 12)) 12)) : Int).toNat 0) (List.replicate (wrap64 (1 + (Int.tmod (wrap64 ((Int.tmod a0 12) + 12)) 12)) : Int).toNat false) 0) else (none)) else (none)) else (none)) else (none)))) else (none))
theorem undercroftlaw14_TableOnce.mono_l : ∀ k, (∀ y0 y1 y2 y3 y4 y5, LeO (undercroftlaw14_TableOnce.l0 k y0 y1 y2 y3 y4 y5) (undercroftlaw14_TableOnce.l0 (k + 1) y0 y1 y2 y3 y4 y5)) ∧ (∀ y0 y1 y2 y3 y4 y5 y6, LeO (undercroftlaw14_TableOnce.j1 k y0 y1 y2 y3 y4 y5 y6) (undercroftlaw14_TableOnce.j1 (k + 1) y0 y1 y2 y3 y4 y5 y6)) ∧ (∀ y0 y1 y2 y3 y4 y5, LeO (undercroftlaw14_TableOnce.j5 k y0 y1 y2 y3 y4 y5) (undercroftlaw14_TableOnce.j5 (k + 1) y0 y1 y2 y3 y4 y5)) ∧ (∀ y0 y1 y2 y3 y4 y5 y6 y7 y8 y9 y10 y11, LeO (undercroftlaw14_TableOnce.l2 k y0 y1 y2 y3 y4 y5 y6 y7 y8 y9 y10 y11) (undercroftlaw14_TableOnce.l2 (k + 1) y0 y1 y2 y3 y4 y5 y6 y7 y8 y9 y10 y11)) ∧ (∀ y0 y1 y2 y3 y4 y5 y6 y7 y8 y9 y10 y11, LeO (undercroftlaw14_TableOnce.l1 k y0 y1 y2 y3 y4 y5 y6 y7 y8 y9 y10 y11) (undercroftlaw14_TableOnce.l1 (k + 1) y0 y1 y2 y3 y4 y5 y6 y7 y8 y9 y10 y11)) ∧ (∀ y0 y1 y2 y3 y4 y5 y6 y7 y8 y9, LeO (undercroftlaw14_TableOnce.j3 k y0 y1 y2 y3 y4 y5 y6 y7 y8 y9) (undercroftlaw14_TableOnce.j3 (k + 1) y0 y1 y2 y3 y4 y5 y6 y7 y8 y9)) ∧ (∀ y0 y1 y2 y3 y4 y5 y6 y7 y8 y9, LeO (undercroftlaw14_TableOnce.j4 k y0 y1 y2 y3 y4 y5 y6 y7 y8 y9) (undercroftlaw14_TableOnce.j4 (k + 1) y0 y1 y2 y3 y4 y5 y6 y7 y8 y9))
  | 0 => ⟨fun _ _ _ _ _ _ r h => by simp [undercroftlaw14_TableOnce.l0] at h, fun _ _ _ _ _ _ _ r h => by simp [undercroftlaw14_TableOnce.j1] at h, fun _ _ _ _ _ _ r h => by simp [undercroftlaw14_TableOnce.j5] at h, fun _ _ _ _ _ _ _ _ _ _ _ _ r h => by simp [undercroftlaw14_TableOnce.l2] at h, fun _ _ _ _ _ _ _ _ _ _ _ _ r h => by simp [undercroftlaw14_TableOnce.l1] at h, fun _ _ _ _ _ _ _ _ _ _ r h => by simp [undercroftlaw14_TableOnce.j3] at h, fun _ _ _ _ _ _ _ _ _ _ r h => by simp [undercroftlaw14_TableOnce.j4] at h⟩
  | k + 1 => by
    obtain ⟨ih0, ih1, ih2, ih3, ih4, ih5, ih6⟩ := undercroftlaw14_TableOnce.mono_l k
    refine ⟨?_, ?_, ?_, ?_, ?_, ?_, ?_⟩
    · intro y0 y1 y2 y3 y4 y5
      unfold undercroftlaw14_TableOnce.l0
      repeat' first
      | (with_reducible exact ih0 _ _ _ _ _ _)
      | (with_reducible exact ih1 _ _ _ _ _ _ _)
      | (with_reducible exact ih2 _ _ _ _ _ _)
      | (with_reducible exact ih3 _ _ _ _ _ _ _ _ _ _ _ _)
      | (with_reducible exact ih4 _ _ _ _ _ _ _ _ _ _ _ _)
      | (with_reducible exact ih5 _ _ _ _ _ _ _ _ _ _)
      | (with_reducible exact ih6 _ _ _ _ _ _ _ _ _ _)
      | (with_reducible exact table_Room.mono _ _)
      | (with_reducible exact LeO.refl _)
      | (with_reducible exact LeO.none _)
      | (with_reducible refine LeO.ite ?_ ?_)
      | (with_reducible refine LeO.bind ?_ (fun _ => ?_))
      | exact ih0 _ _ _ _ _ _
      | exact ih1 _ _ _ _ _ _ _
      | exact ih2 _ _ _ _ _ _
      | exact ih3 _ _ _ _ _ _ _ _ _ _ _ _
      | exact ih4 _ _ _ _ _ _ _ _ _ _ _ _
      | exact ih5 _ _ _ _ _ _ _ _ _ _
      | exact ih6 _ _ _ _ _ _ _ _ _ _
      | exact table_Room.mono _ _
      | exact LeO.none _
      | refine LeO.ite ?_ ?_
      | refine LeO.bind ?_ (fun _ => ?_)
    · intro y0 y1 y2 y3 y4 y5 y6
      unfold undercroftlaw14_TableOnce.j1
      repeat' first
      | (with_reducible exact ih0 _ _ _ _ _ _)
      | (with_reducible exact ih1 _ _ _ _ _ _ _)
      | (with_reducible exact ih2 _ _ _ _ _ _)
      | (with_reducible exact ih3 _ _ _ _ _ _ _ _ _ _ _ _)
      | (with_reducible exact ih4 _ _ _ _ _ _ _ _ _ _ _ _)
      | (with_reducible exact ih5 _ _ _ _ _ _ _ _ _ _)
      | (with_reducible exact ih6 _ _ _ _ _ _ _ _ _ _)
      | (with_reducible exact table_Room.mono _ _)
      | (with_reducible exact LeO.refl _)
      | (with_reducible exact LeO.none _)
      | (with_reducible refine LeO.ite ?_ ?_)
      | (with_reducible refine LeO.bind ?_ (fun _ => ?_))
      | exact ih0 _ _ _ _ _ _
      | exact ih1 _ _ _ _ _ _ _
      | exact ih2 _ _ _ _ _ _
      | exact ih3 _ _ _ _ _ _ _ _ _ _ _ _
      | exact ih4 _ _ _ _ _ _ _ _ _ _ _ _
      | exact ih5 _ _ _ _ _ _ _ _ _ _
      | exact ih6 _ _ _ _ _ _ _ _ _ _
      | exact table_Room.mono _ _
      | exact LeO.none _
      | refine LeO.ite ?_ ?_
      | refine LeO.bind ?_ (fun _ => ?_)
    · intro y0 y1 y2 y3 y4 y5
      unfold undercroftlaw14_TableOnce.j5
      repeat' first
      | (with_reducible exact ih0 _ _ _ _ _ _)
      | (with_reducible exact ih1 _ _ _ _ _ _ _)
      | (with_reducible exact ih2 _ _ _ _ _ _)
      | (with_reducible exact ih3 _ _ _ _ _ _ _ _ _ _ _ _)
      | (with_reducible exact ih4 _ _ _ _ _ _ _ _ _ _ _ _)
      | (with_reducible exact ih5 _ _ _ _ _ _ _ _ _ _)
      | (with_reducible exact ih6 _ _ _ _ _ _ _ _ _ _)
      | (with_reducible exact table_Room.mono _ _)
      | (with_reducible exact LeO.refl _)
      | (with_reducible exact LeO.none _)
      | (with_reducible refine LeO.ite ?_ ?_)
      | (with_reducible refine LeO.bind ?_ (fun _ => ?_))
      | exact ih0 _ _ _ _ _ _
      | exact ih1 _ _ _ _ _ _ _
      | exact ih2 _ _ _ _ _ _
      | exact ih3 _ _ _ _ _ _ _ _ _ _ _ _
      | exact ih4 _ _ _ _ _ _ _ _ _ _ _ _
      | exact ih5 _ _ _ _ _ _ _ _ _ _
      | exact ih6 _ _ _ _ _ _ _ _ _ _
      | exact table_Room.mono _ _
      | exact LeO.none _
      | refine LeO.ite ?_ ?_
      | refine LeO.bind ?_ (fun _ => ?_)
    · intro y0 y1 y2 y3 y4 y5 y6 y7 y8 y9 y10 y11
      unfold undercroftlaw14_TableOnce.l2
      repeat' first
      | (with_reducible exact ih0 _ _ _ _ _ _)
      | (with_reducible exact ih1 _ _ _ _ _ _ _)
      | (with_reducible exact ih2 _ _ _ _ _ _)
      | (with_reducible exact ih3 _ _ _ _ _ _ _ _ _ _ _ _)
      | (with_reducible exact ih4 _ _ _ _ _ _ _ _ _ _ _ _)
      | (with_reducible exact ih5 _ _ _ _ _ _ _ _ _ _)
      | (with_reducible exact ih6 _ _ _ _ _ _ _ _ _ _)
      | (with_reducible exact table_Room.mono _ _)
      | (with_reducible exact LeO.refl _)
      | (with_reducible exact LeO.none _)
      | (with_reducible refine LeO.ite ?_ ?_)
      | (with_reducible refine LeO.bind ?_ (fun _ => ?_))
      | exact ih0 _ _ _ _ _ _
      | exact ih1 _ _ _ _ _ _ _
      | exact ih2 _ _ _ _ _ _
      | exact ih3 _ _ _ _ _ _ _ _ _ _ _ _
      | exact ih4 _ _ _ _ _ _ _ _ _ _ _ _
      | exact ih5 _ _ _ _ _ _ _ _ _ _
      | exact ih6 _ _ _ _ _ _ _ _ _ _
      | exact table_Room.mono _ _
      | exact LeO.none _
      | refine LeO.ite ?_ ?_
      | refine LeO.bind ?_ (fun _ => ?_)
    · intro y0 y1 y2 y3 y4 y5 y6 y7 y8 y9 y10 y11
      unfold undercroftlaw14_TableOnce.l1
      repeat' first
      | (with_reducible exact ih0 _ _ _ _ _ _)
      | (with_reducible exact ih1 _ _ _ _ _ _ _)
      | (with_reducible exact ih2 _ _ _ _ _ _)
      | (with_reducible exact ih3 _ _ _ _ _ _ _ _ _ _ _ _)
      | (with_reducible exact ih4 _ _ _ _ _ _ _ _ _ _ _ _)
      | (with_reducible exact ih5 _ _ _ _ _ _ _ _ _ _)
      | (with_reducible exact ih6 _ _ _ _ _ _ _ _ _ _)
      | (with_reducible exact table_Room.mono _ _)
      | (with_reducible exact LeO.refl _)
      | (with_reducible exact LeO.none _)
      | (with_reducible refine LeO.ite ?_ ?_)
      | (with_reducible refine LeO.bind ?_ (fun _ => ?_))
      | exact ih0 _ _ _ _ _ _
      | exact ih1 _ _ _ _ _ _ _
      | exact ih2 _ _ _ _ _ _
      | exact ih3 _ _ _ _ _ _ _ _ _ _ _ _
      | exact ih4 _ _ _ _ _ _ _ _ _ _ _ _
      | exact ih5 _ _ _ _ _ _ _ _ _ _
      | exact ih6 _ _ _ _ _ _ _ _ _ _
      | exact table_Room.mono _ _
      | exact LeO.none _
      | refine LeO.ite ?_ ?_
      | refine LeO.bind ?_ (fun _ => ?_)
    · intro y0 y1 y2 y3 y4 y5 y6 y7 y8 y9
      unfold undercroftlaw14_TableOnce.j3
      repeat' first
      | (with_reducible exact ih0 _ _ _ _ _ _)
      | (with_reducible exact ih1 _ _ _ _ _ _ _)
      | (with_reducible exact ih2 _ _ _ _ _ _)
      | (with_reducible exact ih3 _ _ _ _ _ _ _ _ _ _ _ _)
      | (with_reducible exact ih4 _ _ _ _ _ _ _ _ _ _ _ _)
      | (with_reducible exact ih5 _ _ _ _ _ _ _ _ _ _)
      | (with_reducible exact ih6 _ _ _ _ _ _ _ _ _ _)
      | (with_reducible exact table_Room.mono _ _)
      | (with_reducible exact LeO.refl _)
      | (with_reducible exact LeO.none _)
      | (with_reducible refine LeO.ite ?_ ?_)
      | (with_reducible refine LeO.bind ?_ (fun _ => ?_))
      | exact ih0 _ _ _ _ _ _
      | exact ih1 _ _ _ _ _ _ _
      | exact ih2 _ _ _ _ _ _
      | exact ih3 _ _ _ _ _ _ _ _ _ _ _ _
      | exact ih4 _ _ _ _ _ _ _ _ _ _ _ _
      | exact ih5 _ _ _ _ _ _ _ _ _ _
      | exact ih6 _ _ _ _ _ _ _ _ _ _
      | exact table_Room.mono _ _
      | exact LeO.none _
      | refine LeO.ite ?_ ?_
      | refine LeO.bind ?_ (fun _ => ?_)
    · intro y0 y1 y2 y3 y4 y5 y6 y7 y8 y9
      unfold undercroftlaw14_TableOnce.j4
      repeat' first
      | (with_reducible exact ih0 _ _ _ _ _ _)
      | (with_reducible exact ih1 _ _ _ _ _ _ _)
      | (with_reducible exact ih2 _ _ _ _ _ _)
      | (with_reducible exact ih3 _ _ _ _ _ _ _ _ _ _ _ _)
      | (with_reducible exact ih4 _ _ _ _ _ _ _ _ _ _ _ _)
      | (with_reducible exact ih5 _ _ _ _ _ _ _ _ _ _)
      | (with_reducible exact ih6 _ _ _ _ _ _ _ _ _ _)
      | (with_reducible exact table_Room.mono _ _)
      | (with_reducible exact LeO.refl _)
      | (with_reducible exact LeO.none _)
      | (with_reducible refine LeO.ite ?_ ?_)
      | (with_reducible refine LeO.bind ?_ (fun _ => ?_))
      | exact ih0 _ _ _ _ _ _
      | exact ih1 _ _ _ _ _ _ _
      | exact ih2 _ _ _ _ _ _
      | exact ih3 _ _ _ _ _ _ _ _ _ _ _ _
      | exact ih4 _ _ _ _ _ _ _ _ _ _ _ _
      | exact ih5 _ _ _ _ _ _ _ _ _ _
      | exact ih6 _ _ _ _ _ _ _ _ _ _
      | exact table_Room.mono _ _
      | exact LeO.none _
      | refine LeO.ite ?_ ?_
      | refine LeO.bind ?_ (fun _ => ?_)
theorem undercroftlaw14_TableOnce.mono : ∀ a0 a1 k, LeO (undercroftlaw14_TableOnce.f k a0 a1) (undercroftlaw14_TableOnce.f (k + 1) a0 a1) := by
  intro a0 a1 k
  obtain ⟨ih0, ih1, ih2, ih3, ih4, ih5, ih6⟩ := undercroftlaw14_TableOnce.mono_l k
  unfold undercroftlaw14_TableOnce.f
  repeat' first
      | (with_reducible exact ih0 _ _ _ _ _ _)
      | (with_reducible exact ih1 _ _ _ _ _ _ _)
      | (with_reducible exact ih2 _ _ _ _ _ _)
      | (with_reducible exact ih3 _ _ _ _ _ _ _ _ _ _ _ _)
      | (with_reducible exact ih4 _ _ _ _ _ _ _ _ _ _ _ _)
      | (with_reducible exact ih5 _ _ _ _ _ _ _ _ _ _)
      | (with_reducible exact ih6 _ _ _ _ _ _ _ _ _ _)
      | (with_reducible exact table_Room.mono _ _)
      | (with_reducible exact LeO.refl _)
      | (with_reducible exact LeO.none _)
      | (with_reducible refine LeO.ite ?_ ?_)
      | (with_reducible refine LeO.bind ?_ (fun _ => ?_))
      | exact ih0 _ _ _ _ _ _
      | exact ih1 _ _ _ _ _ _ _
      | exact ih2 _ _ _ _ _ _
      | exact ih3 _ _ _ _ _ _ _ _ _ _ _ _
      | exact ih4 _ _ _ _ _ _ _ _ _ _ _ _
      | exact ih5 _ _ _ _ _ _ _ _ _ _
      | exact ih6 _ _ _ _ _ _ _ _ _ _
      | exact table_Room.mono _ _
      | exact LeO.none _
      | refine LeO.ite ?_ ?_
      | refine LeO.bind ?_ (fun _ => ?_)
set_option maxHeartbeats 8000000 in
set_option maxRecDepth 100000 in
theorem undercroftlaw14_TableOnce.calls (k : Nat) (a0 : Int) (A1 : Option Addr) (c1 : Nat) (l1 : List (S56)) (r : Bool) (w : World) (hr1 : Kd.C k56 w A1 l1.length l1) (hc1 : l1.length ≤ c1) (h : undercroftlaw14_TableOnce.f k a0 l1 = some r) :
    Calls Try.prog 6 #[.int .i64 a0, .slice A1 l1.length c1] w fun e w' => e = .returned (.bool r) ∧ Below w.heap.size w w' := by
  have HR1 := Aside0.mk hr1
  have HC1 := Aside0.mk hc1
  clear hr1 hc1
  have HB := Aside0.mk (Below.refl w.heap.size w)
  have H : ((undercroftlaw14_alive.f).bind fun t290 => (if t290 = true then ((table_New.f (wrap64 (1 + (Int.tmod (wrap64 ((Int.tmod a0 12) + 12)) 12)))).bind fun bt291 => ((undercroftlaw14_num.f bt291.2).bind fun t295 => (if t295 = 0 then (if 0 ≤ (wrap64 (1 + (Int.tmod (wrap64 ((Int.tmod a0 12) + 12)) 12))) then (if (wrap64 (1 + (Int.tmod (wrap64 ((Int.tmod a0 12) + 12)) 12)) : Int).toNat ≤ 35184372088832 then (if (wrap64 (1 + (Int.tmod (wrap64 ((Int.tmod a0 12) + 12)) 12)) : Int).toNat ≤ 281474976710656 then (undercroftlaw14_TableOnce.l0 k (wrap64 (1 + (Int.tmod (wrap64 ((Int.tmod a0 12) + 12)) 12))) l1 bt291.1 (List.replicate (wrap64 (1 + (Int.tmod (wrap64 ((Int.tmod a0 12) + 12)) 12)) : Int).toNat 0) (List.replicate (wrap64 (1 + (Int.tmod (wrap64 ((Int.tmod a0 12) + 12)) 12)) : Int).toNat false) 0) else (none)) else (none)) else (none)) else (none)))) else (none))) = some r := h
  clear h
  replace H := Option.bind_eq_some_iff.mp H
  obtain ⟨t290, A30, H⟩ := H
  replace H : (if t290 = true then ((table_New.f (wrap64 (1 + (Int.tmod (wrap64 ((Int.tmod a0 12) + 12)) 12)))).bind fun bt291 => ((undercroftlaw14_num.f bt291.2).bind fun t295 => (if t295 = 0 then (if 0 ≤ (wrap64 (1 + (Int.tmod (wrap64 ((Int.tmod a0 12) + 12)) 12))) then (if (wrap64 (1 + (Int.tmod (wrap64 ((Int.tmod a0 12) + 12)) 12)) : Int).toNat ≤ 35184372088832 then (if (wrap64 (1 + (Int.tmod (wrap64 ((Int.tmod a0 12) + 12)) 12)) : Int).toNat ≤ 281474976710656 then (undercroftlaw14_TableOnce.l0 k (wrap64 (1 + (Int.tmod (wrap64 ((Int.tmod a0 12) + 12)) 12))) l1 bt291.1 (List.replicate (wrap64 (1 + (Int.tmod (wrap64 ((Int.tmod a0 12) + 12)) 12)) : Int).toNat 0) (List.replicate (wrap64 (1 + (Int.tmod (wrap64 ((Int.tmod a0 12) + 12)) 12)) : Int).toNat false) 0) else (none)) else (none)) else (none)) else (none)))) else (none)) = some r := H
  have A3 := Aside0.mk A30
  clear A30
  by_cases c4 : t290 = true
  · subst c4
    have H1 : ((table_New.f (wrap64 (1 + (Int.tmod (wrap64 ((Int.tmod a0 12) + 12)) 12)))).bind fun bt291 => ((undercroftlaw14_num.f bt291.2).bind fun t295 => (if t295 = 0 then (if 0 ≤ (wrap64 (1 + (Int.tmod (wrap64 ((Int.tmod a0 12) + 12)) 12))) then (if (wrap64 (1 + (Int.tmod (wrap64 ((Int.tmod a0 12) + 12)) 12)) : Int).toNat ≤ 35184372088832 then (if (wrap64 (1 + (Int.tmod (wrap64 ((Int.tmod a0 12) + 12)) 12)) : Int).toNat ≤ 281474976710656 then (undercroftlaw14_TableOnce.l0 k (wrap64 (1 + (Int.tmod (wrap64 ((Int.tmod a0 12) + 12)) 12))) l1 bt291.1 (List.replicate (wrap64 (1 + (Int.tmod (wrap64 ((Int.tmod a0 12) + 12)) 12)) : Int).toNat 0) (List.replicate (wrap64 (1 + (Int.tmod (wrap64 ((Int.tmod a0 12) + 12)) 12)) : Int).toNat false) 0) else (none)) else (none)) else (none)) else (none)))) = some r := by rw [if_pos rfl] at H; exact H
    clear H
    have H := H1
    clear H1
    replace H := Option.bind_eq_some_iff.mp H
    obtain ⟨⟨t291, t292⟩, A50, H⟩ := H
    replace H : ((undercroftlaw14_num.f t292).bind fun t295 => (if t295 = 0 then (if 0 ≤ (wrap64 (1 + (Int.tmod (wrap64 ((Int.tmod a0 12) + 12)) 12))) then (if (wrap64 (1 + (Int.tmod (wrap64 ((Int.tmod a0 12) + 12)) 12)) : Int).toNat ≤ 35184372088832 then (if (wrap64 (1 + (Int.tmod (wrap64 ((Int.tmod a0 12) + 12)) 12)) : Int).toNat ≤ 281474976710656 then (undercroftlaw14_TableOnce.l0 k (wrap64 (1 + (Int.tmod (wrap64 ((Int.tmod a0 12) + 12)) 12))) l1 t291 (List.replicate (wrap64 (1 + (Int.tmod (wrap64 ((Int.tmod a0 12) + 12)) 12)) : Int).toNat 0) (List.replicate (wrap64 (1 + (Int.tmod (wrap64 ((Int.tmod a0 12) + 12)) 12)) : Int).toNat false) 0) else (none)) else (none)) else (none)) else (none))) = some r := H
    have A5 := Aside0.mk A50
    clear A50
    replace H := Option.bind_eq_some_iff.mp H
    obtain ⟨t295, A60, H⟩ := H
    replace H : (if t295 = 0 then (if 0 ≤ (wrap64 (1 + (Int.tmod (wrap64 ((Int.tmod a0 12) + 12)) 12))) then (if (wrap64 (1 + (Int.tmod (wrap64 ((Int.tmod a0 12) + 12)) 12)) : Int).toNat ≤ 35184372088832 then (if (wrap64 (1 + (Int.tmod (wrap64 ((Int.tmod a0 12) + 12)) 12)) : Int).toNat ≤ 281474976710656 then (undercroftlaw14_TableOnce.l0 k (wrap64 (1 + (Int.tmod (wrap64 ((Int.tmod a0 12) + 12)) 12))) l1 t291 (List.replicate (wrap64 (1 + (Int.tmod (wrap64 ((Int.tmod a0 12) + 12)) 12)) : Int).toNat 0) (List.replicate (wrap64 (1 + (Int.tmod (wrap64 ((Int.tmod a0 12) + 12)) 12)) : Int).toNat false) 0) else (none)) else (none)) else (none)) else (none)) = some r := H
    have A6 := Aside0.mk A60
    clear A60
    by_cases c7 : t295 = 0
    · rw [if_pos c7] at H
      have c7b0 : (t295 == 0) = true := beq_iff_eq.mpr c7
      have c7b1 : (t295 != 0) = false := bne_eq_false_iff_eq.mpr c7
      clear c7
      obtain ⟨ji8, hji8⟩ : ∃ j_ : Int, (wrap64 (1 + (Int.tmod (wrap64 ((Int.tmod a0 12) + 12)) 12))) = j_ := ⟨_, rfl⟩
      replace H : (if 0 ≤ (ji8) then (if (ji8 : Int).toNat ≤ 35184372088832 then (if (ji8 : Int).toNat ≤ 281474976710656 then (undercroftlaw14_TableOnce.l0 k ji8 l1 t291 (List.replicate (ji8 : Int).toNat 0) (List.replicate (ji8 : Int).toNat false) 0) else (none)) else (none)) else (none)) = some r := by first | (rw [hji8] at H; exact H) | (simp only [hji8] at H ⊢; exact H)
      (try rw [hji8] at A3)
      (try rw [hji8] at A5)
      (try rw [hji8] at A6)
      have hji8w : (IntKind.i64.wrap (1 + (Int.tmod (wrap64 ((Int.tmod a0 12) + 12)) 12))) = ji8 := (i64_w _).trans hji8
      by_cases c9 : 0 ≤ (ji8)
      · rw [if_pos c9] at H
        have c9b0 := eq_true c9
        have c9b1 : decide (0 ≤ (ji8)) = true := decide_eq_true c9
        clear c9
        by_cases c10 : (ji8 : Int).toNat ≤ 35184372088832
        · rw [if_pos c10] at H
          have c10b0 := eq_true c10
          have c10b1 : decide ((ji8 : Int).toNat ≤ 35184372088832) = true := decide_eq_true c10
          clear c10
          obtain ⟨y296, hy296⟩ : ∃ y_ : List Int, y_ = (List.replicate (ji8 : Int).toNat 0) := ⟨_, rfl⟩
          replace H : (if (ji8 : Int).toNat ≤ 281474976710656 then (undercroftlaw14_TableOnce.l0 k ji8 l1 t291 y296 (List.replicate (ji8 : Int).toNat false) 0) else (none)) = some r := by first | (rw [hy296]; with_reducible exact H) | (have H2_ := (Option.bind_some _ _).symm.trans H; rw [hy296]; with_reducible exact H2_) | (have H2_ := (Option.bind_some _ _).symm.trans H; with_reducible exact H2_) | with_reducible exact H | (rw [hy296]; exact H) | exact H
          have Ny296 := Aside0.mk hy296
          clear hy296
          by_cases c11 : (ji8 : Int).toNat ≤ 281474976710656
          · rw [if_pos c11] at H
            have c11b0 := eq_true c11
            have c11b1 : decide ((ji8 : Int).toNat ≤ 281474976710656) = true := decide_eq_true c11
            clear c11
            obtain ⟨y299, hy299⟩ : ∃ y_ : List Bool, y_ = (List.replicate (ji8 : Int).toNat false) := ⟨_, rfl⟩
            replace H : (undercroftlaw14_TableOnce.l0 k ji8 l1 t291 y296 y299 0) = some r := by first | (rw [hy299]; with_reducible exact H) | (have H2_ := (Option.bind_some _ _).symm.trans H; rw [hy299]; with_reducible exact H2_) | (have H2_ := (Option.bind_some _ _).symm.trans H; with_reducible exact H2_) | with_reducible exact H | (rw [hy299]; exact H) | exact H
            have Ny299 := Aside0.mk hy299
            clear hy299
            have H' := Aside0.mk H
            clear H
            go_enter Try.func6, Try.ntmps6
            go_wp2_with (first | (go_at_call 7; (with_reducible refine (undercroftlaw14_alive.calls  true _ A3.out).mono ?_); rintro e w12 ⟨rfl, hb⟩; have n0_ := Aside0.mk (below_step (by repeat (first | (with_reducible first | exact HB.out | apply below_alloc | apply pw_below_drewN | apply below_drew1) | exact HB.out)) hb); clear HB; have HB := n0_; clear n0_; (try clear hb); (try clear hb2); (try clear hk); (try clear hi)) | (go_at_call 19; (with_reducible refine (table_New.calls ji8 t291 t292 _ A5.out).mono ?_); rintro e w13 ⟨v293, rfl, ho0, hb⟩; have n0_ := Aside0.mk (Kd.R_lower ho0 (below_size (by repeat (first | (with_reducible first | exact HB.out | apply below_alloc | apply pw_below_drewN | apply below_drew1) | exact HB.out)))); have n1_ := Aside0.mk (below_step (by repeat (first | (with_reducible first | exact HB.out | apply below_alloc | apply pw_below_drewN | apply below_drew1) | exact HB.out)) hb); clear HB; have HO294 := n0_; have HB := n1_; clear n0_ n1_; (try clear hb); (try clear hb2); (try clear hk); (try clear hi); (try clear ho0)) | (go_at_call 10; (with_reducible refine (undercroftlaw14_num.calls t292 t295 _ A6.out).mono ?_); rintro e w' ⟨rfl, ⟨nd, rfl⟩⟩; (try first | exact ⟨rfl, _, World.drewN_drewN _ _ _⟩ | exact ⟨rfl, _, Eq.trans (World.drewN_drewN _ _ _) (congrArg (World.drewN _) (Nat.add_assoc _ _ _))⟩)) | ((with_reducible refine gate_dst (N := 43) rfl ?_); refine Kd.R_make (Kd.int .i64) _ 3 rfl (N := 43) rfl 53 _ _ rfl ji8 rfl rfl Try.underlying53 (.int .i64 0) 8 info3 rfl (by decide) (by omega) 0 (ok := fun _ => True) (okp := fun _ => True) rfl (fun _ hk => hk) trivial (of_decide_eq_true (by first | (with_reducible assumption) | assumption)) (Nat.le_trans (Nat.mul_le_mul_right _ (of_decide_eq_true (by first | (with_reducible assumption) | assumption) : ji8.toNat ≤ 35184372088832)) (by omega)) (Below.refl _ _) (Nat.le_refl _) ?_; intro v297 w14 ho15 hb hg_ hnew_; clear hg_ hnew_; (first | rw [← Ny296.out] at ho15 | (simp only [Int.reduceToNat] at ho15; rw [← Ny296.out] at ho15)); have n0_ := Aside0.mk (Kd.R_below (by (with_reducible repeat (first | apply Kd.R_alloc | apply Kd.R_drewN | apply Kd.R_drew)); exact HO294.out) hb); have n1_ := Aside0.mk (Kd.R_lower ho15 (below_size (by repeat (first | (with_reducible first | exact HB.out | apply below_alloc | apply pw_below_drewN | apply below_drew1) | exact HB.out)))); have n2_ := Aside0.mk (below_step (by repeat (first | (with_reducible first | exact HB.out | apply below_alloc | apply pw_below_drewN | apply below_drew1) | exact HB.out)) hb); clear HO294; clear HB; have HO294 := n0_; have HO298 := n1_; have HB := n2_; clear n0_ n1_ n2_; clear hb ho15) | ((with_reducible refine gate_dst (N := 45) rfl ?_); refine Kd.R_make Kd.bool _ 4 rfl (N := 45) rfl 54 _ _ rfl ji8 rfl rfl Try.underlying54 (.bool false) 1 info4 rfl (by decide) (by omega) false (ok := fun _ => True) (okp := fun _ => True) rfl (fun _ hk => hk) trivial (of_decide_eq_true (by first | (with_reducible assumption) | assumption)) (Nat.le_trans (Nat.mul_le_mul_right _ (of_decide_eq_true (by first | (with_reducible assumption) | assumption) : ji8.toNat ≤ 281474976710656)) (by omega)) (Below.refl _ _) (Nat.le_refl _) ?_; intro v300 w16 ho17 hb hg_ hnew_; clear hg_ hnew_; (first | rw [← Ny299.out] at ho17 | (simp only [Int.reduceToNat] at ho17; rw [← Ny299.out] at ho17)); have n0_ := Aside0.mk (Kd.R_below (by (with_reducible repeat (first | apply Kd.R_alloc | apply Kd.R_drewN | apply Kd.R_drew)); exact HO294.out) hb); have n1_ := Aside0.mk (Kd.R_below (by (with_reducible repeat (first | apply Kd.R_alloc | apply Kd.R_drewN | apply Kd.R_drew)); exact HO298.out) hb); have n2_ := Aside0.mk (Kd.R_lower ho17 (below_size (by repeat (first | (with_reducible first | exact HB.out | apply below_alloc | apply pw_below_drewN | apply below_drew1) | exact HB.out)))); have n3_ := Aside0.mk (below_step (by repeat (first | (with_reducible first | exact HB.out | apply below_alloc | apply pw_below_drewN | apply below_drew1) | exact HB.out)) hb); clear HO294; clear HO298; clear HB; have HO294 := n0_; have HO298 := n1_; have HO301 := n2_; have HB := n3_; clear n0_ n1_ n2_ n3_; clear hb ho17))
            repeat (go_quiet (first | (go_at_call 7; (with_reducible refine (undercroftlaw14_alive.calls  true _ A3.out).mono ?_); rintro e w12 ⟨rfl, hb⟩; have n0_ := Aside0.mk (below_step (by repeat (first | (with_reducible first | exact HB.out | apply below_alloc | apply pw_below_drewN | apply below_drew1) | exact HB.out)) hb); clear HB; have HB := n0_; clear n0_; (try clear hb); (try clear hb2); (try clear hk); (try clear hi)) | (go_at_call 19; (with_reducible refine (table_New.calls ji8 t291 t292 _ A5.out).mono ?_); rintro e w13 ⟨v293, rfl, ho0, hb⟩; have n0_ := Aside0.mk (Kd.R_lower ho0 (below_size (by repeat (first | (with_reducible first | exact HB.out | apply below_alloc | apply pw_below_drewN | apply below_drew1) | exact HB.out)))); have n1_ := Aside0.mk (below_step (by repeat (first | (with_reducible first | exact HB.out | apply below_alloc | apply pw_below_drewN | apply below_drew1) | exact HB.out)) hb); clear HB; have HO294 := n0_; have HB := n1_; clear n0_ n1_; (try clear hb); (try clear hb2); (try clear hk); (try clear hi); (try clear ho0)) | (go_at_call 10; (with_reducible refine (undercroftlaw14_num.calls t292 t295 _ A6.out).mono ?_); rintro e w' ⟨rfl, ⟨nd, rfl⟩⟩; (try first | exact ⟨rfl, _, World.drewN_drewN _ _ _⟩ | exact ⟨rfl, _, Eq.trans (World.drewN_drewN _ _ _) (congrArg (World.drewN _) (Nat.add_assoc _ _ _))⟩)) | ((with_reducible refine gate_dst (N := 43) rfl ?_); refine Kd.R_make (Kd.int .i64) _ 3 rfl (N := 43) rfl 53 _ _ rfl ji8 rfl rfl Try.underlying53 (.int .i64 0) 8 info3 rfl (by decide) (by omega) 0 (ok := fun _ => True) (okp := fun _ => True) rfl (fun _ hk => hk) trivial (of_decide_eq_true (by first | (with_reducible assumption) | assumption)) (Nat.le_trans (Nat.mul_le_mul_right _ (of_decide_eq_true (by first | (with_reducible assumption) | assumption) : ji8.toNat ≤ 35184372088832)) (by omega)) (Below.refl _ _) (Nat.le_refl _) ?_; intro v297 w14 ho15 hb hg_ hnew_; clear hg_ hnew_; (first | rw [← Ny296.out] at ho15 | (simp only [Int.reduceToNat] at ho15; rw [← Ny296.out] at ho15)); have n0_ := Aside0.mk (Kd.R_below (by (with_reducible repeat (first | apply Kd.R_alloc | apply Kd.R_drewN | apply Kd.R_drew)); exact HO294.out) hb); have n1_ := Aside0.mk (Kd.R_lower ho15 (below_size (by repeat (first | (with_reducible first | exact HB.out | apply below_alloc | apply pw_below_drewN | apply below_drew1) | exact HB.out)))); have n2_ := Aside0.mk (below_step (by repeat (first | (with_reducible first | exact HB.out | apply below_alloc | apply pw_below_drewN | apply below_drew1) | exact HB.out)) hb); clear HO294; clear HB; have HO294 := n0_; have HO298 := n1_; have HB := n2_; clear n0_ n1_ n2_; clear hb ho15) | ((with_reducible refine gate_dst (N := 45) rfl ?_); refine Kd.R_make Kd.bool _ 4 rfl (N := 45) rfl 54 _ _ rfl ji8 rfl rfl Try.underlying54 (.bool false) 1 info4 rfl (by decide) (by omega) false (ok := fun _ => True) (okp := fun _ => True) rfl (fun _ hk => hk) trivial (of_decide_eq_true (by first | (with_reducible assumption) | assumption)) (Nat.le_trans (Nat.mul_le_mul_right _ (of_decide_eq_true (by first | (with_reducible assumption) | assumption) : ji8.toNat ≤ 281474976710656)) (by omega)) (Below.refl _ _) (Nat.le_refl _) ?_; intro v300 w16 ho17 hb hg_ hnew_; clear hg_ hnew_; (first | rw [← Ny299.out] at ho17 | (simp only [Int.reduceToNat] at ho17; rw [← Ny299.out] at ho17)); have n0_ := Aside0.mk (Kd.R_below (by (with_reducible repeat (first | apply Kd.R_alloc | apply Kd.R_drewN | apply Kd.R_drew)); exact HO294.out) hb); have n1_ := Aside0.mk (Kd.R_below (by (with_reducible repeat (first | apply Kd.R_alloc | apply Kd.R_drewN | apply Kd.R_drew)); exact HO298.out) hb); have n2_ := Aside0.mk (Kd.R_lower ho17 (below_size (by repeat (first | (with_reducible first | exact HB.out | apply below_alloc | apply pw_below_drewN | apply below_drew1) | exact HB.out)))); have n3_ := Aside0.mk (below_step (by repeat (first | (with_reducible first | exact HB.out | apply below_alloc | apply pw_below_drewN | apply below_drew1) | exact HB.out)) hb); clear HO294; clear HO298; clear HB; have HO294 := n0_; have HO298 := n1_; have HO301 := n2_; have HB := n3_; clear n0_ n1_ n2_ n3_; clear hb ho17)); try go_wp2_with (first | (go_at_call 7; (with_reducible refine (undercroftlaw14_alive.calls  true _ A3.out).mono ?_); rintro e w12 ⟨rfl, hb⟩; have n0_ := Aside0.mk (below_step (by repeat (first | (with_reducible first | exact HB.out | apply below_alloc | apply pw_below_drewN | apply below_drew1) | exact HB.out)) hb); clear HB; have HB := n0_; clear n0_; (try clear hb); (try clear hb2); (try clear hk); (try clear hi)) | (go_at_call 19; (with_reducible refine (table_New.calls ji8 t291 t292 _ A5.out).mono ?_); rintro e w13 ⟨v293, rfl, ho0, hb⟩; have n0_ := Aside0.mk (Kd.R_lower ho0 (below_size (by repeat (first | (with_reducible first | exact HB.out | apply below_alloc | apply pw_below_drewN | apply below_drew1) | exact HB.out)))); have n1_ := Aside0.mk (below_step (by repeat (first | (with_reducible first | exact HB.out | apply below_alloc | apply pw_below_drewN | apply below_drew1) | exact HB.out)) hb); clear HB; have HO294 := n0_; have HB := n1_; clear n0_ n1_; (try clear hb); (try clear hb2); (try clear hk); (try clear hi); (try clear ho0)) | (go_at_call 10; (with_reducible refine (undercroftlaw14_num.calls t292 t295 _ A6.out).mono ?_); rintro e w' ⟨rfl, ⟨nd, rfl⟩⟩; (try first | exact ⟨rfl, _, World.drewN_drewN _ _ _⟩ | exact ⟨rfl, _, Eq.trans (World.drewN_drewN _ _ _) (congrArg (World.drewN _) (Nat.add_assoc _ _ _))⟩)) | ((with_reducible refine gate_dst (N := 43) rfl ?_); refine Kd.R_make (Kd.int .i64) _ 3 rfl (N := 43) rfl 53 _ _ rfl ji8 rfl rfl Try.underlying53 (.int .i64 0) 8 info3 rfl (by decide) (by omega) 0 (ok := fun _ => True) (okp := fun _ => True) rfl (fun _ hk => hk) trivial (of_decide_eq_true (by first | (with_reducible assumption) | assumption)) (Nat.le_trans (Nat.mul_le_mul_right _ (of_decide_eq_true (by first | (with_reducible assumption) | assumption) : ji8.toNat ≤ 35184372088832)) (by omega)) (Below.refl _ _) (Nat.le_refl _) ?_; intro v297 w14 ho15 hb hg_ hnew_; clear hg_ hnew_; (first | rw [← Ny296.out] at ho15 | (simp only [Int.reduceToNat] at ho15; rw [← Ny296.out] at ho15)); have n0_ := Aside0.mk (Kd.R_below (by (with_reducible repeat (first | apply Kd.R_alloc | apply Kd.R_drewN | apply Kd.R_drew)); exact HO294.out) hb); have n1_ := Aside0.mk (Kd.R_lower ho15 (below_size (by repeat (first | (with_reducible first | exact HB.out | apply below_alloc | apply pw_below_drewN | apply below_drew1) | exact HB.out)))); have n2_ := Aside0.mk (below_step (by repeat (first | (with_reducible first | exact HB.out | apply below_alloc | apply pw_below_drewN | apply below_drew1) | exact HB.out)) hb); clear HO294; clear HB; have HO294 := n0_; have HO298 := n1_; have HB := n2_; clear n0_ n1_ n2_; clear hb ho15) | ((with_reducible refine gate_dst (N := 45) rfl ?_); refine Kd.R_make Kd.bool _ 4 rfl (N := 45) rfl 54 _ _ rfl ji8 rfl rfl Try.underlying54 (.bool false) 1 info4 rfl (by decide) (by omega) false (ok := fun _ => True) (okp := fun _ => True) rfl (fun _ hk => hk) trivial (of_decide_eq_true (by first | (with_reducible assumption) | assumption)) (Nat.le_trans (Nat.mul_le_mul_right _ (of_decide_eq_true (by first | (with_reducible assumption) | assumption) : ji8.toNat ≤ 281474976710656)) (by omega)) (Below.refl _ _) (Nat.le_refl _) ?_; intro v300 w16 ho17 hb hg_ hnew_; clear hg_ hnew_; (first | rw [← Ny299.out] at ho17 | (simp only [Int.reduceToNat] at ho17; rw [← Ny299.out] at ho17)); have n0_ := Aside0.mk (Kd.R_below (by (with_reducible repeat (first | apply Kd.R_alloc | apply Kd.R_drewN | apply Kd.R_drew)); exact HO294.out) hb); have n1_ := Aside0.mk (Kd.R_below (by (with_reducible repeat (first | apply Kd.R_alloc | apply Kd.R_drewN | apply Kd.R_drew)); exact HO298.out) hb); have n2_ := Aside0.mk (Kd.R_lower ho17 (below_size (by repeat (first | (with_reducible first | exact HB.out | apply below_alloc | apply pw_below_drewN | apply below_drew1) | exact HB.out)))); have n3_ := Aside0.mk (below_step (by repeat (first | (with_reducible first | exact HB.out | apply below_alloc | apply pw_below_drewN | apply below_drew1) | exact HB.out)) hb); clear HO294; clear HO298; clear HB; have HO294 := n0_; have HO298 := n1_; have HO301 := n2_; have HB := n3_; clear n0_ n1_ n2_ n3_; clear hb ho17)))
            go_loopg [5, 9] k (fun kq v5 v9 w' => ∃ (x5_1 : List (S39)) (x7_1 : List Int) (x8_1 : List Bool) (x9_1 : Int), v9 = .int .i64 x9_1 ∧ Aside0 (undercroftlaw14_TableOnce.l0 kq ji8 l1 x5_1 x7_1 x8_1 x9_1 = some r) ∧ Aside0 (kq ≤ k) ∧ Aside0 (Kd.R k39 39 w' w.heap.size (fun _ => True) v5 x5_1) ∧ Aside0 (Kd.R (Kd.int .i64) 3 w' w.heap.size (fun _ => True) v297 x7_1) ∧ Aside0 (Kd.R Kd.bool 4 w' w.heap.size (fun _ => True) v300 x8_1) ∧ Aside0 (Below w.heap.size w w'))
            case atStart => exact ⟨(t291), (y296), (y299), (0), (by first | rfl | (simp; done) | (simp [*]; done)), H', ⟨Nat.le_refl _⟩, ⟨by (with_reducible repeat (first | apply Kd.R_alloc | apply Kd.R_drewN | apply Kd.R_drew)); exact HO294.out⟩, ⟨by (with_reducible repeat (first | apply Kd.R_alloc | apply Kd.R_drewN | apply Kd.R_drew)); exact HO298.out⟩, ⟨by (with_reducible repeat (first | apply Kd.R_alloc | apply Kd.R_drewN | apply Kd.R_drew)); exact HO301.out⟩, ⟨by repeat (first | (with_reducible first | exact HB.out | apply below_alloc | apply pw_below_drewN | apply below_drew1) | exact HB.out)⟩⟩
            case round => as_aux_lemma =>
              clear H'
              try clear c1
              try clear p2
              try clear c4
              try clear c6
              try clear p6
              try clear c7
              try clear c7b0
              try clear c7b1
              try clear c9
              try clear c9b0
              try clear c9b1
              try clear c10
              try clear c10b0
              try clear c10b1
              try clear c11
              try clear c11b0
              try clear c11b1
              obtain ⟨x5_1, x7_1, x8_1, x9_1, rfl, HA, HK1, HO_5, HO_7, HO_8, HB⟩ := hrel
              cases gk with
              | zero => exact absurd HA.out (by simp [undercroftlaw14_TableOnce.l0])
              | succ k1 =>
                have H := HA.out
                clear HA
                simp only [undercroftlaw14_TableOnce.l0] at H
                have HC18 := Aside0.mk H
                clear H
                go_upto_region 10 with (fail)
                repeat (go_quiet (fail); go_upto_region 10 with (fail))
                go_cut [53] (fun v53 wc => ∃ (kq : Nat) (x53_17 : Bool), v53 = .bool x53_17 ∧ Aside0 (undercroftlaw14_TableOnce.j1 kq ji8 l1 x5_1 x7_1 x8_1 x9_1 x53_17 = some r) ∧ Aside0 (kq ≤ k1) ∧ Aside0 (Kd.R k39 39 wc w.heap.size (fun _ => True) u5 x5_1) ∧ Aside0 (Kd.R (Kd.int .i64) 3 wc w.heap.size (fun _ => True) v297 x7_1) ∧ Aside0 (Kd.R Kd.bool 4 wc w.heap.size (fun _ => True) v300 x8_1) ∧ Aside0 (Below w.heap.size w wc))
                case first => as_aux_lemma =>
                  have H := HC18.out
                  clear HC18
                  by_cases c19 : x9_1 < (l1.length : Int)
                  · rw [if_pos c19] at H
                    have c19b0 : decide (x9_1 < (l1.length : Int)) = true := decide_eq_true c19
                    clear c19
                    (first | rw [c19b0] | (simp only [i64_w, i32_w]; rw [c19b0]) | skip)
                    have H' := Aside0.mk H
                    clear H
                    go_wp2
                    repeat (go_quiet (fail); try go_wp2)
                    (try subst hji59); (try subst hji71); (try subst hji84); (try subst hji96)
                    go_meet
                    case rel => exact ⟨_, (decide (x9_1 < 200)), (by first | rfl | (simp; done) | (simp [*]; done)), H', ⟨by have := HK1.out; first | omega | exact Nat.le_refl _⟩, ⟨by (with_reducible repeat (first | apply Kd.R_alloc | apply Kd.R_drewN | apply Kd.R_drew)); exact HO_5.out⟩, ⟨by (with_reducible repeat (first | apply Kd.R_alloc | apply Kd.R_drewN | apply Kd.R_drew)); exact HO_7.out⟩, ⟨by (with_reducible repeat (first | apply Kd.R_alloc | apply Kd.R_drewN | apply Kd.R_drew)); exact HO_8.out⟩, ⟨by repeat (first | (with_reducible first | exact HB.out | apply below_alloc | apply pw_below_drewN | apply below_drew1) | exact HB.out)⟩⟩
                  · rw [if_neg c19] at H
                    have c19b0 : decide (x9_1 < (l1.length : Int)) = false := decide_eq_false c19
                    clear c19
                    (first | rw [c19b0] | (simp only [i64_w, i32_w]; rw [c19b0]) | skip)
                    have H' := Aside0.mk H
                    clear H
                    go_wp2
                    repeat (go_quiet (fail); try go_wp2)
                    (try subst hji59); (try subst hji71); (try subst hji84); (try subst hji96)
                    go_meet
                    case rel => exact ⟨_, (false), (by first | rfl | (simp; done) | (simp [*]; done)), H', ⟨by have := HK1.out; first | omega | exact Nat.le_refl _⟩, ⟨by (with_reducible repeat (first | apply Kd.R_alloc | apply Kd.R_drewN | apply Kd.R_drew)); exact HO_5.out⟩, ⟨by (with_reducible repeat (first | apply Kd.R_alloc | apply Kd.R_drewN | apply Kd.R_drew)); exact HO_7.out⟩, ⟨by (with_reducible repeat (first | apply Kd.R_alloc | apply Kd.R_drewN | apply Kd.R_drew)); exact HO_8.out⟩, ⟨by repeat (first | (with_reducible first | exact HB.out | apply below_alloc | apply pw_below_drewN | apply below_drew1) | exact HB.out)⟩⟩
                case rest => as_aux_lemma =>
                  clear HC18
                  try clear c1
                  try clear p2
                  try clear c4
                  try clear c6
                  try clear p6
                  try clear c7
                  try clear c7b0
                  try clear c7b1
                  try clear c9
                  try clear c9b0
                  try clear c9b1
                  try clear c10
                  try clear c10b0
                  try clear c10b1
                  try clear c11
                  try clear c11b0
                  try clear c11b1
                  try clear c19
                  try clear c19b0
                  try clear p2
                  try clear p6
                  obtain ⟨kq, x53_17, rfl, HA, HJ17, HO_5, HO_7, HO_8, HB⟩ := hcut
                  cases kq with
                  | zero => exact absurd HA.out (by simp [undercroftlaw14_TableOnce.j1])
                  | succ kj17 =>
                    have H := HA.out
                    clear HA
                    simp only [undercroftlaw14_TableOnce.j1] at H
                    by_cases c20 : x53_17 = true
                    · subst c20
                      have H1 : (if 0 ≤ x9_1 then (if x9_1 < (l1.length : Int) then (if ji8 = 0 then (none) else (if (Int.tmod (wrap64 ((Int.tmod ((rd_T56 l1 x9_1).f0) 3) + 3)) 3) = 0 then ((table_Alloc.f x5_1 (wrap64 (x9_1 + 1)) (Int.tmod (wrap64 ((Int.tmod ((rd_T56 l1 x9_1).f2) 9) + 9)) 9)).bind fun bt305 => (undercroftlaw14_TableOnce.l1 kj17 ji8 l1 x5_1 x7_1 x8_1 x9_1 (Int.tmod (wrap64 ((Int.tmod ((rd_T56 l1 x9_1).f2) 9) + 9)) 9) bt305.1 bt305.2.1 bt305.2.2 false 0)) else (if (Int.tmod (wrap64 ((Int.tmod ((rd_T56 l1 x9_1).f0) 3) + 3)) 3) = 1 then ((table_Kill.f x5_1 (Int.tmod (wrap64 ((Int.tmod ((rd_T56 l1 x9_1).f1) ji8) + ji8)) ji8) 1).bind fun bt316 => ((undercroftlaw14_num.f bt316.2).bind fun t320 => (if 0 ≤ (Int.tmod (wrap64 ((Int.tmod ((rd_T56 l1 x9_1).f1) ji8) + ji8)) ji8) then (if (Int.tmod (wrap64 ((Int.tmod ((rd_T56 l1 x9_1).f1) ji8) + ji8)) ji8) < (x8_1.length : Int) then (if rdOf false x8_1 (Int.tmod (wrap64 ((Int.tmod ((rd_T56 l1 x9_1).f1) ji8) + ji8)) ji8) = true then (if (Int.tmod (wrap64 ((Int.tmod ((rd_T56 l1 x9_1).f1) ji8) + ji8)) ji8) < (x7_1.length : Int) then (undercroftlaw14_TableOnce.j3 kj17 ji8 l1 x5_1 x7_1 x8_1 x9_1 (Int.tmod (wrap64 ((Int.tmod ((rd_T56 l1 x9_1).f1) ji8) + ji8)) ji8) bt316.1 bt316.2 ((t320 == 0) != (decide ((rd x7_1 (Int.tmod (wrap64 ((Int.tmod ((rd_T56 l1 x9_1).f1) ji8) + ji8)) ji8)) > 0)))) else (none)) else (undercroftlaw14_TableOnce.j3 kj17 ji8 l1 x5_1 x7_1 x8_1 x9_1 (Int.tmod (wrap64 ((Int.tmod ((rd_T56 l1 x9_1).f1) ji8) + ji8)) ji8) bt316.1 bt316.2 ((t320 == 0) != false))) else (none)) else (none)))) else (if (Int.tmod (wrap64 ((Int.tmod ((rd_T56 l1 x9_1).f0) 3) + 3)) 3) = 2 then ((table_Free.f x5_1 (Int.tmod (wrap64 ((Int.tmod ((rd_T56 l1 x9_1).f1) ji8) + ji8)) ji8)).bind fun bt326 => ((undercroftlaw14_num.f bt326.2).bind fun t330 => (if 0 ≤ (Int.tmod (wrap64 ((Int.tmod ((rd_T56 l1 x9_1).f1) ji8) + ji8)) ji8) then (if (Int.tmod (wrap64 ((Int.tmod ((rd_T56 l1 x9_1).f1) ji8) + ji8)) ji8) < (x8_1.length : Int) then (if rdOf false x8_1 (Int.tmod (wrap64 ((Int.tmod ((rd_T56 l1 x9_1).f1) ji8) + ji8)) ji8) = true then (if (Int.tmod (wrap64 ((Int.tmod ((rd_T56 l1 x9_1).f1) ji8) + ji8)) ji8) < (x7_1.length : Int) then (undercroftlaw14_TableOnce.j4 kj17 ji8 l1 x5_1 x7_1 x8_1 x9_1 (Int.tmod (wrap64 ((Int.tmod ((rd_T56 l1 x9_1).f1) ji8) + ji8)) ji8) bt326.1 bt326.2 ((t330 == 0) != ((rd x7_1 (Int.tmod (wrap64 ((Int.tmod ((rd_T56 l1 x9_1).f1) ji8) + ji8)) ji8)) == 0))) else (none)) else (undercroftlaw14_TableOnce.j4 kj17 ji8 l1 x5_1 x7_1 x8_1 x9_1 (Int.tmod (wrap64 ((Int.tmod ((rd_T56 l1 x9_1).f1) ji8) + ji8)) ji8) bt326.1 bt326.2 ((t330 == 0) != false))) else (none)) else (none)))) else (undercroftlaw14_TableOnce.j5 kj17 ji8 l1 x5_1 x7_1 x8_1 x9_1))))) else (none)) else (none)) = some r := by rw [if_pos rfl] at H; exact H
                      clear H
                      have H := H1
                      clear H1
                      by_cases c21 : 0 ≤ x9_1
                      · rw [if_pos c21] at H
                        have c21b0 : decide (0 ≤ x9_1) = true := decide_eq_true c21
                        clear c21
                        by_cases c22 : x9_1 < (l1.length : Int)
                        · rw [if_pos c22] at H
                          have c22b0 : decide (x9_1 < (l1.length : Int)) = true := decide_eq_true c22
                          clear c22
                          by_cases c23 : ji8 = 0
                          · rw [if_pos c23] at H
                            exact absurd H (by simp)
                          · rw [if_neg c23] at H
                            have c23b0 : (ji8 == 0) = false := beq_eq_false_iff_ne.mpr c23
                            have c23b1 : (ji8 != 0) = true := bne_iff_ne.mpr c23
                            have HC24 := Aside0.mk H
                            clear H
                            have p302 : 0 ≤ (x9_1 : Int) := of_decide_eq_true (by first | (with_reducible assumption) | assumption)
                            have q302 : x9_1 < (l1.length : Int) := of_decide_eq_true (by first | (with_reducible assumption) | assumption)
                            obtain ⟨ad302, e302, hx302_0, hx302_1, hx302_2⟩ := at_T56 HR1.out x9_1 p302 q302
                            cases e302
                            replace hx302_0 := (HB.out.cell (World.block_lt_of_cell? w _ hx302_0)).trans hx302_0
                            replace hx302_1 := (HB.out.cell (World.block_lt_of_cell? w _ hx302_1)).trans hx302_1
                            replace hx302_2 := (HB.out.cell (World.block_lt_of_cell? w _ hx302_2)).trans hx302_2
                            replace p302 := eq_true p302
                            replace q302 := eq_true q302
                            have p303 : 0 ≤ (x9_1 : Int) := of_decide_eq_true (by first | (with_reducible assumption) | assumption)
                            have q303 : x9_1 < (l1.length : Int) := of_decide_eq_true (by first | (with_reducible assumption) | assumption)
                            obtain ⟨ad303, e303, hx303_0, hx303_1, hx303_2⟩ := at_T56 HR1.out x9_1 p303 q303
                            obtain rfl : ad302 = ad303 := (by injection e303)
                            replace hx303_0 := (HB.out.cell (World.block_lt_of_cell? w _ hx303_0)).trans hx303_0
                            replace hx303_1 := (HB.out.cell (World.block_lt_of_cell? w _ hx303_1)).trans hx303_1
                            replace hx303_2 := (HB.out.cell (World.block_lt_of_cell? w _ hx303_2)).trans hx303_2
                            replace p303 := eq_true p303
                            replace q303 := eq_true q303
                            go_upto_block 2 with (fail)
                            repeat (go_quiet (fail); go_upto_block 2 with (fail))
                            go_cut [5] (fun v5 wc => ∃ (kq : Nat) (x5_23 : List (S39)) (x7_23 : List Int) (x8_23 : List Bool), Aside0 (undercroftlaw14_TableOnce.j5 kq ji8 l1 x5_23 x7_23 x8_23 x9_1 = some r) ∧ Aside0 (kq ≤ kj17) ∧ Aside0 (Kd.R k39 39 wc w.heap.size (fun _ => True) v5 x5_23) ∧ Aside0 (Kd.R (Kd.int .i64) 3 wc w.heap.size (fun _ => True) v297 x7_23) ∧ Aside0 (Kd.R Kd.bool 4 wc w.heap.size (fun _ => True) v300 x8_23) ∧ Aside0 (Below w.heap.size w wc))
                            case first => as_aux_lemma =>
                              have H := HC24.out
                              clear HC24
                              by_cases c25 : (Int.tmod (wrap64 ((Int.tmod ((rd_T56 l1 x9_1).f0) 3) + 3)) 3) = 0
                              · rw [if_pos c25] at H
                                have c25b0 : ((Int.tmod (wrap64 ((Int.tmod ((rd_T56 l1 x9_1).f0) 3) + 3)) 3) == 0) = true := beq_iff_eq.mpr c25
                                have c25b1 : ((Int.tmod (wrap64 ((Int.tmod ((rd_T56 l1 x9_1).f0) 3) + 3)) 3) != 0) = false := bne_eq_false_iff_eq.mpr c25
                                clear c25
                                (first | rw [c25b0] | (simp only [i64_w, i32_w]; rw [c25b0]) | skip)
                                replace H := Option.bind_eq_some_iff.mp H
                                obtain ⟨⟨t305, t306, t307⟩, A260, H⟩ := H
                                replace H : (undercroftlaw14_TableOnce.l1 kj17 ji8 l1 x5_1 x7_1 x8_1 x9_1 (Int.tmod (wrap64 ((Int.tmod ((rd_T56 l1 x9_1).f2) 9) + 9)) 9) t305 t306 t307 false 0) = some r := H
                                have A26 := Aside0.mk A260
                                clear A260
                                have H' := Aside0.mk H
                                clear H
                                have p304 : 0 ≤ (x9_1 : Int) := of_decide_eq_true (by first | (with_reducible assumption) | assumption)
                                have q304 : x9_1 < (l1.length : Int) := of_decide_eq_true (by first | (with_reducible assumption) | assumption)
                                obtain ⟨ad304, e304, hx304_0, hx304_1, hx304_2⟩ := at_T56 HR1.out x9_1 p304 q304
                                obtain rfl : ad302 = ad304 := (by injection e304)
                                replace hx304_0 := (HB.out.cell (World.block_lt_of_cell? w _ hx304_0)).trans hx304_0
                                replace hx304_1 := (HB.out.cell (World.block_lt_of_cell? w _ hx304_1)).trans hx304_1
                                replace hx304_2 := (HB.out.cell (World.block_lt_of_cell? w _ hx304_2)).trans hx304_2
                                replace p304 := eq_true p304
                                replace q304 := eq_true q304
                                obtain ⟨Ao27, co27, eo27⟩ := Kd.R_slice HO_5.out
                                subst eo27
                                go_wp2_with (first | (go_at_call 8; (with_reducible refine (table_Alloc.calls _ _ x5_1 (wrap64 (x9_1 + 1)) (Int.tmod (wrap64 ((Int.tmod ((rd_T56 l1 x9_1).f2) 9) + 9)) 9) t305 t306 t307 _ ?side1 ?side2 A26.out).mono ?_); (case side1 => repeat (first | exact (Kd.R_reads' HO_5.out).2.2 | (with_reducible refine Kd.C_alloc ?_ _) | (with_reducible refine Kd.C_drewN ?_ _) | (with_reducible refine Kd.C_drew ?_))); (case side2 => exact (Kd.R_reads' HO_5.out).2.1); rintro e w28 ⟨v308, rfl, ho0, hb⟩; have n0_ := Aside0.mk (Kd.R_elder' (by (with_reducible repeat (first | apply Kd.R_alloc | apply Kd.R_drewN | apply Kd.R_drew)); exact HO_5.out) (Kd.R_base ho0) hb); have n1_ := Aside0.mk (Kd.R_below (by (with_reducible repeat (first | apply Kd.R_alloc | apply Kd.R_drewN | apply Kd.R_drew)); exact HO_7.out) hb); have n2_ := Aside0.mk (Kd.R_below (by (with_reducible repeat (first | apply Kd.R_alloc | apply Kd.R_drewN | apply Kd.R_drew)); exact HO_8.out) hb); have n3_ := Aside0.mk (Kd.R_lower (Kd.R_new' ho0 (Kd.R_lt (by (with_reducible repeat (first | apply Kd.R_alloc | apply Kd.R_drewN | apply Kd.R_drew)); exact HO_5.out))) (below_size (by repeat (first | (with_reducible first | exact HB.out | apply below_alloc | apply pw_below_drewN | apply below_drew1) | exact HB.out)))); have n4_ := Aside0.mk (below_step (by repeat (first | (with_reducible first | exact HB.out | apply below_alloc | apply pw_below_drewN | apply below_drew1) | exact HB.out)) hb); clear HO_5; clear HO_7; clear HO_8; clear HB; have HO_5 := n0_; have HO_7 := n1_; have HO_8 := n2_; have HO309 := n3_; have HB := n4_; clear n0_ n1_ n2_ n3_ n4_; (try clear hb); (try clear hb2); (try clear hk); (try clear hi); (try clear ho0)))
                                repeat (go_quiet (first | (go_at_call 8; (with_reducible refine (table_Alloc.calls _ _ x5_1 (wrap64 (x9_1 + 1)) (Int.tmod (wrap64 ((Int.tmod ((rd_T56 l1 x9_1).f2) 9) + 9)) 9) t305 t306 t307 _ ?side1 ?side2 A26.out).mono ?_); (case side1 => repeat (first | exact (Kd.R_reads' HO_5.out).2.2 | (with_reducible refine Kd.C_alloc ?_ _) | (with_reducible refine Kd.C_drewN ?_ _) | (with_reducible refine Kd.C_drew ?_))); (case side2 => exact (Kd.R_reads' HO_5.out).2.1); rintro e w28 ⟨v308, rfl, ho0, hb⟩; have n0_ := Aside0.mk (Kd.R_elder' (by (with_reducible repeat (first | apply Kd.R_alloc | apply Kd.R_drewN | apply Kd.R_drew)); exact HO_5.out) (Kd.R_base ho0) hb); have n1_ := Aside0.mk (Kd.R_below (by (with_reducible repeat (first | apply Kd.R_alloc | apply Kd.R_drewN | apply Kd.R_drew)); exact HO_7.out) hb); have n2_ := Aside0.mk (Kd.R_below (by (with_reducible repeat (first | apply Kd.R_alloc | apply Kd.R_drewN | apply Kd.R_drew)); exact HO_8.out) hb); have n3_ := Aside0.mk (Kd.R_lower (Kd.R_new' ho0 (Kd.R_lt (by (with_reducible repeat (first | apply Kd.R_alloc | apply Kd.R_drewN | apply Kd.R_drew)); exact HO_5.out))) (below_size (by repeat (first | (with_reducible first | exact HB.out | apply below_alloc | apply pw_below_drewN | apply below_drew1) | exact HB.out)))); have n4_ := Aside0.mk (below_step (by repeat (first | (with_reducible first | exact HB.out | apply below_alloc | apply pw_below_drewN | apply below_drew1) | exact HB.out)) hb); clear HO_5; clear HO_7; clear HO_8; clear HB; have HO_5 := n0_; have HO_7 := n1_; have HO_8 := n2_; have HO309 := n3_; have HB := n4_; clear n0_ n1_ n2_ n3_ n4_; (try clear hb); (try clear hb2); (try clear hk); (try clear hi); (try clear ho0))); try go_wp2_with (first | (go_at_call 8; (with_reducible refine (table_Alloc.calls _ _ x5_1 (wrap64 (x9_1 + 1)) (Int.tmod (wrap64 ((Int.tmod ((rd_T56 l1 x9_1).f2) 9) + 9)) 9) t305 t306 t307 _ ?side1 ?side2 A26.out).mono ?_); (case side1 => repeat (first | exact (Kd.R_reads' HO_5.out).2.2 | (with_reducible refine Kd.C_alloc ?_ _) | (with_reducible refine Kd.C_drewN ?_ _) | (with_reducible refine Kd.C_drew ?_))); (case side2 => exact (Kd.R_reads' HO_5.out).2.1); rintro e w28 ⟨v308, rfl, ho0, hb⟩; have n0_ := Aside0.mk (Kd.R_elder' (by (with_reducible repeat (first | apply Kd.R_alloc | apply Kd.R_drewN | apply Kd.R_drew)); exact HO_5.out) (Kd.R_base ho0) hb); have n1_ := Aside0.mk (Kd.R_below (by (with_reducible repeat (first | apply Kd.R_alloc | apply Kd.R_drewN | apply Kd.R_drew)); exact HO_7.out) hb); have n2_ := Aside0.mk (Kd.R_below (by (with_reducible repeat (first | apply Kd.R_alloc | apply Kd.R_drewN | apply Kd.R_drew)); exact HO_8.out) hb); have n3_ := Aside0.mk (Kd.R_lower (Kd.R_new' ho0 (Kd.R_lt (by (with_reducible repeat (first | apply Kd.R_alloc | apply Kd.R_drewN | apply Kd.R_drew)); exact HO_5.out))) (below_size (by repeat (first | (with_reducible first | exact HB.out | apply below_alloc | apply pw_below_drewN | apply below_drew1) | exact HB.out)))); have n4_ := Aside0.mk (below_step (by repeat (first | (with_reducible first | exact HB.out | apply below_alloc | apply pw_below_drewN | apply below_drew1) | exact HB.out)) hb); clear HO_5; clear HO_7; clear HO_8; clear HB; have HO_5 := n0_; have HO_7 := n1_; have HO_8 := n2_; have HO309 := n3_; have HB := n4_; clear n0_ n1_ n2_ n3_ n4_; (try clear hb); (try clear hb2); (try clear hk); (try clear hi); (try clear ho0))))
                                go_loopg [15, 16] kj17 (fun kq v15 v16 w' => ∃ (x15_3 : Bool) (x16_3 : Int), v15 = .bool x15_3 ∧ v16 = .int .i64 x16_3 ∧ Aside0 (undercroftlaw14_TableOnce.l1 kq ji8 l1 x5_1 x7_1 x8_1 x9_1 (Int.tmod (wrap64 ((Int.tmod ((rd_T56 l1 x9_1).f2) 9) + 9)) 9) t305 t306 t307 x15_3 x16_3 = some r) ∧ Aside0 (kq ≤ kj17) ∧ Aside0 (Kd.R k39 39 w' w.heap.size (fun k_ => some k_ ≠ (v308 : Value).ownBlock) (.slice Ao27 x5_1.length co27) x5_1) ∧ Aside0 (Kd.R (Kd.int .i64) 3 w' w.heap.size (fun _ => True) v297 x7_1) ∧ Aside0 (Kd.R Kd.bool 4 w' w.heap.size (fun _ => True) v300 x8_1) ∧ Aside0 (Kd.R k39 39 w' w.heap.size (fun k_ => some k_ ≠ ((.slice Ao27 x5_1.length co27) : Value).ownBlock) v308 t305) ∧ Aside0 (Below w.heap.size w w'))
                                case atStart => exact ⟨(false), (0), (by first | rfl | (simp; done) | (simp [*]; done)), (by first | rfl | (simp; done) | (simp [*]; done)), H', ⟨Nat.le_refl _⟩, ⟨by (with_reducible repeat (first | apply Kd.R_alloc | apply Kd.R_drewN | apply Kd.R_drew)); exact Kd.R_mono HO_5.out (fun _ hk => hk.2)⟩, ⟨by (with_reducible repeat (first | apply Kd.R_alloc | apply Kd.R_drewN | apply Kd.R_drew)); exact HO_7.out⟩, ⟨by (with_reducible repeat (first | apply Kd.R_alloc | apply Kd.R_drewN | apply Kd.R_drew)); exact HO_8.out⟩, ⟨by (with_reducible repeat (first | apply Kd.R_alloc | apply Kd.R_drewN | apply Kd.R_drew)); exact Kd.R_mono HO309.out (fun _ hk => hk.2)⟩, ⟨by repeat (first | (with_reducible first | exact HB.out | apply below_alloc | apply pw_below_drewN | apply below_drew1) | exact HB.out)⟩⟩
                                case round => as_aux_lemma =>
                                  clear H'
                                  try clear c1
                                  try clear c2
                                  try clear p2
                                  try clear p3
                                  try clear q3
                                  try clear hx3
                                  try clear c4
                                  try clear c6
                                  try clear p6
                                  try clear c7
                                  try clear c7b0
                                  try clear c7b1
                                  try clear c9
                                  try clear c9b0
                                  try clear c9b1
                                  try clear c10
                                  try clear c10b0
                                  try clear c10b1
                                  try clear c11
                                  try clear c11b0
                                  try clear c11b1
                                  try clear c19
                                  try clear c19b0
                                  try clear c20
                                  try clear c21
                                  try clear c21b0
                                  try clear c22
                                  try clear c22b0
                                  try clear c23
                                  try clear c23b0
                                  try clear c23b1
                                  try clear c25
                                  try clear c25b0
                                  try clear c25b1
                                  try clear hx302_0
                                  try clear hx302_1
                                  try clear hx302_2
                                  try clear hx303_0
                                  try clear hx303_1
                                  try clear hx303_2
                                  try clear hx304_0
                                  try clear hx304_1
                                  try clear hx304_2
                                  try clear p2
                                  try clear p302
                                  try clear p303
                                  try clear p304
                                  try clear p6
                                  try clear q302
                                  try clear q303
                                  try clear q304
                                  obtain ⟨x15_3, x16_3, rfl, rfl, HA, HK3, HO_5, HO_7, HO_8, HO_12, HB⟩ := hrel
                                  cases gk with
                                  | zero => exact absurd HA.out (by simp [undercroftlaw14_TableOnce.l1])
                                  | succ k3 =>
                                    have H := HA.out
                                    clear HA
                                    simp only [undercroftlaw14_TableOnce.l1] at H
                                    by_cases c29 : x16_3 < ji8
                                    · rw [if_pos c29] at H
                                      have c29b0 : decide (x16_3 < ji8) = true := decide_eq_true c29
                                      clear c29
                                      by_cases c30 : x15_3 = true
                                      · subst c30
                                        have H1 : (undercroftlaw14_TableOnce.l1 k3 ji8 l1 x5_1 x7_1 x8_1 x9_1 (Int.tmod (wrap64 ((Int.tmod ((rd_T56 l1 x9_1).f2) 9) + 9)) 9) t305 t306 t307 true (wrap64 (x16_3 + 1))) = some r := by rw [if_pos rfl] at H; exact H
                                        clear H
                                        have H := H1
                                        clear H1
                                        have H' := Aside0.mk H
                                        clear H
                                        go_wp2
                                        repeat (go_quiet (fail); try go_wp2)
                                        go_roundg k3
                                        case measure => have := HK1.out; have := HJ17.out; have := HK3.out; omega
                                        case rel => exact ⟨(true), (wrap64 (x16_3 + 1)), (by first | rfl | (simp; done) | (simp [*]; done)), (by first | rfl | (simp; done) | (simp [*]; done)), H', ⟨by have := HK1.out; have := HJ17.out; have := HK3.out; omega⟩, ⟨by (with_reducible repeat (first | apply Kd.R_alloc | apply Kd.R_drewN | apply Kd.R_drew)); exact HO_5.out⟩, ⟨by (with_reducible repeat (first | apply Kd.R_alloc | apply Kd.R_drewN | apply Kd.R_drew)); exact HO_7.out⟩, ⟨by (with_reducible repeat (first | apply Kd.R_alloc | apply Kd.R_drewN | apply Kd.R_drew)); exact HO_8.out⟩, ⟨by (with_reducible repeat (first | apply Kd.R_alloc | apply Kd.R_drewN | apply Kd.R_drew)); exact HO_12.out⟩, ⟨by repeat (first | (with_reducible first | exact HB.out | apply below_alloc | apply pw_below_drewN | apply below_drew1) | exact HB.out)⟩⟩
                                      · replace c30 := Bool.eq_false_iff.mpr c30
                                        subst c30
                                        have H1 : (if 0 ≤ x16_3 then (if x16_3 < (x8_1.length : Int) then (undercroftlaw14_TableOnce.l1 k3 ji8 l1 x5_1 x7_1 x8_1 x9_1 (Int.tmod (wrap64 ((Int.tmod ((rd_T56 l1 x9_1).f2) 9) + 9)) 9) t305 t306 t307 (!(rdOf false x8_1 x16_3)) (wrap64 (x16_3 + 1))) else (none)) else (none)) = some r := by rw [if_neg (show ¬ (false = true) by decide)] at H; exact H
                                        clear H
                                        have H := H1
                                        clear H1
                                        by_cases c31 : 0 ≤ x16_3
                                        · rw [if_pos c31] at H
                                          have c31b0 : decide (0 ≤ x16_3) = true := decide_eq_true c31
                                          clear c31
                                          by_cases c32 : x16_3 < (x8_1.length : Int)
                                          · rw [if_pos c32] at H
                                            have c32b0 : decide (x16_3 < (x8_1.length : Int)) = true := decide_eq_true c32
                                            clear c32
                                            have H' := Aside0.mk H
                                            clear H
                                            obtain ⟨Ao33, co33, eo33⟩ := Kd.R_slice HO_8.out
                                            subst eo33
                                            have p310 : 0 ≤ (x16_3 : Int) := of_decide_eq_true (by first | (with_reducible assumption) | assumption)
                                            have q310 : x16_3 < (x8_1.length : Int) := of_decide_eq_true (by first | (with_reducible assumption) | assumption)
                                            obtain ⟨ad310, e310, hx310_0⟩ := Kd.at_bool (Kd.R_reads' HO_8.out).2.2 x16_3 p310 q310
                                            cases e310
                                            replace p310 := eq_true p310
                                            replace q310 := eq_true q310
                                            go_wp2
                                            repeat (go_quiet (fail); try go_wp2)
                                            go_roundg k3
                                            case measure => have := HK1.out; have := HJ17.out; have := HK3.out; omega
                                            case rel => exact ⟨(!(rdOf false x8_1 x16_3)), (wrap64 (x16_3 + 1)), (by first | rfl | (simp; done) | (simp [*]; done)), (by first | rfl | (simp; done) | (simp [*]; done)), H', ⟨by have := HK1.out; have := HJ17.out; have := HK3.out; omega⟩, ⟨by (with_reducible repeat (first | apply Kd.R_alloc | apply Kd.R_drewN | apply Kd.R_drew)); exact HO_5.out⟩, ⟨by (with_reducible repeat (first | apply Kd.R_alloc | apply Kd.R_drewN | apply Kd.R_drew)); exact HO_7.out⟩, ⟨by (with_reducible repeat (first | apply Kd.R_alloc | apply Kd.R_drewN | apply Kd.R_drew)); exact HO_8.out⟩, ⟨by (with_reducible repeat (first | apply Kd.R_alloc | apply Kd.R_drewN | apply Kd.R_drew)); exact HO_12.out⟩, ⟨by repeat (first | (with_reducible first | exact HB.out | apply below_alloc | apply pw_below_drewN | apply below_drew1) | exact HB.out)⟩⟩
                                          · rw [if_neg c32] at H
                                            exact absurd H (by simp)
                                        · rw [if_neg c31] at H
                                          exact absurd H (by simp)
                                    · rw [if_neg c29] at H
                                      have c29b0 : decide (x16_3 < ji8) = false := decide_eq_false c29
                                      clear c29
                                      by_cases c34 : x15_3 = true
                                      · subst c34
                                        have H1 : ((undercroftlaw14_num.f t307).bind fun t311 => (if t311 = 0 then (if t306 < 0 then (none) else (if t306 ≥ ji8 then (none) else (if 0 ≤ t306 then (if t306 < (x8_1.length : Int) then (if rdOf false x8_1 t306 = true then (none) else (if t306 < (x7_1.length : Int) then (undercroftlaw14_TableOnce.j5 k3 ji8 l1 t305 (x7_1.set (t306 : Int).toNat (Int.tmod (wrap64 ((Int.tmod ((rd_T56 l1 x9_1).f2) 9) + 9)) 9)) (x8_1.set (t306 : Int).toNat true) x9_1) else (none))) else (none)) else (none)))) else (none))) = some r := by rw [if_pos rfl] at H; exact H
                                        clear H
                                        have H := H1
                                        clear H1
                                        replace H := Option.bind_eq_some_iff.mp H
                                        obtain ⟨t311, A350, H⟩ := H
                                        replace H : (if t311 = 0 then (if t306 < 0 then (none) else (if t306 ≥ ji8 then (none) else (if 0 ≤ t306 then (if t306 < (x8_1.length : Int) then (if rdOf false x8_1 t306 = true then (none) else (if t306 < (x7_1.length : Int) then (undercroftlaw14_TableOnce.j5 k3 ji8 l1 t305 (x7_1.set (t306 : Int).toNat (Int.tmod (wrap64 ((Int.tmod ((rd_T56 l1 x9_1).f2) 9) + 9)) 9)) (x8_1.set (t306 : Int).toNat true) x9_1) else (none))) else (none)) else (none)))) else (none)) = some r := H
                                        have A35 := Aside0.mk A350
                                        clear A350
                                        by_cases c36 : t311 = 0
                                        · rw [if_pos c36] at H
                                          have c36b0 : (t311 == 0) = true := beq_iff_eq.mpr c36
                                          have c36b1 : (t311 != 0) = false := bne_eq_false_iff_eq.mpr c36
                                          clear c36
                                          by_cases c37 : t306 < 0
                                          · rw [if_pos c37] at H
                                            exact absurd H (by simp)
                                          · rw [if_neg c37] at H
                                            have c37b0 : decide (t306 < 0) = false := decide_eq_false c37
                                            clear c37
                                            by_cases c38 : t306 ≥ ji8
                                            · rw [if_pos c38] at H
                                              exact absurd H (by simp)
                                            · rw [if_neg c38] at H
                                              have c38b0 : decide (ji8 ≤ t306) = false := decide_eq_false c38
                                              clear c38
                                              by_cases c39 : 0 ≤ t306
                                              · rw [if_pos c39] at H
                                                have c39b0 : decide (0 ≤ t306) = true := decide_eq_true c39
                                                clear c39
                                                by_cases c40 : t306 < (x8_1.length : Int)
                                                · rw [if_pos c40] at H
                                                  have c40b0 : decide (t306 < (x8_1.length : Int)) = true := decide_eq_true c40
                                                  clear c40
                                                  obtain ⟨bq41, hbq41⟩ : ∃ b_ : Bool, b_ = (rdOf false x8_1 t306) := ⟨_, rfl⟩
                                                  replace H : (if bq41 = true then (none) else (if t306 < (x7_1.length : Int) then (undercroftlaw14_TableOnce.j5 k3 ji8 l1 t305 (x7_1.set (t306 : Int).toNat (Int.tmod (wrap64 ((Int.tmod ((rd_T56 l1 x9_1).f2) 9) + 9)) 9)) (x8_1.set (t306 : Int).toNat true) x9_1) else (none))) = some r := by rw [← hbq41] at H; exact H
                                                  have Nbq41 := Aside0.mk hbq41
                                                  clear hbq41
                                                  by_cases c42 : bq41 = true
                                                  · subst c42
                                                    have H1 : (none) = some r := by rw [if_pos rfl] at H; exact H
                                                    clear H
                                                    have H := H1
                                                    clear H1
                                                    exact absurd H (by simp)
                                                  · replace c42 := Bool.eq_false_iff.mpr c42
                                                    subst c42
                                                    have H1 : (if t306 < (x7_1.length : Int) then (undercroftlaw14_TableOnce.j5 k3 ji8 l1 t305 (x7_1.set (t306 : Int).toNat (Int.tmod (wrap64 ((Int.tmod ((rd_T56 l1 x9_1).f2) 9) + 9)) 9)) (x8_1.set (t306 : Int).toNat true) x9_1) else (none)) = some r := by rw [if_neg (show ¬ (false = true) by decide)] at H; exact H
                                                    clear H
                                                    have H := H1
                                                    clear H1
                                                    obtain ⟨y313, hy313⟩ : ∃ y_ : List Bool, y_ = (x8_1.set (t306 : Int).toNat true) := ⟨_, rfl⟩
                                                    replace H : (if t306 < (x7_1.length : Int) then (undercroftlaw14_TableOnce.j5 k3 ji8 l1 t305 (x7_1.set (t306 : Int).toNat (Int.tmod (wrap64 ((Int.tmod ((rd_T56 l1 x9_1).f2) 9) + 9)) 9)) y313 x9_1) else (none)) = some r := by first | (rw [hy313]; with_reducible exact H) | (have H2_ := (Option.bind_some _ _).symm.trans H; rw [hy313]; with_reducible exact H2_) | (have H2_ := (Option.bind_some _ _).symm.trans H; with_reducible exact H2_) | with_reducible exact H | (rw [hy313]; exact H) | exact H
                                                    have Ny313 := Aside0.mk hy313
                                                    clear hy313
                                                    by_cases c44 : t306 < (x7_1.length : Int)
                                                    · rw [if_pos c44] at H
                                                      have c44b0 : decide (t306 < (x7_1.length : Int)) = true := decide_eq_true c44
                                                      clear c44
                                                      obtain ⟨y314, hy314⟩ : ∃ y_ : List Int, y_ = (x7_1.set (t306 : Int).toNat (Int.tmod (wrap64 ((Int.tmod ((rd_T56 l1 x9_1).f2) 9) + 9)) 9)) := ⟨_, rfl⟩
                                                      replace H : (undercroftlaw14_TableOnce.j5 k3 ji8 l1 t305 y314 y313 x9_1) = some r := by first | (rw [hy314]; with_reducible exact H) | (have H2_ := (Option.bind_some _ _).symm.trans H; rw [hy314]; with_reducible exact H2_) | (have H2_ := (Option.bind_some _ _).symm.trans H; with_reducible exact H2_) | with_reducible exact H | (rw [hy314]; exact H) | exact H
                                                      have Ny314 := Aside0.mk hy314
                                                      clear hy314
                                                      have H' := Aside0.mk H
                                                      clear H
                                                      go_wp2_with (first | (go_at_call 10; (with_reducible refine (undercroftlaw14_num.calls t307 t311 _ A35.out).mono ?_); rintro e w' ⟨rfl, ⟨nd, rfl⟩⟩; (try first | exact ⟨rfl, _, World.drewN_drewN _ _ _⟩ | exact ⟨rfl, _, Eq.trans (World.drewN_drewN _ _ _) (congrArg (World.drewN _) (Nat.add_assoc _ _ _))⟩); obtain ⟨Ao46, co46, eo46⟩ := Kd.R_slice HO_8.out; subst eo46; have p312 : 0 ≤ (t306 : Int) := of_decide_eq_true (by first | (with_reducible assumption) | assumption); have q312 : t306 < (x8_1.length : Int) := of_decide_eq_true (by first | (with_reducible assumption) | assumption); obtain ⟨ad312, e312, hx312_0⟩ := Kd.at_bool (Kd.R_reads' HO_8.out).2.2 t306 p312 q312; (try rw [← Nbq41.out] at hx312_0); cases e312; replace p312 := eq_true p312; replace q312 := eq_true q312; have p43 : 0 ≤ (t306 : Int) := of_decide_eq_true (by first | (with_reducible assumption) | assumption); have q43 : (t306 : Int) < ((x8_1.length : Int) : Int) := of_decide_eq_true (by first | (with_reducible assumption) | assumption); obtain ⟨go43, co43, eo43, gb43, gl43, cl43, HG43⟩ := Kd.R_form HO_8.out (by omega); (first | cases eo43 | (injection eo43 with ea_ en_ ec_; (first | subst ea_ | (injection ea_ with ea_; subst ea_)); subst ec_; clear en_)); have GB43 := Aside0.mk gb43; have GG43 := Aside0.mk HG43; clear gb43 gl43 HG43; (first | simp only [add_plain] at hx312_0 | skip); obtain ⟨hx43_0, hf43_0⟩ := Kd.R_celln false HO_8.out (t306 : Int) p43 q43; replace p43 := eq_true p43; replace q43 := eq_true q43; obtain ⟨hy47_, hz47_⟩ := Kd.R_celln false HO_8.out (t306 : Int) (of_decide_eq_true (by first | (with_reducible assumption) | assumption)) (of_decide_eq_true (by first | (with_reducible assumption) | assumption)); have HP47 := Kd.R_putg HO_8.out (t306 : Int) true) | ((with_reducible refine gate_store (t := 4) (p := 136) rfl ?_); (try (rw [drewN_self wr]; generalize hq_ : World.drewN wr _ = wr; have n0_ := Aside0.mk (Kd.R_at hq_ HO_5.out); have n1_ := Aside0.mk (Kd.R_at hq_ HO_7.out); have n2_ := Aside0.mk (Kd.R_at hq_ HO_8.out); have n3_ := Aside0.mk (Kd.R_at hq_ HO_12.out); have n4_ := Aside0.mk (below_at hq_ HB.out); clear hq_ HO_5 HO_7 HO_8 HO_12 HB; have HO_5 := n0_; have HO_7 := n1_; have HO_8 := n2_; have HO_12 := n3_; have HB := n4_; clear n0_ n1_ n2_ n3_ n4_; (try (obtain ⟨hy47_, hz47_⟩ := Kd.R_celln false HO_8.out (t306 : Int) (of_decide_eq_true (by first | (with_reducible assumption) | assumption)) (of_decide_eq_true (by first | (with_reducible assumption) | assumption)))); (try (have HP47 := Kd.R_putg HO_8.out (t306 : Int) true)))); refine store_event (t := 4) (p := 136) (v := ?vo_w48) (w1 := (wr.setCell ⟨go43, (t306 : Int).toNat, none⟩ (.bool true))) ?hg ?ho ?hn ?hr ?_; (case ho => rfl); (case hg => rfl); (case hn => rfl); (case hr => first | (go_simp; done) | (go_simp; rfl)); intro w48 hw; have hg : wr.grownBy w48 (some go43) := (by rw [hw]; exact HP47.2); have hp_ : Kd.R Kd.bool 4 w48 w.heap.size (fun _ => True) (.slice (some ⟨go43, 0, none⟩) x8_1.length co46) y313 := (by rw [hw, Ny313.out]; exact HP47.1); clear HP47; have n0_ := Aside0.mk (Kd.R_over' (v := (.slice (some ⟨go43, 0, none⟩) x8_1.length co46)) (by (with_reducible repeat (first | apply Kd.R_alloc | apply Kd.R_drewN | apply Kd.R_drew)); exact HO_5.out) (Kd.R_typed HO_8.out) (by decide) hg); have n1_ := Aside0.mk (Kd.R_over' (v := (.slice (some ⟨go43, 0, none⟩) x8_1.length co46)) (by (with_reducible repeat (first | apply Kd.R_alloc | apply Kd.R_drewN | apply Kd.R_drew)); exact HO_7.out) (Kd.R_typed HO_8.out) (by decide) hg); have n2_ := Aside0.mk (hp_); have n3_ := Aside0.mk (Kd.R_over' (v := (.slice (some ⟨go43, 0, none⟩) x8_1.length co46)) (by (with_reducible repeat (first | apply Kd.R_alloc | apply Kd.R_drewN | apply Kd.R_drew)); exact HO_12.out) (Kd.R_typed HO_8.out) (by decide) hg); have n4_ := Aside0.mk ((by rw [hw]; exact below_set (HB.out) GB43.out : Below w.heap.size w w48)); clear HO_5; clear HO_7; clear HO_8; clear HO_12; clear HB; have HO_5 := n0_; have HO_7 := n1_; have HO_8 := n2_; have HO_12 := n3_; have HB := n4_; clear n0_ n1_ n2_ n3_ n4_; clear hg hw hp_; have p45 : 0 ≤ (t306 : Int) := of_decide_eq_true (by first | (with_reducible assumption) | assumption); have q45 : (t306 : Int) < ((x7_1.length : Int) : Int) := of_decide_eq_true (by first | (with_reducible assumption) | assumption); obtain ⟨go45, co45, eo45, gb45, gl45, cl45, HG45⟩ := Kd.R_form HO_7.out (by omega); (first | cases eo45 | (injection eo45 with ea_ en_ ec_; (first | subst ea_ | (injection ea_ with ea_; subst ea_)); subst ec_; clear en_)); have GB45 := Aside0.mk gb45; have GG45 := Aside0.mk HG45; clear gb45 gl45 HG45; obtain ⟨hx45_0, hf45_0⟩ := Kd.R_celln 0 HO_7.out (t306 : Int) p45 q45; replace p45 := eq_true p45; replace q45 := eq_true q45; obtain ⟨hy49_, hz49_⟩ := Kd.R_celln 0 HO_7.out (t306 : Int) (of_decide_eq_true (by first | (with_reducible assumption) | assumption)) (of_decide_eq_true (by first | (with_reducible assumption) | assumption)); have HP49 := Kd.R_putg HO_7.out (t306 : Int) (Int.tmod (wrap64 ((Int.tmod ((rd_T56 l1 x9_1).f2) 9) + 9)) 9)) | ((with_reducible refine gate_store (t := 3) (p := 137) rfl ?_); (try (rw [drewN_self w48]; generalize hq_ : World.drewN w48 _ = w48; have n0_ := Aside0.mk (Kd.R_at hq_ HO_5.out); have n1_ := Aside0.mk (Kd.R_at hq_ HO_7.out); have n2_ := Aside0.mk (Kd.R_at hq_ HO_8.out); have n3_ := Aside0.mk (Kd.R_at hq_ HO_12.out); have n4_ := Aside0.mk (below_at hq_ HB.out); clear hq_ HO_5 HO_7 HO_8 HO_12 HB; have HO_5 := n0_; have HO_7 := n1_; have HO_8 := n2_; have HO_12 := n3_; have HB := n4_; clear n0_ n1_ n2_ n3_ n4_; (try (obtain ⟨hy49_, hz49_⟩ := Kd.R_celln 0 HO_7.out (t306 : Int) (of_decide_eq_true (by first | (with_reducible assumption) | assumption)) (of_decide_eq_true (by first | (with_reducible assumption) | assumption)))); (try (have HP49 := Kd.R_putg HO_7.out (t306 : Int) (Int.tmod (wrap64 ((Int.tmod ((rd_T56 l1 x9_1).f2) 9) + 9)) 9))))); refine store_event (t := 3) (p := 137) (v := ?vo_w50) (w1 := (w48.setCell ⟨go45, (t306 : Int).toNat, none⟩ (.int .i64 (Int.tmod (wrap64 ((Int.tmod ((rd_T56 l1 x9_1).f2) 9) + 9)) 9)))) ?hg ?ho ?hn ?hr ?_; (case ho => rfl); (case hg => rfl); (case hn => rfl); (case hr => first | (go_simp; done) | (go_simp; rfl)); intro w50 hw; have hg : w48.grownBy w50 (some go45) := (by rw [hw]; exact HP49.2); have hp_ : Kd.R (Kd.int .i64) 3 w50 w.heap.size (fun _ => True) (.slice (some ⟨go45, 0, none⟩) x7_1.length co45) y314 := (by rw [hw, Ny314.out]; exact HP49.1); clear HP49; have n0_ := Aside0.mk (Kd.R_over' (v := (.slice (some ⟨go45, 0, none⟩) x7_1.length co45)) (by (with_reducible repeat (first | apply Kd.R_alloc | apply Kd.R_drewN | apply Kd.R_drew)); exact HO_5.out) (Kd.R_typed HO_7.out) (by decide) hg); have n1_ := Aside0.mk (hp_); have n2_ := Aside0.mk (Kd.R_over' (v := (.slice (some ⟨go45, 0, none⟩) x7_1.length co45)) (by (with_reducible repeat (first | apply Kd.R_alloc | apply Kd.R_drewN | apply Kd.R_drew)); exact HO_8.out) (Kd.R_typed HO_7.out) (by decide) hg); have n3_ := Aside0.mk (Kd.R_over' (v := (.slice (some ⟨go45, 0, none⟩) x7_1.length co45)) (by (with_reducible repeat (first | apply Kd.R_alloc | apply Kd.R_drewN | apply Kd.R_drew)); exact HO_12.out) (Kd.R_typed HO_7.out) (by decide) hg); have n4_ := Aside0.mk ((by rw [hw]; exact below_set (HB.out) GB45.out : Below w.heap.size w w50)); clear HO_5; clear HO_7; clear HO_8; clear HO_12; clear HB; have HO_5 := n0_; have HO_7 := n1_; have HO_8 := n2_; have HO_12 := n3_; have HB := n4_; clear n0_ n1_ n2_ n3_ n4_; clear hg hw hp_))
                                                      repeat (go_quiet (first | (go_at_call 10; (with_reducible refine (undercroftlaw14_num.calls t307 t311 _ A35.out).mono ?_); rintro e w' ⟨rfl, ⟨nd, rfl⟩⟩; (try first | exact ⟨rfl, _, World.drewN_drewN _ _ _⟩ | exact ⟨rfl, _, Eq.trans (World.drewN_drewN _ _ _) (congrArg (World.drewN _) (Nat.add_assoc _ _ _))⟩); obtain ⟨Ao46, co46, eo46⟩ := Kd.R_slice HO_8.out; subst eo46; have p312 : 0 ≤ (t306 : Int) := of_decide_eq_true (by first | (with_reducible assumption) | assumption); have q312 : t306 < (x8_1.length : Int) := of_decide_eq_true (by first | (with_reducible assumption) | assumption); obtain ⟨ad312, e312, hx312_0⟩ := Kd.at_bool (Kd.R_reads' HO_8.out).2.2 t306 p312 q312; (try rw [← Nbq41.out] at hx312_0); cases e312; replace p312 := eq_true p312; replace q312 := eq_true q312; have p43 : 0 ≤ (t306 : Int) := of_decide_eq_true (by first | (with_reducible assumption) | assumption); have q43 : (t306 : Int) < ((x8_1.length : Int) : Int) := of_decide_eq_true (by first | (with_reducible assumption) | assumption); obtain ⟨go43, co43, eo43, gb43, gl43, cl43, HG43⟩ := Kd.R_form HO_8.out (by omega); (first | cases eo43 | (injection eo43 with ea_ en_ ec_; (first | subst ea_ | (injection ea_ with ea_; subst ea_)); subst ec_; clear en_)); have GB43 := Aside0.mk gb43; have GG43 := Aside0.mk HG43; clear gb43 gl43 HG43; (first | simp only [add_plain] at hx312_0 | skip); obtain ⟨hx43_0, hf43_0⟩ := Kd.R_celln false HO_8.out (t306 : Int) p43 q43; replace p43 := eq_true p43; replace q43 := eq_true q43; obtain ⟨hy47_, hz47_⟩ := Kd.R_celln false HO_8.out (t306 : Int) (of_decide_eq_true (by first | (with_reducible assumption) | assumption)) (of_decide_eq_true (by first | (with_reducible assumption) | assumption)); have HP47 := Kd.R_putg HO_8.out (t306 : Int) true) | ((with_reducible refine gate_store (t := 4) (p := 136) rfl ?_); (try (rw [drewN_self wr]; generalize hq_ : World.drewN wr _ = wr; have n0_ := Aside0.mk (Kd.R_at hq_ HO_5.out); have n1_ := Aside0.mk (Kd.R_at hq_ HO_7.out); have n2_ := Aside0.mk (Kd.R_at hq_ HO_8.out); have n3_ := Aside0.mk (Kd.R_at hq_ HO_12.out); have n4_ := Aside0.mk (below_at hq_ HB.out); clear hq_ HO_5 HO_7 HO_8 HO_12 HB; have HO_5 := n0_; have HO_7 := n1_; have HO_8 := n2_; have HO_12 := n3_; have HB := n4_; clear n0_ n1_ n2_ n3_ n4_; (try (obtain ⟨hy47_, hz47_⟩ := Kd.R_celln false HO_8.out (t306 : Int) (of_decide_eq_true (by first | (with_reducible assumption) | assumption)) (of_decide_eq_true (by first | (with_reducible assumption) | assumption)))); (try (have HP47 := Kd.R_putg HO_8.out (t306 : Int) true)))); refine store_event (t := 4) (p := 136) (v := ?vo_w48) (w1 := (wr.setCell ⟨go43, (t306 : Int).toNat, none⟩ (.bool true))) ?hg ?ho ?hn ?hr ?_; (case ho => rfl); (case hg => rfl); (case hn => rfl); (case hr => first | (go_simp; done) | (go_simp; rfl)); intro w48 hw; have hg : wr.grownBy w48 (some go43) := (by rw [hw]; exact HP47.2); have hp_ : Kd.R Kd.bool 4 w48 w.heap.size (fun _ => True) (.slice (some ⟨go43, 0, none⟩) x8_1.length co46) y313 := (by rw [hw, Ny313.out]; exact HP47.1); clear HP47; have n0_ := Aside0.mk (Kd.R_over' (v := (.slice (some ⟨go43, 0, none⟩) x8_1.length co46)) (by (with_reducible repeat (first | apply Kd.R_alloc | apply Kd.R_drewN | apply Kd.R_drew)); exact HO_5.out) (Kd.R_typed HO_8.out) (by decide) hg); have n1_ := Aside0.mk (Kd.R_over' (v := (.slice (some ⟨go43, 0, none⟩) x8_1.length co46)) (by (with_reducible repeat (first | apply Kd.R_alloc | apply Kd.R_drewN | apply Kd.R_drew)); exact HO_7.out) (Kd.R_typed HO_8.out) (by decide) hg); have n2_ := Aside0.mk (hp_); have n3_ := Aside0.mk (Kd.R_over' (v := (.slice (some ⟨go43, 0, none⟩) x8_1.length co46)) (by (with_reducible repeat (first | apply Kd.R_alloc | apply Kd.R_drewN | apply Kd.R_drew)); exact HO_12.out) (Kd.R_typed HO_8.out) (by decide) hg); have n4_ := Aside0.mk ((by rw [hw]; exact below_set (HB.out) GB43.out : Below w.heap.size w w48)); clear HO_5; clear HO_7; clear HO_8; clear HO_12; clear HB; have HO_5 := n0_; have HO_7 := n1_; have HO_8 := n2_; have HO_12 := n3_; have HB := n4_; clear n0_ n1_ n2_ n3_ n4_; clear hg hw hp_; have p45 : 0 ≤ (t306 : Int) := of_decide_eq_true (by first | (with_reducible assumption) | assumption); have q45 : (t306 : Int) < ((x7_1.length : Int) : Int) := of_decide_eq_true (by first | (with_reducible assumption) | assumption); obtain ⟨go45, co45, eo45, gb45, gl45, cl45, HG45⟩ := Kd.R_form HO_7.out (by omega); (first | cases eo45 | (injection eo45 with ea_ en_ ec_; (first | subst ea_ | (injection ea_ with ea_; subst ea_)); subst ec_; clear en_)); have GB45 := Aside0.mk gb45; have GG45 := Aside0.mk HG45; clear gb45 gl45 HG45; obtain ⟨hx45_0, hf45_0⟩ := Kd.R_celln 0 HO_7.out (t306 : Int) p45 q45; replace p45 := eq_true p45; replace q45 := eq_true q45; obtain ⟨hy49_, hz49_⟩ := Kd.R_celln 0 HO_7.out (t306 : Int) (of_decide_eq_true (by first | (with_reducible assumption) | assumption)) (of_decide_eq_true (by first | (with_reducible assumption) | assumption)); have HP49 := Kd.R_putg HO_7.out (t306 : Int) (Int.tmod (wrap64 ((Int.tmod ((rd_T56 l1 x9_1).f2) 9) + 9)) 9)) | ((with_reducible refine gate_store (t := 3) (p := 137) rfl ?_); (try (rw [drewN_self w48]; generalize hq_ : World.drewN w48 _ = w48; have n0_ := Aside0.mk (Kd.R_at hq_ HO_5.out); have n1_ := Aside0.mk (Kd.R_at hq_ HO_7.out); have n2_ := Aside0.mk (Kd.R_at hq_ HO_8.out); have n3_ := Aside0.mk (Kd.R_at hq_ HO_12.out); have n4_ := Aside0.mk (below_at hq_ HB.out); clear hq_ HO_5 HO_7 HO_8 HO_12 HB; have HO_5 := n0_; have HO_7 := n1_; have HO_8 := n2_; have HO_12 := n3_; have HB := n4_; clear n0_ n1_ n2_ n3_ n4_; (try (obtain ⟨hy49_, hz49_⟩ := Kd.R_celln 0 HO_7.out (t306 : Int) (of_decide_eq_true (by first | (with_reducible assumption) | assumption)) (of_decide_eq_true (by first | (with_reducible assumption) | assumption)))); (try (have HP49 := Kd.R_putg HO_7.out (t306 : Int) (Int.tmod (wrap64 ((Int.tmod ((rd_T56 l1 x9_1).f2) 9) + 9)) 9))))); refine store_event (t := 3) (p := 137) (v := ?vo_w50) (w1 := (w48.setCell ⟨go45, (t306 : Int).toNat, none⟩ (.int .i64 (Int.tmod (wrap64 ((Int.tmod ((rd_T56 l1 x9_1).f2) 9) + 9)) 9)))) ?hg ?ho ?hn ?hr ?_; (case ho => rfl); (case hg => rfl); (case hn => rfl); (case hr => first | (go_simp; done) | (go_simp; rfl)); intro w50 hw; have hg : w48.grownBy w50 (some go45) := (by rw [hw]; exact HP49.2); have hp_ : Kd.R (Kd.int .i64) 3 w50 w.heap.size (fun _ => True) (.slice (some ⟨go45, 0, none⟩) x7_1.length co45) y314 := (by rw [hw, Ny314.out]; exact HP49.1); clear HP49; have n0_ := Aside0.mk (Kd.R_over' (v := (.slice (some ⟨go45, 0, none⟩) x7_1.length co45)) (by (with_reducible repeat (first | apply Kd.R_alloc | apply Kd.R_drewN | apply Kd.R_drew)); exact HO_5.out) (Kd.R_typed HO_7.out) (by decide) hg); have n1_ := Aside0.mk (hp_); have n2_ := Aside0.mk (Kd.R_over' (v := (.slice (some ⟨go45, 0, none⟩) x7_1.length co45)) (by (with_reducible repeat (first | apply Kd.R_alloc | apply Kd.R_drewN | apply Kd.R_drew)); exact HO_8.out) (Kd.R_typed HO_7.out) (by decide) hg); have n3_ := Aside0.mk (Kd.R_over' (v := (.slice (some ⟨go45, 0, none⟩) x7_1.length co45)) (by (with_reducible repeat (first | apply Kd.R_alloc | apply Kd.R_drewN | apply Kd.R_drew)); exact HO_12.out) (Kd.R_typed HO_7.out) (by decide) hg); have n4_ := Aside0.mk ((by rw [hw]; exact below_set (HB.out) GB45.out : Below w.heap.size w w50)); clear HO_5; clear HO_7; clear HO_8; clear HO_12; clear HB; have HO_5 := n0_; have HO_7 := n1_; have HO_8 := n2_; have HO_12 := n3_; have HB := n4_; clear n0_ n1_ n2_ n3_ n4_; clear hg hw hp_)); try go_wp2_with (first | (go_at_call 10; (with_reducible refine (undercroftlaw14_num.calls t307 t311 _ A35.out).mono ?_); rintro e w' ⟨rfl, ⟨nd, rfl⟩⟩; (try first | exact ⟨rfl, _, World.drewN_drewN _ _ _⟩ | exact ⟨rfl, _, Eq.trans (World.drewN_drewN _ _ _) (congrArg (World.drewN _) (Nat.add_assoc _ _ _))⟩); obtain ⟨Ao46, co46, eo46⟩ := Kd.R_slice HO_8.out; subst eo46; have p312 : 0 ≤ (t306 : Int) := of_decide_eq_true (by first | (with_reducible assumption) | assumption); have q312 : t306 < (x8_1.length : Int) := of_decide_eq_true (by first | (with_reducible assumption) | assumption); obtain ⟨ad312, e312, hx312_0⟩ := Kd.at_bool (Kd.R_reads' HO_8.out).2.2 t306 p312 q312; (try rw [← Nbq41.out] at hx312_0); cases e312; replace p312 := eq_true p312; replace q312 := eq_true q312; have p43 : 0 ≤ (t306 : Int) := of_decide_eq_true (by first | (with_reducible assumption) | assumption); have q43 : (t306 : Int) < ((x8_1.length : Int) : Int) := of_decide_eq_true (by first | (with_reducible assumption) | assumption); obtain ⟨go43, co43, eo43, gb43, gl43, cl43, HG43⟩ := Kd.R_form HO_8.out (by omega); (first | cases eo43 | (injection eo43 with ea_ en_ ec_; (first | subst ea_ | (injection ea_ with ea_; subst ea_)); subst ec_; clear en_)); have GB43 := Aside0.mk gb43; have GG43 := Aside0.mk HG43; clear gb43 gl43 HG43; (first | simp only [add_plain] at hx312_0 | skip); obtain ⟨hx43_0, hf43_0⟩ := Kd.R_celln false HO_8.out (t306 : Int) p43 q43; replace p43 := eq_true p43; replace q43 := eq_true q43; obtain ⟨hy47_, hz47_⟩ := Kd.R_celln false HO_8.out (t306 : Int) (of_decide_eq_true (by first | (with_reducible assumption) | assumption)) (of_decide_eq_true (by first | (with_reducible assumption) | assumption)); have HP47 := Kd.R_putg HO_8.out (t306 : Int) true) | ((with_reducible refine gate_store (t := 4) (p := 136) rfl ?_); (try (rw [drewN_self wr]; generalize hq_ : World.drewN wr _ = wr; have n0_ := Aside0.mk (Kd.R_at hq_ HO_5.out); have n1_ := Aside0.mk (Kd.R_at hq_ HO_7.out); have n2_ := Aside0.mk (Kd.R_at hq_ HO_8.out); have n3_ := Aside0.mk (Kd.R_at hq_ HO_12.out); have n4_ := Aside0.mk (below_at hq_ HB.out); clear hq_ HO_5 HO_7 HO_8 HO_12 HB; have HO_5 := n0_; have HO_7 := n1_; have HO_8 := n2_; have HO_12 := n3_; have HB := n4_; clear n0_ n1_ n2_ n3_ n4_; (try (obtain ⟨hy47_, hz47_⟩ := Kd.R_celln false HO_8.out (t306 : Int) (of_decide_eq_true (by first | (with_reducible assumption) | assumption)) (of_decide_eq_true (by first | (with_reducible assumption) | assumption)))); (try (have HP47 := Kd.R_putg HO_8.out (t306 : Int) true)))); refine store_event (t := 4) (p := 136) (v := ?vo_w48) (w1 := (wr.setCell ⟨go43, (t306 : Int).toNat, none⟩ (.bool true))) ?hg ?ho ?hn ?hr ?_; (case ho => rfl); (case hg => rfl); (case hn => rfl); (case hr => first | (go_simp; done) | (go_simp; rfl)); intro w48 hw; have hg : wr.grownBy w48 (some go43) := (by rw [hw]; exact HP47.2); have hp_ : Kd.R Kd.bool 4 w48 w.heap.size (fun _ => True) (.slice (some ⟨go43, 0, none⟩) x8_1.length co46) y313 := (by rw [hw, Ny313.out]; exact HP47.1); clear HP47; have n0_ := Aside0.mk (Kd.R_over' (v := (.slice (some ⟨go43, 0, none⟩) x8_1.length co46)) (by (with_reducible repeat (first | apply Kd.R_alloc | apply Kd.R_drewN | apply Kd.R_drew)); exact HO_5.out) (Kd.R_typed HO_8.out) (by decide) hg); have n1_ := Aside0.mk (Kd.R_over' (v := (.slice (some ⟨go43, 0, none⟩) x8_1.length co46)) (by (with_reducible repeat (first | apply Kd.R_alloc | apply Kd.R_drewN | apply Kd.R_drew)); exact HO_7.out) (Kd.R_typed HO_8.out) (by decide) hg); have n2_ := Aside0.mk (hp_); have n3_ := Aside0.mk (Kd.R_over' (v := (.slice (some ⟨go43, 0, none⟩) x8_1.length co46)) (by (with_reducible repeat (first | apply Kd.R_alloc | apply Kd.R_drewN | apply Kd.R_drew)); exact HO_12.out) (Kd.R_typed HO_8.out) (by decide) hg); have n4_ := Aside0.mk ((by rw [hw]; exact below_set (HB.out) GB43.out : Below w.heap.size w w48)); clear HO_5; clear HO_7; clear HO_8; clear HO_12; clear HB; have HO_5 := n0_; have HO_7 := n1_; have HO_8 := n2_; have HO_12 := n3_; have HB := n4_; clear n0_ n1_ n2_ n3_ n4_; clear hg hw hp_; have p45 : 0 ≤ (t306 : Int) := of_decide_eq_true (by first | (with_reducible assumption) | assumption); have q45 : (t306 : Int) < ((x7_1.length : Int) : Int) := of_decide_eq_true (by first | (with_reducible assumption) | assumption); obtain ⟨go45, co45, eo45, gb45, gl45, cl45, HG45⟩ := Kd.R_form HO_7.out (by omega); (first | cases eo45 | (injection eo45 with ea_ en_ ec_; (first | subst ea_ | (injection ea_ with ea_; subst ea_)); subst ec_; clear en_)); have GB45 := Aside0.mk gb45; have GG45 := Aside0.mk HG45; clear gb45 gl45 HG45; obtain ⟨hx45_0, hf45_0⟩ := Kd.R_celln 0 HO_7.out (t306 : Int) p45 q45; replace p45 := eq_true p45; replace q45 := eq_true q45; obtain ⟨hy49_, hz49_⟩ := Kd.R_celln 0 HO_7.out (t306 : Int) (of_decide_eq_true (by first | (with_reducible assumption) | assumption)) (of_decide_eq_true (by first | (with_reducible assumption) | assumption)); have HP49 := Kd.R_putg HO_7.out (t306 : Int) (Int.tmod (wrap64 ((Int.tmod ((rd_T56 l1 x9_1).f2) 9) + 9)) 9)) | ((with_reducible refine gate_store (t := 3) (p := 137) rfl ?_); (try (rw [drewN_self w48]; generalize hq_ : World.drewN w48 _ = w48; have n0_ := Aside0.mk (Kd.R_at hq_ HO_5.out); have n1_ := Aside0.mk (Kd.R_at hq_ HO_7.out); have n2_ := Aside0.mk (Kd.R_at hq_ HO_8.out); have n3_ := Aside0.mk (Kd.R_at hq_ HO_12.out); have n4_ := Aside0.mk (below_at hq_ HB.out); clear hq_ HO_5 HO_7 HO_8 HO_12 HB; have HO_5 := n0_; have HO_7 := n1_; have HO_8 := n2_; have HO_12 := n3_; have HB := n4_; clear n0_ n1_ n2_ n3_ n4_; (try (obtain ⟨hy49_, hz49_⟩ := Kd.R_celln 0 HO_7.out (t306 : Int) (of_decide_eq_true (by first | (with_reducible assumption) | assumption)) (of_decide_eq_true (by first | (with_reducible assumption) | assumption)))); (try (have HP49 := Kd.R_putg HO_7.out (t306 : Int) (Int.tmod (wrap64 ((Int.tmod ((rd_T56 l1 x9_1).f2) 9) + 9)) 9))))); refine store_event (t := 3) (p := 137) (v := ?vo_w50) (w1 := (w48.setCell ⟨go45, (t306 : Int).toNat, none⟩ (.int .i64 (Int.tmod (wrap64 ((Int.tmod ((rd_T56 l1 x9_1).f2) 9) + 9)) 9)))) ?hg ?ho ?hn ?hr ?_; (case ho => rfl); (case hg => rfl); (case hn => rfl); (case hr => first | (go_simp; done) | (go_simp; rfl)); intro w50 hw; have hg : w48.grownBy w50 (some go45) := (by rw [hw]; exact HP49.2); have hp_ : Kd.R (Kd.int .i64) 3 w50 w.heap.size (fun _ => True) (.slice (some ⟨go45, 0, none⟩) x7_1.length co45) y314 := (by rw [hw, Ny314.out]; exact HP49.1); clear HP49; have n0_ := Aside0.mk (Kd.R_over' (v := (.slice (some ⟨go45, 0, none⟩) x7_1.length co45)) (by (with_reducible repeat (first | apply Kd.R_alloc | apply Kd.R_drewN | apply Kd.R_drew)); exact HO_5.out) (Kd.R_typed HO_7.out) (by decide) hg); have n1_ := Aside0.mk (hp_); have n2_ := Aside0.mk (Kd.R_over' (v := (.slice (some ⟨go45, 0, none⟩) x7_1.length co45)) (by (with_reducible repeat (first | apply Kd.R_alloc | apply Kd.R_drewN | apply Kd.R_drew)); exact HO_8.out) (Kd.R_typed HO_7.out) (by decide) hg); have n3_ := Aside0.mk (Kd.R_over' (v := (.slice (some ⟨go45, 0, none⟩) x7_1.length co45)) (by (with_reducible repeat (first | apply Kd.R_alloc | apply Kd.R_drewN | apply Kd.R_drew)); exact HO_12.out) (Kd.R_typed HO_7.out) (by decide) hg); have n4_ := Aside0.mk ((by rw [hw]; exact below_set (HB.out) GB45.out : Below w.heap.size w w50)); clear HO_5; clear HO_7; clear HO_8; clear HO_12; clear HB; have HO_5 := n0_; have HO_7 := n1_; have HO_8 := n2_; have HO_12 := n3_; have HB := n4_; clear n0_ n1_ n2_ n3_ n4_; clear hg hw hp_)))
                                                      (try subst hji59); (try subst hji71); (try subst hji84); (try subst hji96)
                                                      go_meet
                                                      case rel => exact ⟨_, (t305), (y314), (y313), H', ⟨by have := HK1.out; have := HJ17.out; have := HK3.out; first | omega | exact Nat.le_refl _⟩, ⟨by (with_reducible repeat (first | apply Kd.R_alloc | apply Kd.R_drewN | apply Kd.R_drew)); exact Kd.R_mono HO_12.out (fun _ hk => trivial)⟩, ⟨by (with_reducible repeat (first | apply Kd.R_alloc | apply Kd.R_drewN | apply Kd.R_drew)); exact HO_7.out⟩, ⟨by (with_reducible repeat (first | apply Kd.R_alloc | apply Kd.R_drewN | apply Kd.R_drew)); exact HO_8.out⟩, ⟨by repeat (first | (with_reducible first | exact HB.out | apply below_alloc | apply pw_below_drewN | apply below_drew1) | exact HB.out)⟩⟩
                                                    · rw [if_neg c44] at H
                                                      exact absurd H (by simp)
                                                · rw [if_neg c40] at H
                                                  exact absurd H (by simp)
                                              · rw [if_neg c39] at H
                                                exact absurd H (by simp)
                                        · rw [if_neg c36] at H
                                          exact absurd H (by simp)
                                      · replace c34 := Bool.eq_false_iff.mpr c34
                                        subst c34
                                        have H1 : ((undercroftlaw14_num.f t307).bind fun t315 => (if t315 = 51 then (undercroftlaw14_TableOnce.l0 k3 ji8 l1 x5_1 x7_1 x8_1 (wrap64 (x9_1 + 1))) else (none))) = some r := by rw [if_neg (show ¬ (false = true) by decide)] at H; exact H
                                        clear H
                                        have H := H1
                                        clear H1
                                        replace H := Option.bind_eq_some_iff.mp H
                                        obtain ⟨t315, A510, H⟩ := H
                                        replace H : (if t315 = 51 then (undercroftlaw14_TableOnce.l0 k3 ji8 l1 x5_1 x7_1 x8_1 (wrap64 (x9_1 + 1))) else (none)) = some r := H
                                        have A51 := Aside0.mk A510
                                        clear A510
                                        by_cases c52 : t315 = 51
                                        · rw [if_pos c52] at H
                                          have c52b0 : (t315 == 51) = true := beq_iff_eq.mpr c52
                                          have c52b1 : (t315 != 51) = false := bne_eq_false_iff_eq.mpr c52
                                          clear c52
                                          have H' := Aside0.mk H
                                          clear H
                                          go_wp2_with (first | (go_at_call 10; (with_reducible refine (undercroftlaw14_num.calls t307 t315 _ A51.out).mono ?_); rintro e w' ⟨rfl, ⟨nd, rfl⟩⟩; (try first | exact ⟨rfl, _, World.drewN_drewN _ _ _⟩ | exact ⟨rfl, _, Eq.trans (World.drewN_drewN _ _ _) (congrArg (World.drewN _) (Nat.add_assoc _ _ _))⟩)))
                                          repeat (go_quiet (first | (go_at_call 10; (with_reducible refine (undercroftlaw14_num.calls t307 t315 _ A51.out).mono ?_); rintro e w' ⟨rfl, ⟨nd, rfl⟩⟩; (try first | exact ⟨rfl, _, World.drewN_drewN _ _ _⟩ | exact ⟨rfl, _, Eq.trans (World.drewN_drewN _ _ _) (congrArg (World.drewN _) (Nat.add_assoc _ _ _))⟩))); try go_wp2_with (first | (go_at_call 10; (with_reducible refine (undercroftlaw14_num.calls t307 t315 _ A51.out).mono ?_); rintro e w' ⟨rfl, ⟨nd, rfl⟩⟩; (try first | exact ⟨rfl, _, World.drewN_drewN _ _ _⟩ | exact ⟨rfl, _, Eq.trans (World.drewN_drewN _ _ _) (congrArg (World.drewN _) (Nat.add_assoc _ _ _))⟩))))
                                          go_roundg k3
                                          case measure => have := HK1.out; have := HJ17.out; have := HK3.out; omega
                                          case rel => exact ⟨(x5_1), (x7_1), (x8_1), (wrap64 (x9_1 + 1)), (by first | rfl | (simp; done) | (simp [*]; done)), H', ⟨by have := HK1.out; have := HJ17.out; have := HK3.out; omega⟩, ⟨by (with_reducible repeat (first | apply Kd.R_alloc | apply Kd.R_drewN | apply Kd.R_drew)); exact Kd.R_mono HO_5.out (fun _ hk => trivial)⟩, ⟨by (with_reducible repeat (first | apply Kd.R_alloc | apply Kd.R_drewN | apply Kd.R_drew)); exact HO_7.out⟩, ⟨by (with_reducible repeat (first | apply Kd.R_alloc | apply Kd.R_drewN | apply Kd.R_drew)); exact HO_8.out⟩, ⟨by repeat (first | (with_reducible first | exact HB.out | apply below_alloc | apply pw_below_drewN | apply below_drew1) | exact HB.out)⟩⟩
                                        · rw [if_neg c52] at H
                                          exact absurd H (by simp)
                              · rw [if_neg c25] at H
                                have c25b0 : ((Int.tmod (wrap64 ((Int.tmod ((rd_T56 l1 x9_1).f0) 3) + 3)) 3) == 0) = false := beq_eq_false_iff_ne.mpr c25
                                have c25b1 : ((Int.tmod (wrap64 ((Int.tmod ((rd_T56 l1 x9_1).f0) 3) + 3)) 3) != 0) = true := bne_iff_ne.mpr c25
                                (first | rw [c25b0] | (simp only [i64_w, i32_w]; rw [c25b0]) | skip)
                                by_cases c53 : (Int.tmod (wrap64 ((Int.tmod ((rd_T56 l1 x9_1).f0) 3) + 3)) 3) = 1
                                · rw [if_pos c53] at H
                                  have c53b0 : ((Int.tmod (wrap64 ((Int.tmod ((rd_T56 l1 x9_1).f0) 3) + 3)) 3) == 1) = true := beq_iff_eq.mpr c53
                                  have c53b1 : ((Int.tmod (wrap64 ((Int.tmod ((rd_T56 l1 x9_1).f0) 3) + 3)) 3) != 1) = false := bne_eq_false_iff_eq.mpr c53
                                  clear c53
                                  replace H := Option.bind_eq_some_iff.mp H
                                  obtain ⟨⟨t316, t317⟩, A540, H⟩ := H
                                  replace H : ((undercroftlaw14_num.f t317).bind fun t320 => (if 0 ≤ (Int.tmod (wrap64 ((Int.tmod ((rd_T56 l1 x9_1).f1) ji8) + ji8)) ji8) then (if (Int.tmod (wrap64 ((Int.tmod ((rd_T56 l1 x9_1).f1) ji8) + ji8)) ji8) < (x8_1.length : Int) then (if rdOf false x8_1 (Int.tmod (wrap64 ((Int.tmod ((rd_T56 l1 x9_1).f1) ji8) + ji8)) ji8) = true then (if (Int.tmod (wrap64 ((Int.tmod ((rd_T56 l1 x9_1).f1) ji8) + ji8)) ji8) < (x7_1.length : Int) then (undercroftlaw14_TableOnce.j3 kj17 ji8 l1 x5_1 x7_1 x8_1 x9_1 (Int.tmod (wrap64 ((Int.tmod ((rd_T56 l1 x9_1).f1) ji8) + ji8)) ji8) t316 t317 ((t320 == 0) != (decide ((rd x7_1 (Int.tmod (wrap64 ((Int.tmod ((rd_T56 l1 x9_1).f1) ji8) + ji8)) ji8)) > 0)))) else (none)) else (undercroftlaw14_TableOnce.j3 kj17 ji8 l1 x5_1 x7_1 x8_1 x9_1 (Int.tmod (wrap64 ((Int.tmod ((rd_T56 l1 x9_1).f1) ji8) + ji8)) ji8) t316 t317 ((t320 == 0) != false))) else (none)) else (none))) = some r := H
                                  have A54 := Aside0.mk A540
                                  clear A540
                                  have HC55 := Aside0.mk H
                                  clear H
                                  obtain ⟨Ao56, co56, eo56⟩ := Kd.R_slice HO_5.out
                                  subst eo56
                                  go_upto_region 30 with (first | (go_at_call 12; (with_reducible refine (table_Kill.calls _ _ x5_1 (Int.tmod (wrap64 ((Int.tmod ((rd_T56 l1 x9_1).f1) ji8) + ji8)) ji8) 1 t316 t317 _ ?side1 ?side2 A54.out).mono ?_); (case side1 => repeat (first | exact (Kd.R_reads' HO_5.out).2.2 | (with_reducible refine Kd.C_alloc ?_ _) | (with_reducible refine Kd.C_drewN ?_ _) | (with_reducible refine Kd.C_drew ?_))); (case side2 => exact (Kd.R_reads' HO_5.out).2.1); rintro e w57 ⟨v318, rfl, ho0, hb⟩; have n0_ := Aside0.mk (Kd.R_elder' (by (with_reducible repeat (first | apply Kd.R_alloc | apply Kd.R_drewN | apply Kd.R_drew)); exact HO_5.out) (Kd.R_base ho0) hb); have n1_ := Aside0.mk (Kd.R_below (by (with_reducible repeat (first | apply Kd.R_alloc | apply Kd.R_drewN | apply Kd.R_drew)); exact HO_7.out) hb); have n2_ := Aside0.mk (Kd.R_below (by (with_reducible repeat (first | apply Kd.R_alloc | apply Kd.R_drewN | apply Kd.R_drew)); exact HO_8.out) hb); have n3_ := Aside0.mk (Kd.R_lower (Kd.R_new' ho0 (Kd.R_lt (by (with_reducible repeat (first | apply Kd.R_alloc | apply Kd.R_drewN | apply Kd.R_drew)); exact HO_5.out))) (below_size (by repeat (first | (with_reducible first | exact HB.out | apply below_alloc | apply pw_below_drewN | apply below_drew1) | exact HB.out)))); have n4_ := Aside0.mk (below_step (by repeat (first | (with_reducible first | exact HB.out | apply below_alloc | apply pw_below_drewN | apply below_drew1) | exact HB.out)) hb); clear HO_5; clear HO_7; clear HO_8; clear HB; have HO_5 := n0_; have HO_7 := n1_; have HO_8 := n2_; have HO319 := n3_; have HB := n4_; clear n0_ n1_ n2_ n3_ n4_; (try clear hb); (try clear hb2); (try clear hk); (try clear hi); (try clear ho0)))
                                  repeat (go_quiet (first | (go_at_call 12; (with_reducible refine (table_Kill.calls _ _ x5_1 (Int.tmod (wrap64 ((Int.tmod ((rd_T56 l1 x9_1).f1) ji8) + ji8)) ji8) 1 t316 t317 _ ?side1 ?side2 A54.out).mono ?_); (case side1 => repeat (first | exact (Kd.R_reads' HO_5.out).2.2 | (with_reducible refine Kd.C_alloc ?_ _) | (with_reducible refine Kd.C_drewN ?_ _) | (with_reducible refine Kd.C_drew ?_))); (case side2 => exact (Kd.R_reads' HO_5.out).2.1); rintro e w57 ⟨v318, rfl, ho0, hb⟩; have n0_ := Aside0.mk (Kd.R_elder' (by (with_reducible repeat (first | apply Kd.R_alloc | apply Kd.R_drewN | apply Kd.R_drew)); exact HO_5.out) (Kd.R_base ho0) hb); have n1_ := Aside0.mk (Kd.R_below (by (with_reducible repeat (first | apply Kd.R_alloc | apply Kd.R_drewN | apply Kd.R_drew)); exact HO_7.out) hb); have n2_ := Aside0.mk (Kd.R_below (by (with_reducible repeat (first | apply Kd.R_alloc | apply Kd.R_drewN | apply Kd.R_drew)); exact HO_8.out) hb); have n3_ := Aside0.mk (Kd.R_lower (Kd.R_new' ho0 (Kd.R_lt (by (with_reducible repeat (first | apply Kd.R_alloc | apply Kd.R_drewN | apply Kd.R_drew)); exact HO_5.out))) (below_size (by repeat (first | (with_reducible first | exact HB.out | apply below_alloc | apply pw_below_drewN | apply below_drew1) | exact HB.out)))); have n4_ := Aside0.mk (below_step (by repeat (first | (with_reducible first | exact HB.out | apply below_alloc | apply pw_below_drewN | apply below_drew1) | exact HB.out)) hb); clear HO_5; clear HO_7; clear HO_8; clear HB; have HO_5 := n0_; have HO_7 := n1_; have HO_8 := n2_; have HO319 := n3_; have HB := n4_; clear n0_ n1_ n2_ n3_ n4_; (try clear hb); (try clear hb2); (try clear hk); (try clear hi); (try clear ho0))); go_upto_region 30 with (first | (go_at_call 12; (with_reducible refine (table_Kill.calls _ _ x5_1 (Int.tmod (wrap64 ((Int.tmod ((rd_T56 l1 x9_1).f1) ji8) + ji8)) ji8) 1 t316 t317 _ ?side1 ?side2 A54.out).mono ?_); (case side1 => repeat (first | exact (Kd.R_reads' HO_5.out).2.2 | (with_reducible refine Kd.C_alloc ?_ _) | (with_reducible refine Kd.C_drewN ?_ _) | (with_reducible refine Kd.C_drew ?_))); (case side2 => exact (Kd.R_reads' HO_5.out).2.1); rintro e w57 ⟨v318, rfl, ho0, hb⟩; have n0_ := Aside0.mk (Kd.R_elder' (by (with_reducible repeat (first | apply Kd.R_alloc | apply Kd.R_drewN | apply Kd.R_drew)); exact HO_5.out) (Kd.R_base ho0) hb); have n1_ := Aside0.mk (Kd.R_below (by (with_reducible repeat (first | apply Kd.R_alloc | apply Kd.R_drewN | apply Kd.R_drew)); exact HO_7.out) hb); have n2_ := Aside0.mk (Kd.R_below (by (with_reducible repeat (first | apply Kd.R_alloc | apply Kd.R_drewN | apply Kd.R_drew)); exact HO_8.out) hb); have n3_ := Aside0.mk (Kd.R_lower (Kd.R_new' ho0 (Kd.R_lt (by (with_reducible repeat (first | apply Kd.R_alloc | apply Kd.R_drewN | apply Kd.R_drew)); exact HO_5.out))) (below_size (by repeat (first | (with_reducible first | exact HB.out | apply below_alloc | apply pw_below_drewN | apply below_drew1) | exact HB.out)))); have n4_ := Aside0.mk (below_step (by repeat (first | (with_reducible first | exact HB.out | apply below_alloc | apply pw_below_drewN | apply below_drew1) | exact HB.out)) hb); clear HO_5; clear HO_7; clear HO_8; clear HB; have HO_5 := n0_; have HO_7 := n1_; have HO_8 := n2_; have HO319 := n3_; have HB := n4_; clear n0_ n1_ n2_ n3_ n4_; (try clear hb); (try clear hb2); (try clear hk); (try clear hi); (try clear ho0))))
                                  (try simp only [Act.put, List.setIfInBounds_toArray, List.set_cons_zero, List.set_cons_succ])
                                  go_cut [160] (fun v160 wc => ∃ (kq : Nat) (x160_54 : Bool), v160 = .bool x160_54 ∧ Aside0 (undercroftlaw14_TableOnce.j3 kq ji8 l1 x5_1 x7_1 x8_1 x9_1 (Int.tmod (wrap64 ((Int.tmod ((rd_T56 l1 x9_1).f1) ji8) + ji8)) ji8) t316 t317 x160_54 = some r) ∧ Aside0 (kq ≤ kj17) ∧ Aside0 (Kd.R k39 39 wc w.heap.size (fun k_ => some k_ ≠ (v318 : Value).ownBlock) (.slice Ao56 x5_1.length co56) x5_1) ∧ Aside0 (Kd.R (Kd.int .i64) 3 wc w.heap.size (fun _ => True) v297 x7_1) ∧ Aside0 (Kd.R Kd.bool 4 wc w.heap.size (fun _ => True) v300 x8_1) ∧ Aside0 (Kd.R k39 39 wc w.heap.size (fun k_ => some k_ ≠ ((.slice Ao56 x5_1.length co56) : Value).ownBlock) v318 t316) ∧ Aside0 (Below w.heap.size w wc))
                                  case first => as_aux_lemma =>
                                    have H := HC55.out
                                    clear HC55
                                    replace H := Option.bind_eq_some_iff.mp H
                                    obtain ⟨t320, A580, H⟩ := H
                                    replace H : (if 0 ≤ (Int.tmod (wrap64 ((Int.tmod ((rd_T56 l1 x9_1).f1) ji8) + ji8)) ji8) then (if (Int.tmod (wrap64 ((Int.tmod ((rd_T56 l1 x9_1).f1) ji8) + ji8)) ji8) < (x8_1.length : Int) then (if rdOf false x8_1 (Int.tmod (wrap64 ((Int.tmod ((rd_T56 l1 x9_1).f1) ji8) + ji8)) ji8) = true then (if (Int.tmod (wrap64 ((Int.tmod ((rd_T56 l1 x9_1).f1) ji8) + ji8)) ji8) < (x7_1.length : Int) then (undercroftlaw14_TableOnce.j3 kj17 ji8 l1 x5_1 x7_1 x8_1 x9_1 (Int.tmod (wrap64 ((Int.tmod ((rd_T56 l1 x9_1).f1) ji8) + ji8)) ji8) t316 t317 ((t320 == 0) != (decide ((rd x7_1 (Int.tmod (wrap64 ((Int.tmod ((rd_T56 l1 x9_1).f1) ji8) + ji8)) ji8)) > 0)))) else (none)) else (undercroftlaw14_TableOnce.j3 kj17 ji8 l1 x5_1 x7_1 x8_1 x9_1 (Int.tmod (wrap64 ((Int.tmod ((rd_T56 l1 x9_1).f1) ji8) + ji8)) ji8) t316 t317 ((t320 == 0) != false))) else (none)) else (none)) = some r := H
                                    have A58 := Aside0.mk A580
                                    clear A580
                                    obtain ⟨ji59, hji59⟩ : ∃ j_ : Int, (Int.tmod (wrap64 ((Int.tmod ((rd_T56 l1 x9_1).f1) ji8) + ji8)) ji8) = j_ := ⟨_, rfl⟩
                                    replace H : (if 0 ≤ (ji59) then (if (ji59) < (x8_1.length : Int) then (if rdOf false x8_1 (ji59) = true then (if (ji59) < (x7_1.length : Int) then (undercroftlaw14_TableOnce.j3 kj17 ji8 l1 x5_1 x7_1 x8_1 x9_1 ji59 t316 t317 ((t320 == 0) != (decide ((rd x7_1 (ji59)) > 0)))) else (none)) else (undercroftlaw14_TableOnce.j3 kj17 ji8 l1 x5_1 x7_1 x8_1 x9_1 ji59 t316 t317 ((t320 == 0) != false))) else (none)) else (none)) = some r := by first | (rw [hji59] at H; exact H) | (simp only [hji59] at H ⊢; exact H)
                                    (try rw [hji59] at A58)
                                    by_cases c60 : 0 ≤ (ji59)
                                    · rw [if_pos c60] at H
                                      have c60b0 : decide (0 ≤ (ji59)) = true := decide_eq_true c60
                                      clear c60
                                      (first | rw [c60b0] | (simp only [i64_w, i32_w]; rw [c60b0]) | skip)
                                      by_cases c61 : (ji59) < (x8_1.length : Int)
                                      · rw [if_pos c61] at H
                                        have c61b0 : decide ((ji59) < (x8_1.length : Int)) = true := decide_eq_true c61
                                        clear c61
                                        obtain ⟨bq62, hbq62⟩ : ∃ b_ : Bool, b_ = (rdOf false x8_1 (ji59)) := ⟨_, rfl⟩
                                        replace H : (if bq62 = true then (if (ji59) < (x7_1.length : Int) then (undercroftlaw14_TableOnce.j3 kj17 ji8 l1 x5_1 x7_1 x8_1 x9_1 ji59 t316 t317 ((t320 == 0) != (decide ((rd x7_1 (ji59)) > 0)))) else (none)) else (undercroftlaw14_TableOnce.j3 kj17 ji8 l1 x5_1 x7_1 x8_1 x9_1 ji59 t316 t317 ((t320 == 0) != false))) = some r := by rw [← hbq62] at H; exact H
                                        have Nbq62 := Aside0.mk hbq62
                                        clear hbq62
                                        by_cases c63 : bq62 = true
                                        · subst c63
                                          have H1 : (if (ji59) < (x7_1.length : Int) then (undercroftlaw14_TableOnce.j3 kj17 ji8 l1 x5_1 x7_1 x8_1 x9_1 ji59 t316 t317 ((t320 == 0) != (decide ((rd x7_1 (ji59)) > 0)))) else (none)) = some r := by rw [if_pos rfl] at H; exact H
                                          clear H
                                          have H := H1
                                          clear H1
                                          by_cases c64 : (ji59) < (x7_1.length : Int)
                                          · rw [if_pos c64] at H
                                            have c64b0 : decide ((ji59) < (x7_1.length : Int)) = true := decide_eq_true c64
                                            clear c64
                                            have H' := Aside0.mk H
                                            clear H
                                            go_wp2_with (first | (go_at_call 10; (with_reducible refine (undercroftlaw14_num.calls t317 t320 _ A58.out).mono ?_); rintro e w' ⟨rfl, ⟨nd, rfl⟩⟩; (try first | exact ⟨rfl, _, World.drewN_drewN _ _ _⟩ | exact ⟨rfl, _, Eq.trans (World.drewN_drewN _ _ _) (congrArg (World.drewN _) (Nat.add_assoc _ _ _))⟩); obtain ⟨Ao65, co65, eo65⟩ := Kd.R_slice HO_8.out; subst eo65; have p321 : 0 ≤ ((ji59) : Int) := of_decide_eq_true (by first | (with_reducible assumption) | assumption); have q321 : (ji59) < (x8_1.length : Int) := of_decide_eq_true (by first | (with_reducible assumption) | assumption); obtain ⟨ad321, e321, hx321_0⟩ := Kd.at_bool (Kd.R_reads' HO_8.out).2.2 (ji59) p321 q321; (try rw [← Nbq62.out] at hx321_0); cases e321; replace p321 := eq_true p321; replace q321 := eq_true q321; obtain ⟨Ao66, co66, eo66⟩ := Kd.R_slice HO_7.out; subst eo66; have p322 : 0 ≤ ((ji59) : Int) := of_decide_eq_true (by first | (with_reducible assumption) | assumption); have q322 : (ji59) < (x7_1.length : Int) := of_decide_eq_true (by first | (with_reducible assumption) | assumption); obtain ⟨ad322, e322, hx322_0⟩ := Kd.at_int (Kd.R_reads' HO_7.out).2.2 (ji59) p322 q322; cases e322; replace p322 := eq_true p322; replace q322 := eq_true q322))
                                            repeat (go_quiet (first | (go_at_call 10; (with_reducible refine (undercroftlaw14_num.calls t317 t320 _ A58.out).mono ?_); rintro e w' ⟨rfl, ⟨nd, rfl⟩⟩; (try first | exact ⟨rfl, _, World.drewN_drewN _ _ _⟩ | exact ⟨rfl, _, Eq.trans (World.drewN_drewN _ _ _) (congrArg (World.drewN _) (Nat.add_assoc _ _ _))⟩); obtain ⟨Ao65, co65, eo65⟩ := Kd.R_slice HO_8.out; subst eo65; have p321 : 0 ≤ ((ji59) : Int) := of_decide_eq_true (by first | (with_reducible assumption) | assumption); have q321 : (ji59) < (x8_1.length : Int) := of_decide_eq_true (by first | (with_reducible assumption) | assumption); obtain ⟨ad321, e321, hx321_0⟩ := Kd.at_bool (Kd.R_reads' HO_8.out).2.2 (ji59) p321 q321; (try rw [← Nbq62.out] at hx321_0); cases e321; replace p321 := eq_true p321; replace q321 := eq_true q321; obtain ⟨Ao66, co66, eo66⟩ := Kd.R_slice HO_7.out; subst eo66; have p322 : 0 ≤ ((ji59) : Int) := of_decide_eq_true (by first | (with_reducible assumption) | assumption); have q322 : (ji59) < (x7_1.length : Int) := of_decide_eq_true (by first | (with_reducible assumption) | assumption); obtain ⟨ad322, e322, hx322_0⟩ := Kd.at_int (Kd.R_reads' HO_7.out).2.2 (ji59) p322 q322; cases e322; replace p322 := eq_true p322; replace q322 := eq_true q322)); try go_wp2_with (first | (go_at_call 10; (with_reducible refine (undercroftlaw14_num.calls t317 t320 _ A58.out).mono ?_); rintro e w' ⟨rfl, ⟨nd, rfl⟩⟩; (try first | exact ⟨rfl, _, World.drewN_drewN _ _ _⟩ | exact ⟨rfl, _, Eq.trans (World.drewN_drewN _ _ _) (congrArg (World.drewN _) (Nat.add_assoc _ _ _))⟩); obtain ⟨Ao65, co65, eo65⟩ := Kd.R_slice HO_8.out; subst eo65; have p321 : 0 ≤ ((ji59) : Int) := of_decide_eq_true (by first | (with_reducible assumption) | assumption); have q321 : (ji59) < (x8_1.length : Int) := of_decide_eq_true (by first | (with_reducible assumption) | assumption); obtain ⟨ad321, e321, hx321_0⟩ := Kd.at_bool (Kd.R_reads' HO_8.out).2.2 (ji59) p321 q321; (try rw [← Nbq62.out] at hx321_0); cases e321; replace p321 := eq_true p321; replace q321 := eq_true q321; obtain ⟨Ao66, co66, eo66⟩ := Kd.R_slice HO_7.out; subst eo66; have p322 : 0 ≤ ((ji59) : Int) := of_decide_eq_true (by first | (with_reducible assumption) | assumption); have q322 : (ji59) < (x7_1.length : Int) := of_decide_eq_true (by first | (with_reducible assumption) | assumption); obtain ⟨ad322, e322, hx322_0⟩ := Kd.at_int (Kd.R_reads' HO_7.out).2.2 (ji59) p322 q322; cases e322; replace p322 := eq_true p322; replace q322 := eq_true q322)))
                                            (try subst hji59); (try subst hji71); (try subst hji84); (try subst hji96)
                                            go_meet
                                            case rel => exact ⟨_, (((t320 == 0) != (decide ((rd x7_1 ((Int.tmod (wrap64 ((Int.tmod ((rd_T56 l1 x9_1).f1) ji8) + ji8)) ji8))) > 0)))), (by first | rfl | (simp; done) | (simp only [← hji59] <;> (first | rfl | simp)) | (simp [*]; done)), H', ⟨by have := HK1.out; have := HJ17.out; first | omega | exact Nat.le_refl _⟩, ⟨by (with_reducible repeat (first | apply Kd.R_alloc | apply Kd.R_drewN | apply Kd.R_drew)); exact Kd.R_mono HO_5.out (fun _ hk => hk.2)⟩, ⟨by (with_reducible repeat (first | apply Kd.R_alloc | apply Kd.R_drewN | apply Kd.R_drew)); exact HO_7.out⟩, ⟨by (with_reducible repeat (first | apply Kd.R_alloc | apply Kd.R_drewN | apply Kd.R_drew)); exact HO_8.out⟩, ⟨by (with_reducible repeat (first | apply Kd.R_alloc | apply Kd.R_drewN | apply Kd.R_drew)); exact Kd.R_mono HO319.out (fun _ hk => hk.2)⟩, ⟨by repeat (first | (with_reducible first | exact HB.out | apply below_alloc | apply pw_below_drewN | apply below_drew1) | exact HB.out)⟩⟩
                                          · rw [if_neg c64] at H
                                            exact absurd H (by simp)
                                        · replace c63 := Bool.eq_false_iff.mpr c63
                                          subst c63
                                          have H1 : (undercroftlaw14_TableOnce.j3 kj17 ji8 l1 x5_1 x7_1 x8_1 x9_1 ji59 t316 t317 ((t320 == 0) != false)) = some r := by rw [if_neg (show ¬ (false = true) by decide)] at H; exact H
                                          clear H
                                          have H := H1
                                          clear H1
                                          have H' := Aside0.mk H
                                          clear H
                                          go_wp2_with (first | (go_at_call 10; (with_reducible refine (undercroftlaw14_num.calls t317 t320 _ A58.out).mono ?_); rintro e w' ⟨rfl, ⟨nd, rfl⟩⟩; (try first | exact ⟨rfl, _, World.drewN_drewN _ _ _⟩ | exact ⟨rfl, _, Eq.trans (World.drewN_drewN _ _ _) (congrArg (World.drewN _) (Nat.add_assoc _ _ _))⟩); obtain ⟨Ao67, co67, eo67⟩ := Kd.R_slice HO_8.out; subst eo67; have p321 : 0 ≤ ((ji59) : Int) := of_decide_eq_true (by first | (with_reducible assumption) | assumption); have q321 : (ji59) < (x8_1.length : Int) := of_decide_eq_true (by first | (with_reducible assumption) | assumption); obtain ⟨ad321, e321, hx321_0⟩ := Kd.at_bool (Kd.R_reads' HO_8.out).2.2 (ji59) p321 q321; (try rw [← Nbq62.out] at hx321_0); cases e321; replace p321 := eq_true p321; replace q321 := eq_true q321))
                                          repeat (go_quiet (first | (go_at_call 10; (with_reducible refine (undercroftlaw14_num.calls t317 t320 _ A58.out).mono ?_); rintro e w' ⟨rfl, ⟨nd, rfl⟩⟩; (try first | exact ⟨rfl, _, World.drewN_drewN _ _ _⟩ | exact ⟨rfl, _, Eq.trans (World.drewN_drewN _ _ _) (congrArg (World.drewN _) (Nat.add_assoc _ _ _))⟩); obtain ⟨Ao67, co67, eo67⟩ := Kd.R_slice HO_8.out; subst eo67; have p321 : 0 ≤ ((ji59) : Int) := of_decide_eq_true (by first | (with_reducible assumption) | assumption); have q321 : (ji59) < (x8_1.length : Int) := of_decide_eq_true (by first | (with_reducible assumption) | assumption); obtain ⟨ad321, e321, hx321_0⟩ := Kd.at_bool (Kd.R_reads' HO_8.out).2.2 (ji59) p321 q321; (try rw [← Nbq62.out] at hx321_0); cases e321; replace p321 := eq_true p321; replace q321 := eq_true q321)); try go_wp2_with (first | (go_at_call 10; (with_reducible refine (undercroftlaw14_num.calls t317 t320 _ A58.out).mono ?_); rintro e w' ⟨rfl, ⟨nd, rfl⟩⟩; (try first | exact ⟨rfl, _, World.drewN_drewN _ _ _⟩ | exact ⟨rfl, _, Eq.trans (World.drewN_drewN _ _ _) (congrArg (World.drewN _) (Nat.add_assoc _ _ _))⟩); obtain ⟨Ao67, co67, eo67⟩ := Kd.R_slice HO_8.out; subst eo67; have p321 : 0 ≤ ((ji59) : Int) := of_decide_eq_true (by first | (with_reducible assumption) | assumption); have q321 : (ji59) < (x8_1.length : Int) := of_decide_eq_true (by first | (with_reducible assumption) | assumption); obtain ⟨ad321, e321, hx321_0⟩ := Kd.at_bool (Kd.R_reads' HO_8.out).2.2 (ji59) p321 q321; (try rw [← Nbq62.out] at hx321_0); cases e321; replace p321 := eq_true p321; replace q321 := eq_true q321)))
                                          (try subst hji59); (try subst hji71); (try subst hji84); (try subst hji96)
                                          go_meet
                                          case rel => exact ⟨_, (((t320 == 0) != false)), (by first | rfl | (simp; done) | (simp [*]; done)), H', ⟨by have := HK1.out; have := HJ17.out; first | omega | exact Nat.le_refl _⟩, ⟨by (with_reducible repeat (first | apply Kd.R_alloc | apply Kd.R_drewN | apply Kd.R_drew)); exact Kd.R_mono HO_5.out (fun _ hk => hk.2)⟩, ⟨by (with_reducible repeat (first | apply Kd.R_alloc | apply Kd.R_drewN | apply Kd.R_drew)); exact HO_7.out⟩, ⟨by (with_reducible repeat (first | apply Kd.R_alloc | apply Kd.R_drewN | apply Kd.R_drew)); exact HO_8.out⟩, ⟨by (with_reducible repeat (first | apply Kd.R_alloc | apply Kd.R_drewN | apply Kd.R_drew)); exact Kd.R_mono HO319.out (fun _ hk => hk.2)⟩, ⟨by repeat (first | (with_reducible first | exact HB.out | apply below_alloc | apply pw_below_drewN | apply below_drew1) | exact HB.out)⟩⟩
                                      · rw [if_neg c61] at H
                                        exact absurd H (by simp)
                                    · rw [if_neg c60] at H
                                      exact absurd H (by simp)
                                  case rest => as_aux_lemma =>
                                    clear HC55
                                    try clear c1
                                    try clear c2
                                    try clear p2
                                    try clear c3
                                    try clear p3
                                    try clear q3
                                    try clear hx3
                                    try clear c4
                                    try clear p4
                                    try clear q4
                                    try clear hx4
                                    try clear hf4
                                    try clear c5
                                    try clear c6
                                    try clear p6
                                    try clear q6
                                    try clear c7
                                    try clear c7b0
                                    try clear c7b1
                                    try clear c9
                                    try clear c9b0
                                    try clear c9b1
                                    try clear c10
                                    try clear c10b0
                                    try clear c10b1
                                    try clear c11
                                    try clear c11b0
                                    try clear c11b1
                                    try clear c19
                                    try clear c19b0
                                    try clear c20
                                    try clear c21
                                    try clear c21b0
                                    try clear c22
                                    try clear c22b0
                                    try clear c23
                                    try clear c23b0
                                    try clear c23b1
                                    try clear c25
                                    try clear c25b0
                                    try clear c25b1
                                    try clear c29
                                    try clear c29b0
                                    try clear c30
                                    try clear p30
                                    try clear q30
                                    try clear hx30
                                    try clear c31
                                    try clear c31b0
                                    try clear p31
                                    try clear q31
                                    try clear hx31
                                    try clear c32
                                    try clear c32b0
                                    try clear p32
                                    try clear q32
                                    try clear hx32
                                    try clear c34
                                    try clear c36
                                    try clear c36b0
                                    try clear c36b1
                                    try clear c37
                                    try clear c37b0
                                    try clear c38
                                    try clear c38b0
                                    try clear c39
                                    try clear c39b0
                                    try clear c40
                                    try clear c40b0
                                    try clear q41
                                    try clear c42
                                    try clear p43
                                    try clear q43
                                    try clear hx43
                                    try clear hf43
                                    try clear c44
                                    try clear c44b0
                                    try clear p45
                                    try clear q45
                                    try clear hx45
                                    try clear hf45
                                    try clear c52
                                    try clear c52b0
                                    try clear c52b1
                                    try clear c53
                                    try clear c53b0
                                    try clear c53b1
                                    try clear c60
                                    try clear c60b0
                                    try clear c61
                                    try clear c61b0
                                    try clear q62
                                    try clear c63
                                    try clear c64
                                    try clear c64b0
                                    try clear p64
                                    try clear hx302_0
                                    try clear hx302_1
                                    try clear hx302_2
                                    try clear hx303_0
                                    try clear hx303_1
                                    try clear hx303_2
                                    try clear hx304_0
                                    try clear hx304_1
                                    try clear hx304_2
                                    try clear hx310_0
                                    try clear hx312_0
                                    try clear hx321_0
                                    try clear hx322_0
                                    try clear hx43_0
                                    try clear hx45_0
                                    try clear p2
                                    try clear p3
                                    try clear p302
                                    try clear p303
                                    try clear p304
                                    try clear p310
                                    try clear p312
                                    try clear p321
                                    try clear p322
                                    try clear p43
                                    try clear p45
                                    try clear p6
                                    try clear q3
                                    try clear q302
                                    try clear q303
                                    try clear q304
                                    try clear q310
                                    try clear q312
                                    try clear q321
                                    try clear q322
                                    try clear q43
                                    try clear q45
                                    obtain ⟨kq, x160_54, rfl, HA, HJ54, HO_5, HO_7, HO_8, HO_17, HB⟩ := hcut
                                    cases kq with
                                    | zero => exact absurd HA.out (by simp [undercroftlaw14_TableOnce.j3])
                                    | succ kj54 =>
                                      have H := HA.out
                                      clear HA
                                      simp only [undercroftlaw14_TableOnce.j3] at H
                                      by_cases c68 : x160_54 = true
                                      · subst c68
                                        have H1 : (none) = some r := by rw [if_pos rfl] at H; exact H
                                        clear H
                                        have H := H1
                                        clear H1
                                        exact absurd H (by simp)
                                      · replace c68 := Bool.eq_false_iff.mpr c68
                                        subst c68
                                        have H1 : ((undercroftlaw14_num.f t317).bind fun t323 => (if t323 = 0 then (if 0 ≤ (Int.tmod (wrap64 ((Int.tmod ((rd_T56 l1 x9_1).f1) ji8) + ji8)) ji8) then (if (Int.tmod (wrap64 ((Int.tmod ((rd_T56 l1 x9_1).f1) ji8) + ji8)) ji8) < (x7_1.length : Int) then (undercroftlaw14_TableOnce.j5 kj54 ji8 l1 t316 (x7_1.set ((Int.tmod (wrap64 ((Int.tmod ((rd_T56 l1 x9_1).f1) ji8) + ji8)) ji8) : Int).toNat (wrap64 ((rd x7_1 (Int.tmod (wrap64 ((Int.tmod ((rd_T56 l1 x9_1).f1) ji8) + ji8)) ji8)) - 1))) x8_1 x9_1) else (none)) else (none)) else (undercroftlaw14_TableOnce.j5 kj54 ji8 l1 x5_1 x7_1 x8_1 x9_1))) = some r := by rw [if_neg (show ¬ (false = true) by decide)] at H; exact H
                                        clear H
                                        have H := H1
                                        clear H1
                                        replace H := Option.bind_eq_some_iff.mp H
                                        obtain ⟨t323, A690, H⟩ := H
                                        replace H : (if t323 = 0 then (if 0 ≤ (Int.tmod (wrap64 ((Int.tmod ((rd_T56 l1 x9_1).f1) ji8) + ji8)) ji8) then (if (Int.tmod (wrap64 ((Int.tmod ((rd_T56 l1 x9_1).f1) ji8) + ji8)) ji8) < (x7_1.length : Int) then (undercroftlaw14_TableOnce.j5 kj54 ji8 l1 t316 (x7_1.set ((Int.tmod (wrap64 ((Int.tmod ((rd_T56 l1 x9_1).f1) ji8) + ji8)) ji8) : Int).toNat (wrap64 ((rd x7_1 (Int.tmod (wrap64 ((Int.tmod ((rd_T56 l1 x9_1).f1) ji8) + ji8)) ji8)) - 1))) x8_1 x9_1) else (none)) else (none)) else (undercroftlaw14_TableOnce.j5 kj54 ji8 l1 x5_1 x7_1 x8_1 x9_1)) = some r := H
                                        have A69 := Aside0.mk A690
                                        clear A690
                                        by_cases c70 : t323 = 0
                                        · rw [if_pos c70] at H
                                          have c70b0 : (t323 == 0) = true := beq_iff_eq.mpr c70
                                          have c70b1 : (t323 != 0) = false := bne_eq_false_iff_eq.mpr c70
                                          clear c70
                                          obtain ⟨ji71, hji71⟩ : ∃ j_ : Int, (Int.tmod (wrap64 ((Int.tmod ((rd_T56 l1 x9_1).f1) ji8) + ji8)) ji8) = j_ := ⟨_, rfl⟩
                                          replace H : (if 0 ≤ (ji71) then (if (ji71) < (x7_1.length : Int) then (undercroftlaw14_TableOnce.j5 kj54 ji8 l1 t316 (x7_1.set ((ji71) : Int).toNat (wrap64 ((rd x7_1 (ji71)) - 1))) x8_1 x9_1) else (none)) else (none)) = some r := by first | (rw [hji71] at H; exact H) | (simp only [hji71] at H ⊢; exact H)
                                          (try rw [hji71] at A69)
                                          by_cases c72 : 0 ≤ (ji71)
                                          · rw [if_pos c72] at H
                                            have c72b0 : decide (0 ≤ (ji71)) = true := decide_eq_true c72
                                            clear c72
                                            by_cases c73 : (ji71) < (x7_1.length : Int)
                                            · rw [if_pos c73] at H
                                              have c73b0 : decide ((ji71) < (x7_1.length : Int)) = true := decide_eq_true c73
                                              clear c73
                                              obtain ⟨y325, hy325⟩ : ∃ y_ : List Int, y_ = (x7_1.set ((ji71) : Int).toNat (wrap64 ((rd x7_1 (ji71)) - 1))) := ⟨_, rfl⟩
                                              replace H : (undercroftlaw14_TableOnce.j5 kj54 ji8 l1 t316 y325 x8_1 x9_1) = some r := by first | (rw [hy325]; with_reducible exact H) | (have H2_ := (Option.bind_some _ _).symm.trans H; rw [hy325]; with_reducible exact H2_) | (have H2_ := (Option.bind_some _ _).symm.trans H; with_reducible exact H2_) | with_reducible exact H | (rw [hy325]; exact H) | exact H
                                              have Ny325 := Aside0.mk hy325
                                              clear hy325
                                              have H' := Aside0.mk H
                                              clear H
                                              go_wp2_with (first | (go_at_call 10; (with_reducible refine (undercroftlaw14_num.calls t317 t323 _ A69.out).mono ?_); rintro e w' ⟨rfl, ⟨nd, rfl⟩⟩; (try first | exact ⟨rfl, _, World.drewN_drewN _ _ _⟩ | exact ⟨rfl, _, Eq.trans (World.drewN_drewN _ _ _) (congrArg (World.drewN _) (Nat.add_assoc _ _ _))⟩); obtain ⟨Ao75, co75, eo75⟩ := Kd.R_slice HO_7.out; subst eo75; have p324 : 0 ≤ ((ji71) : Int) := of_decide_eq_true (by first | (with_reducible assumption) | assumption); have q324 : (ji71) < (x7_1.length : Int) := of_decide_eq_true (by first | (with_reducible assumption) | assumption); obtain ⟨ad324, e324, hx324_0⟩ := Kd.at_int (Kd.R_reads' HO_7.out).2.2 (ji71) p324 q324; cases e324; replace p324 := eq_true p324; replace q324 := eq_true q324; have p74 : 0 ≤ ((ji71) : Int) := of_decide_eq_true (by first | (with_reducible assumption) | assumption); have q74 : ((ji71) : Int) < ((x7_1.length : Int) : Int) := of_decide_eq_true (by first | (with_reducible assumption) | assumption); obtain ⟨go74, co74, eo74, gb74, gl74, cl74, HG74⟩ := Kd.R_form HO_7.out (by omega); (first | cases eo74 | (injection eo74 with ea_ en_ ec_; (first | subst ea_ | (injection ea_ with ea_; subst ea_)); subst ec_; clear en_)); have GB74 := Aside0.mk gb74; have GG74 := Aside0.mk HG74; clear gb74 gl74 HG74; (first | simp only [add_plain] at hx324_0 | skip); obtain ⟨hx74_0, hf74_0⟩ := Kd.R_celln 0 HO_7.out ((ji71) : Int) p74 q74; replace p74 := eq_true p74; replace q74 := eq_true q74; obtain ⟨hy76_, hz76_⟩ := Kd.R_celln 0 HO_7.out ((ji71) : Int) (of_decide_eq_true (by first | (with_reducible assumption) | assumption)) (of_decide_eq_true (by first | (with_reducible assumption) | assumption)); have HP76 := Kd.R_putg HO_7.out ((ji71) : Int) (wrap64 ((rd x7_1 (ji71)) - 1))) | ((with_reducible refine gate_store (t := 3) (p := 170) rfl ?_); (try (rw [drewN_self wc]; generalize hq_ : World.drewN wc _ = wc; have n0_ := Aside0.mk (Kd.R_at hq_ HO_5.out); have n1_ := Aside0.mk (Kd.R_at hq_ HO_7.out); have n2_ := Aside0.mk (Kd.R_at hq_ HO_8.out); have n3_ := Aside0.mk (Kd.R_at hq_ HO_17.out); have n4_ := Aside0.mk (below_at hq_ HB.out); clear hq_ HO_5 HO_7 HO_8 HO_17 HB; have HO_5 := n0_; have HO_7 := n1_; have HO_8 := n2_; have HO_17 := n3_; have HB := n4_; clear n0_ n1_ n2_ n3_ n4_; (try (obtain ⟨hy76_, hz76_⟩ := Kd.R_celln 0 HO_7.out ((ji71) : Int) (of_decide_eq_true (by first | (with_reducible assumption) | assumption)) (of_decide_eq_true (by first | (with_reducible assumption) | assumption)))); (try (have HP76 := Kd.R_putg HO_7.out ((ji71) : Int) (wrap64 ((rd x7_1 (ji71)) - 1)))))); refine store_event (t := 3) (p := 170) (v := ?vo_w77) (w1 := (wc.setCell ⟨go74, ((ji71) : Int).toNat, none⟩ (.int .i64 (wrap64 ((rd x7_1 (ji71)) - 1))))) ?hg ?ho ?hn ?hr ?_; (case ho => rfl); (case hg => rfl); (case hn => rfl); (case hr => first | (go_simp; done) | (go_simp; rfl)); intro w77 hw; have hg : wc.grownBy w77 (some go74) := (by rw [hw]; exact HP76.2); have hp_ : Kd.R (Kd.int .i64) 3 w77 w.heap.size (fun _ => True) (.slice (some ⟨go74, 0, none⟩) x7_1.length co75) y325 := (by rw [hw, Ny325.out]; exact HP76.1); clear HP76; have n0_ := Aside0.mk (Kd.R_over' (v := (.slice (some ⟨go74, 0, none⟩) x7_1.length co75)) (by (with_reducible repeat (first | apply Kd.R_alloc | apply Kd.R_drewN | apply Kd.R_drew)); exact HO_5.out) (Kd.R_typed HO_7.out) (by decide) hg); have n1_ := Aside0.mk (hp_); have n2_ := Aside0.mk (Kd.R_over' (v := (.slice (some ⟨go74, 0, none⟩) x7_1.length co75)) (by (with_reducible repeat (first | apply Kd.R_alloc | apply Kd.R_drewN | apply Kd.R_drew)); exact HO_8.out) (Kd.R_typed HO_7.out) (by decide) hg); have n3_ := Aside0.mk (Kd.R_over' (v := (.slice (some ⟨go74, 0, none⟩) x7_1.length co75)) (by (with_reducible repeat (first | apply Kd.R_alloc | apply Kd.R_drewN | apply Kd.R_drew)); exact HO_17.out) (Kd.R_typed HO_7.out) (by decide) hg); have n4_ := Aside0.mk ((by rw [hw]; exact below_set (HB.out) GB74.out : Below w.heap.size w w77)); clear HO_5; clear HO_7; clear HO_8; clear HO_17; clear HB; have HO_5 := n0_; have HO_7 := n1_; have HO_8 := n2_; have HO_17 := n3_; have HB := n4_; clear n0_ n1_ n2_ n3_ n4_; clear hg hw hp_))
                                              repeat (go_quiet (first | (go_at_call 10; (with_reducible refine (undercroftlaw14_num.calls t317 t323 _ A69.out).mono ?_); rintro e w' ⟨rfl, ⟨nd, rfl⟩⟩; (try first | exact ⟨rfl, _, World.drewN_drewN _ _ _⟩ | exact ⟨rfl, _, Eq.trans (World.drewN_drewN _ _ _) (congrArg (World.drewN _) (Nat.add_assoc _ _ _))⟩); obtain ⟨Ao75, co75, eo75⟩ := Kd.R_slice HO_7.out; subst eo75; have p324 : 0 ≤ ((ji71) : Int) := of_decide_eq_true (by first | (with_reducible assumption) | assumption); have q324 : (ji71) < (x7_1.length : Int) := of_decide_eq_true (by first | (with_reducible assumption) | assumption); obtain ⟨ad324, e324, hx324_0⟩ := Kd.at_int (Kd.R_reads' HO_7.out).2.2 (ji71) p324 q324; cases e324; replace p324 := eq_true p324; replace q324 := eq_true q324; have p74 : 0 ≤ ((ji71) : Int) := of_decide_eq_true (by first | (with_reducible assumption) | assumption); have q74 : ((ji71) : Int) < ((x7_1.length : Int) : Int) := of_decide_eq_true (by first | (with_reducible assumption) | assumption); obtain ⟨go74, co74, eo74, gb74, gl74, cl74, HG74⟩ := Kd.R_form HO_7.out (by omega); (first | cases eo74 | (injection eo74 with ea_ en_ ec_; (first | subst ea_ | (injection ea_ with ea_; subst ea_)); subst ec_; clear en_)); have GB74 := Aside0.mk gb74; have GG74 := Aside0.mk HG74; clear gb74 gl74 HG74; (first | simp only [add_plain] at hx324_0 | skip); obtain ⟨hx74_0, hf74_0⟩ := Kd.R_celln 0 HO_7.out ((ji71) : Int) p74 q74; replace p74 := eq_true p74; replace q74 := eq_true q74; obtain ⟨hy76_, hz76_⟩ := Kd.R_celln 0 HO_7.out ((ji71) : Int) (of_decide_eq_true (by first | (with_reducible assumption) | assumption)) (of_decide_eq_true (by first | (with_reducible assumption) | assumption)); have HP76 := Kd.R_putg HO_7.out ((ji71) : Int) (wrap64 ((rd x7_1 (ji71)) - 1))) | ((with_reducible refine gate_store (t := 3) (p := 170) rfl ?_); (try (rw [drewN_self wc]; generalize hq_ : World.drewN wc _ = wc; have n0_ := Aside0.mk (Kd.R_at hq_ HO_5.out); have n1_ := Aside0.mk (Kd.R_at hq_ HO_7.out); have n2_ := Aside0.mk (Kd.R_at hq_ HO_8.out); have n3_ := Aside0.mk (Kd.R_at hq_ HO_17.out); have n4_ := Aside0.mk (below_at hq_ HB.out); clear hq_ HO_5 HO_7 HO_8 HO_17 HB; have HO_5 := n0_; have HO_7 := n1_; have HO_8 := n2_; have HO_17 := n3_; have HB := n4_; clear n0_ n1_ n2_ n3_ n4_; (try (obtain ⟨hy76_, hz76_⟩ := Kd.R_celln 0 HO_7.out ((ji71) : Int) (of_decide_eq_true (by first | (with_reducible assumption) | assumption)) (of_decide_eq_true (by first | (with_reducible assumption) | assumption)))); (try (have HP76 := Kd.R_putg HO_7.out ((ji71) : Int) (wrap64 ((rd x7_1 (ji71)) - 1)))))); refine store_event (t := 3) (p := 170) (v := ?vo_w77) (w1 := (wc.setCell ⟨go74, ((ji71) : Int).toNat, none⟩ (.int .i64 (wrap64 ((rd x7_1 (ji71)) - 1))))) ?hg ?ho ?hn ?hr ?_; (case ho => rfl); (case hg => rfl); (case hn => rfl); (case hr => first | (go_simp; done) | (go_simp; rfl)); intro w77 hw; have hg : wc.grownBy w77 (some go74) := (by rw [hw]; exact HP76.2); have hp_ : Kd.R (Kd.int .i64) 3 w77 w.heap.size (fun _ => True) (.slice (some ⟨go74, 0, none⟩) x7_1.length co75) y325 := (by rw [hw, Ny325.out]; exact HP76.1); clear HP76; have n0_ := Aside0.mk (Kd.R_over' (v := (.slice (some ⟨go74, 0, none⟩) x7_1.length co75)) (by (with_reducible repeat (first | apply Kd.R_alloc | apply Kd.R_drewN | apply Kd.R_drew)); exact HO_5.out) (Kd.R_typed HO_7.out) (by decide) hg); have n1_ := Aside0.mk (hp_); have n2_ := Aside0.mk (Kd.R_over' (v := (.slice (some ⟨go74, 0, none⟩) x7_1.length co75)) (by (with_reducible repeat (first | apply Kd.R_alloc | apply Kd.R_drewN | apply Kd.R_drew)); exact HO_8.out) (Kd.R_typed HO_7.out) (by decide) hg); have n3_ := Aside0.mk (Kd.R_over' (v := (.slice (some ⟨go74, 0, none⟩) x7_1.length co75)) (by (with_reducible repeat (first | apply Kd.R_alloc | apply Kd.R_drewN | apply Kd.R_drew)); exact HO_17.out) (Kd.R_typed HO_7.out) (by decide) hg); have n4_ := Aside0.mk ((by rw [hw]; exact below_set (HB.out) GB74.out : Below w.heap.size w w77)); clear HO_5; clear HO_7; clear HO_8; clear HO_17; clear HB; have HO_5 := n0_; have HO_7 := n1_; have HO_8 := n2_; have HO_17 := n3_; have HB := n4_; clear n0_ n1_ n2_ n3_ n4_; clear hg hw hp_)); try go_wp2_with (first | (go_at_call 10; (with_reducible refine (undercroftlaw14_num.calls t317 t323 _ A69.out).mono ?_); rintro e w' ⟨rfl, ⟨nd, rfl⟩⟩; (try first | exact ⟨rfl, _, World.drewN_drewN _ _ _⟩ | exact ⟨rfl, _, Eq.trans (World.drewN_drewN _ _ _) (congrArg (World.drewN _) (Nat.add_assoc _ _ _))⟩); obtain ⟨Ao75, co75, eo75⟩ := Kd.R_slice HO_7.out; subst eo75; have p324 : 0 ≤ ((ji71) : Int) := of_decide_eq_true (by first | (with_reducible assumption) | assumption); have q324 : (ji71) < (x7_1.length : Int) := of_decide_eq_true (by first | (with_reducible assumption) | assumption); obtain ⟨ad324, e324, hx324_0⟩ := Kd.at_int (Kd.R_reads' HO_7.out).2.2 (ji71) p324 q324; cases e324; replace p324 := eq_true p324; replace q324 := eq_true q324; have p74 : 0 ≤ ((ji71) : Int) := of_decide_eq_true (by first | (with_reducible assumption) | assumption); have q74 : ((ji71) : Int) < ((x7_1.length : Int) : Int) := of_decide_eq_true (by first | (with_reducible assumption) | assumption); obtain ⟨go74, co74, eo74, gb74, gl74, cl74, HG74⟩ := Kd.R_form HO_7.out (by omega); (first | cases eo74 | (injection eo74 with ea_ en_ ec_; (first | subst ea_ | (injection ea_ with ea_; subst ea_)); subst ec_; clear en_)); have GB74 := Aside0.mk gb74; have GG74 := Aside0.mk HG74; clear gb74 gl74 HG74; (first | simp only [add_plain] at hx324_0 | skip); obtain ⟨hx74_0, hf74_0⟩ := Kd.R_celln 0 HO_7.out ((ji71) : Int) p74 q74; replace p74 := eq_true p74; replace q74 := eq_true q74; obtain ⟨hy76_, hz76_⟩ := Kd.R_celln 0 HO_7.out ((ji71) : Int) (of_decide_eq_true (by first | (with_reducible assumption) | assumption)) (of_decide_eq_true (by first | (with_reducible assumption) | assumption)); have HP76 := Kd.R_putg HO_7.out ((ji71) : Int) (wrap64 ((rd x7_1 (ji71)) - 1))) | ((with_reducible refine gate_store (t := 3) (p := 170) rfl ?_); (try (rw [drewN_self wc]; generalize hq_ : World.drewN wc _ = wc; have n0_ := Aside0.mk (Kd.R_at hq_ HO_5.out); have n1_ := Aside0.mk (Kd.R_at hq_ HO_7.out); have n2_ := Aside0.mk (Kd.R_at hq_ HO_8.out); have n3_ := Aside0.mk (Kd.R_at hq_ HO_17.out); have n4_ := Aside0.mk (below_at hq_ HB.out); clear hq_ HO_5 HO_7 HO_8 HO_17 HB; have HO_5 := n0_; have HO_7 := n1_; have HO_8 := n2_; have HO_17 := n3_; have HB := n4_; clear n0_ n1_ n2_ n3_ n4_; (try (obtain ⟨hy76_, hz76_⟩ := Kd.R_celln 0 HO_7.out ((ji71) : Int) (of_decide_eq_true (by first | (with_reducible assumption) | assumption)) (of_decide_eq_true (by first | (with_reducible assumption) | assumption)))); (try (have HP76 := Kd.R_putg HO_7.out ((ji71) : Int) (wrap64 ((rd x7_1 (ji71)) - 1)))))); refine store_event (t := 3) (p := 170) (v := ?vo_w77) (w1 := (wc.setCell ⟨go74, ((ji71) : Int).toNat, none⟩ (.int .i64 (wrap64 ((rd x7_1 (ji71)) - 1))))) ?hg ?ho ?hn ?hr ?_; (case ho => rfl); (case hg => rfl); (case hn => rfl); (case hr => first | (go_simp; done) | (go_simp; rfl)); intro w77 hw; have hg : wc.grownBy w77 (some go74) := (by rw [hw]; exact HP76.2); have hp_ : Kd.R (Kd.int .i64) 3 w77 w.heap.size (fun _ => True) (.slice (some ⟨go74, 0, none⟩) x7_1.length co75) y325 := (by rw [hw, Ny325.out]; exact HP76.1); clear HP76; have n0_ := Aside0.mk (Kd.R_over' (v := (.slice (some ⟨go74, 0, none⟩) x7_1.length co75)) (by (with_reducible repeat (first | apply Kd.R_alloc | apply Kd.R_drewN | apply Kd.R_drew)); exact HO_5.out) (Kd.R_typed HO_7.out) (by decide) hg); have n1_ := Aside0.mk (hp_); have n2_ := Aside0.mk (Kd.R_over' (v := (.slice (some ⟨go74, 0, none⟩) x7_1.length co75)) (by (with_reducible repeat (first | apply Kd.R_alloc | apply Kd.R_drewN | apply Kd.R_drew)); exact HO_8.out) (Kd.R_typed HO_7.out) (by decide) hg); have n3_ := Aside0.mk (Kd.R_over' (v := (.slice (some ⟨go74, 0, none⟩) x7_1.length co75)) (by (with_reducible repeat (first | apply Kd.R_alloc | apply Kd.R_drewN | apply Kd.R_drew)); exact HO_17.out) (Kd.R_typed HO_7.out) (by decide) hg); have n4_ := Aside0.mk ((by rw [hw]; exact below_set (HB.out) GB74.out : Below w.heap.size w w77)); clear HO_5; clear HO_7; clear HO_8; clear HO_17; clear HB; have HO_5 := n0_; have HO_7 := n1_; have HO_8 := n2_; have HO_17 := n3_; have HB := n4_; clear n0_ n1_ n2_ n3_ n4_; clear hg hw hp_)))
                                              (try subst hji59); (try subst hji71); (try subst hji84); (try subst hji96)
                                              go_meet
                                              case rel => exact ⟨_, (t316), (y325), (x8_1), H', ⟨by have := HK1.out; have := HJ17.out; have := HJ54.out; first | omega | exact Nat.le_refl _⟩, ⟨by (with_reducible repeat (first | apply Kd.R_alloc | apply Kd.R_drewN | apply Kd.R_drew)); exact Kd.R_mono HO_17.out (fun _ hk => trivial)⟩, ⟨by (with_reducible repeat (first | apply Kd.R_alloc | apply Kd.R_drewN | apply Kd.R_drew)); exact HO_7.out⟩, ⟨by (with_reducible repeat (first | apply Kd.R_alloc | apply Kd.R_drewN | apply Kd.R_drew)); exact HO_8.out⟩, ⟨by repeat (first | (with_reducible first | exact HB.out | apply below_alloc | apply pw_below_drewN | apply below_drew1) | exact HB.out)⟩⟩
                                            · rw [if_neg c73] at H
                                              exact absurd H (by simp)
                                          · rw [if_neg c72] at H
                                            exact absurd H (by simp)
                                        · rw [if_neg c70] at H
                                          have c70b0 : (t323 == 0) = false := beq_eq_false_iff_ne.mpr c70
                                          have c70b1 : (t323 != 0) = true := bne_iff_ne.mpr c70
                                          have H' := Aside0.mk H
                                          clear H
                                          go_wp2_with (first | (go_at_call 10; (with_reducible refine (undercroftlaw14_num.calls t317 t323 _ A69.out).mono ?_); rintro e w' ⟨rfl, ⟨nd, rfl⟩⟩; (try first | exact ⟨rfl, _, World.drewN_drewN _ _ _⟩ | exact ⟨rfl, _, Eq.trans (World.drewN_drewN _ _ _) (congrArg (World.drewN _) (Nat.add_assoc _ _ _))⟩)))
                                          repeat (go_quiet (first | (go_at_call 10; (with_reducible refine (undercroftlaw14_num.calls t317 t323 _ A69.out).mono ?_); rintro e w' ⟨rfl, ⟨nd, rfl⟩⟩; (try first | exact ⟨rfl, _, World.drewN_drewN _ _ _⟩ | exact ⟨rfl, _, Eq.trans (World.drewN_drewN _ _ _) (congrArg (World.drewN _) (Nat.add_assoc _ _ _))⟩))); try go_wp2_with (first | (go_at_call 10; (with_reducible refine (undercroftlaw14_num.calls t317 t323 _ A69.out).mono ?_); rintro e w' ⟨rfl, ⟨nd, rfl⟩⟩; (try first | exact ⟨rfl, _, World.drewN_drewN _ _ _⟩ | exact ⟨rfl, _, Eq.trans (World.drewN_drewN _ _ _) (congrArg (World.drewN _) (Nat.add_assoc _ _ _))⟩))))
                                          (try subst hji59); (try subst hji71); (try subst hji84); (try subst hji96)
                                          go_meet
                                          case rel => exact ⟨_, (x5_1), (x7_1), (x8_1), H', ⟨by have := HK1.out; have := HJ17.out; have := HJ54.out; first | omega | exact Nat.le_refl _⟩, ⟨by (with_reducible repeat (first | apply Kd.R_alloc | apply Kd.R_drewN | apply Kd.R_drew)); exact Kd.R_mono HO_5.out (fun _ hk => trivial)⟩, ⟨by (with_reducible repeat (first | apply Kd.R_alloc | apply Kd.R_drewN | apply Kd.R_drew)); exact HO_7.out⟩, ⟨by (with_reducible repeat (first | apply Kd.R_alloc | apply Kd.R_drewN | apply Kd.R_drew)); exact HO_8.out⟩, ⟨by repeat (first | (with_reducible first | exact HB.out | apply below_alloc | apply pw_below_drewN | apply below_drew1) | exact HB.out)⟩⟩
                                · rw [if_neg c53] at H
                                  have c53b0 : ((Int.tmod (wrap64 ((Int.tmod ((rd_T56 l1 x9_1).f0) 3) + 3)) 3) == 1) = false := beq_eq_false_iff_ne.mpr c53
                                  have c53b1 : ((Int.tmod (wrap64 ((Int.tmod ((rd_T56 l1 x9_1).f0) 3) + 3)) 3) != 1) = true := bne_iff_ne.mpr c53
                                  by_cases c78 : (Int.tmod (wrap64 ((Int.tmod ((rd_T56 l1 x9_1).f0) 3) + 3)) 3) = 2
                                  · rw [if_pos c78] at H
                                    have c78b0 : ((Int.tmod (wrap64 ((Int.tmod ((rd_T56 l1 x9_1).f0) 3) + 3)) 3) == 2) = true := beq_iff_eq.mpr c78
                                    have c78b1 : ((Int.tmod (wrap64 ((Int.tmod ((rd_T56 l1 x9_1).f0) 3) + 3)) 3) != 2) = false := bne_eq_false_iff_eq.mpr c78
                                    clear c78
                                    replace H := Option.bind_eq_some_iff.mp H
                                    obtain ⟨⟨t326, t327⟩, A790, H⟩ := H
                                    replace H : ((undercroftlaw14_num.f t327).bind fun t330 => (if 0 ≤ (Int.tmod (wrap64 ((Int.tmod ((rd_T56 l1 x9_1).f1) ji8) + ji8)) ji8) then (if (Int.tmod (wrap64 ((Int.tmod ((rd_T56 l1 x9_1).f1) ji8) + ji8)) ji8) < (x8_1.length : Int) then (if rdOf false x8_1 (Int.tmod (wrap64 ((Int.tmod ((rd_T56 l1 x9_1).f1) ji8) + ji8)) ji8) = true then (if (Int.tmod (wrap64 ((Int.tmod ((rd_T56 l1 x9_1).f1) ji8) + ji8)) ji8) < (x7_1.length : Int) then (undercroftlaw14_TableOnce.j4 kj17 ji8 l1 x5_1 x7_1 x8_1 x9_1 (Int.tmod (wrap64 ((Int.tmod ((rd_T56 l1 x9_1).f1) ji8) + ji8)) ji8) t326 t327 ((t330 == 0) != ((rd x7_1 (Int.tmod (wrap64 ((Int.tmod ((rd_T56 l1 x9_1).f1) ji8) + ji8)) ji8)) == 0))) else (none)) else (undercroftlaw14_TableOnce.j4 kj17 ji8 l1 x5_1 x7_1 x8_1 x9_1 (Int.tmod (wrap64 ((Int.tmod ((rd_T56 l1 x9_1).f1) ji8) + ji8)) ji8) t326 t327 ((t330 == 0) != false))) else (none)) else (none))) = some r := H
                                    have A79 := Aside0.mk A790
                                    clear A790
                                    have HC80 := Aside0.mk H
                                    clear H
                                    obtain ⟨Ao81, co81, eo81⟩ := Kd.R_slice HO_5.out
                                    subst eo81
                                    go_upto_region 37 with (first | (go_at_call 15; (with_reducible refine (table_Free.calls _ _ x5_1 (Int.tmod (wrap64 ((Int.tmod ((rd_T56 l1 x9_1).f1) ji8) + ji8)) ji8) t326 t327 _ ?side1 ?side2 A79.out).mono ?_); (case side1 => repeat (first | exact (Kd.R_reads' HO_5.out).2.2 | (with_reducible refine Kd.C_alloc ?_ _) | (with_reducible refine Kd.C_drewN ?_ _) | (with_reducible refine Kd.C_drew ?_))); (case side2 => exact (Kd.R_reads' HO_5.out).2.1); rintro e w82 ⟨v328, rfl, ho0, hb⟩; have n0_ := Aside0.mk (Kd.R_elder' (by (with_reducible repeat (first | apply Kd.R_alloc | apply Kd.R_drewN | apply Kd.R_drew)); exact HO_5.out) (Kd.R_base ho0) hb); have n1_ := Aside0.mk (Kd.R_below (by (with_reducible repeat (first | apply Kd.R_alloc | apply Kd.R_drewN | apply Kd.R_drew)); exact HO_7.out) hb); have n2_ := Aside0.mk (Kd.R_below (by (with_reducible repeat (first | apply Kd.R_alloc | apply Kd.R_drewN | apply Kd.R_drew)); exact HO_8.out) hb); have n3_ := Aside0.mk (Kd.R_lower (Kd.R_new' ho0 (Kd.R_lt (by (with_reducible repeat (first | apply Kd.R_alloc | apply Kd.R_drewN | apply Kd.R_drew)); exact HO_5.out))) (below_size (by repeat (first | (with_reducible first | exact HB.out | apply below_alloc | apply pw_below_drewN | apply below_drew1) | exact HB.out)))); have n4_ := Aside0.mk (below_step (by repeat (first | (with_reducible first | exact HB.out | apply below_alloc | apply pw_below_drewN | apply below_drew1) | exact HB.out)) hb); clear HO_5; clear HO_7; clear HO_8; clear HB; have HO_5 := n0_; have HO_7 := n1_; have HO_8 := n2_; have HO329 := n3_; have HB := n4_; clear n0_ n1_ n2_ n3_ n4_; (try clear hb); (try clear hb2); (try clear hk); (try clear hi); (try clear ho0)))
                                    repeat (go_quiet (first | (go_at_call 15; (with_reducible refine (table_Free.calls _ _ x5_1 (Int.tmod (wrap64 ((Int.tmod ((rd_T56 l1 x9_1).f1) ji8) + ji8)) ji8) t326 t327 _ ?side1 ?side2 A79.out).mono ?_); (case side1 => repeat (first | exact (Kd.R_reads' HO_5.out).2.2 | (with_reducible refine Kd.C_alloc ?_ _) | (with_reducible refine Kd.C_drewN ?_ _) | (with_reducible refine Kd.C_drew ?_))); (case side2 => exact (Kd.R_reads' HO_5.out).2.1); rintro e w82 ⟨v328, rfl, ho0, hb⟩; have n0_ := Aside0.mk (Kd.R_elder' (by (with_reducible repeat (first | apply Kd.R_alloc | apply Kd.R_drewN | apply Kd.R_drew)); exact HO_5.out) (Kd.R_base ho0) hb); have n1_ := Aside0.mk (Kd.R_below (by (with_reducible repeat (first | apply Kd.R_alloc | apply Kd.R_drewN | apply Kd.R_drew)); exact HO_7.out) hb); have n2_ := Aside0.mk (Kd.R_below (by (with_reducible repeat (first | apply Kd.R_alloc | apply Kd.R_drewN | apply Kd.R_drew)); exact HO_8.out) hb); have n3_ := Aside0.mk (Kd.R_lower (Kd.R_new' ho0 (Kd.R_lt (by (with_reducible repeat (first | apply Kd.R_alloc | apply Kd.R_drewN | apply Kd.R_drew)); exact HO_5.out))) (below_size (by repeat (first | (with_reducible first | exact HB.out | apply below_alloc | apply pw_below_drewN | apply below_drew1) | exact HB.out)))); have n4_ := Aside0.mk (below_step (by repeat (first | (with_reducible first | exact HB.out | apply below_alloc | apply pw_below_drewN | apply below_drew1) | exact HB.out)) hb); clear HO_5; clear HO_7; clear HO_8; clear HB; have HO_5 := n0_; have HO_7 := n1_; have HO_8 := n2_; have HO329 := n3_; have HB := n4_; clear n0_ n1_ n2_ n3_ n4_; (try clear hb); (try clear hb2); (try clear hk); (try clear hi); (try clear ho0))); go_upto_region 37 with (first | (go_at_call 15; (with_reducible refine (table_Free.calls _ _ x5_1 (Int.tmod (wrap64 ((Int.tmod ((rd_T56 l1 x9_1).f1) ji8) + ji8)) ji8) t326 t327 _ ?side1 ?side2 A79.out).mono ?_); (case side1 => repeat (first | exact (Kd.R_reads' HO_5.out).2.2 | (with_reducible refine Kd.C_alloc ?_ _) | (with_reducible refine Kd.C_drewN ?_ _) | (with_reducible refine Kd.C_drew ?_))); (case side2 => exact (Kd.R_reads' HO_5.out).2.1); rintro e w82 ⟨v328, rfl, ho0, hb⟩; have n0_ := Aside0.mk (Kd.R_elder' (by (with_reducible repeat (first | apply Kd.R_alloc | apply Kd.R_drewN | apply Kd.R_drew)); exact HO_5.out) (Kd.R_base ho0) hb); have n1_ := Aside0.mk (Kd.R_below (by (with_reducible repeat (first | apply Kd.R_alloc | apply Kd.R_drewN | apply Kd.R_drew)); exact HO_7.out) hb); have n2_ := Aside0.mk (Kd.R_below (by (with_reducible repeat (first | apply Kd.R_alloc | apply Kd.R_drewN | apply Kd.R_drew)); exact HO_8.out) hb); have n3_ := Aside0.mk (Kd.R_lower (Kd.R_new' ho0 (Kd.R_lt (by (with_reducible repeat (first | apply Kd.R_alloc | apply Kd.R_drewN | apply Kd.R_drew)); exact HO_5.out))) (below_size (by repeat (first | (with_reducible first | exact HB.out | apply below_alloc | apply pw_below_drewN | apply below_drew1) | exact HB.out)))); have n4_ := Aside0.mk (below_step (by repeat (first | (with_reducible first | exact HB.out | apply below_alloc | apply pw_below_drewN | apply below_drew1) | exact HB.out)) hb); clear HO_5; clear HO_7; clear HO_8; clear HB; have HO_5 := n0_; have HO_7 := n1_; have HO_8 := n2_; have HO329 := n3_; have HB := n4_; clear n0_ n1_ n2_ n3_ n4_; (try clear hb); (try clear hb2); (try clear hk); (try clear hi); (try clear ho0))))
                                    (try simp only [Act.put, List.setIfInBounds_toArray, List.set_cons_zero, List.set_cons_succ])
                                    go_cut [193] (fun v193 wc => ∃ (kq : Nat) (x193_79 : Bool), v193 = .bool x193_79 ∧ Aside0 (undercroftlaw14_TableOnce.j4 kq ji8 l1 x5_1 x7_1 x8_1 x9_1 (Int.tmod (wrap64 ((Int.tmod ((rd_T56 l1 x9_1).f1) ji8) + ji8)) ji8) t326 t327 x193_79 = some r) ∧ Aside0 (kq ≤ kj17) ∧ Aside0 (Kd.R k39 39 wc w.heap.size (fun k_ => some k_ ≠ (v328 : Value).ownBlock) (.slice Ao81 x5_1.length co81) x5_1) ∧ Aside0 (Kd.R (Kd.int .i64) 3 wc w.heap.size (fun _ => True) v297 x7_1) ∧ Aside0 (Kd.R Kd.bool 4 wc w.heap.size (fun _ => True) v300 x8_1) ∧ Aside0 (Kd.R k39 39 wc w.heap.size (fun k_ => some k_ ≠ ((.slice Ao81 x5_1.length co81) : Value).ownBlock) v328 t326) ∧ Aside0 (Below w.heap.size w wc))
                                    case first => as_aux_lemma =>
                                      have H := HC80.out
                                      clear HC80
                                      replace H := Option.bind_eq_some_iff.mp H
                                      obtain ⟨t330, A830, H⟩ := H
                                      replace H : (if 0 ≤ (Int.tmod (wrap64 ((Int.tmod ((rd_T56 l1 x9_1).f1) ji8) + ji8)) ji8) then (if (Int.tmod (wrap64 ((Int.tmod ((rd_T56 l1 x9_1).f1) ji8) + ji8)) ji8) < (x8_1.length : Int) then (if rdOf false x8_1 (Int.tmod (wrap64 ((Int.tmod ((rd_T56 l1 x9_1).f1) ji8) + ji8)) ji8) = true then (if (Int.tmod (wrap64 ((Int.tmod ((rd_T56 l1 x9_1).f1) ji8) + ji8)) ji8) < (x7_1.length : Int) then (undercroftlaw14_TableOnce.j4 kj17 ji8 l1 x5_1 x7_1 x8_1 x9_1 (Int.tmod (wrap64 ((Int.tmod ((rd_T56 l1 x9_1).f1) ji8) + ji8)) ji8) t326 t327 ((t330 == 0) != ((rd x7_1 (Int.tmod (wrap64 ((Int.tmod ((rd_T56 l1 x9_1).f1) ji8) + ji8)) ji8)) == 0))) else (none)) else (undercroftlaw14_TableOnce.j4 kj17 ji8 l1 x5_1 x7_1 x8_1 x9_1 (Int.tmod (wrap64 ((Int.tmod ((rd_T56 l1 x9_1).f1) ji8) + ji8)) ji8) t326 t327 ((t330 == 0) != false))) else (none)) else (none)) = some r := H
                                      have A83 := Aside0.mk A830
                                      clear A830
                                      obtain ⟨ji84, hji84⟩ : ∃ j_ : Int, (Int.tmod (wrap64 ((Int.tmod ((rd_T56 l1 x9_1).f1) ji8) + ji8)) ji8) = j_ := ⟨_, rfl⟩
                                      replace H : (if 0 ≤ (ji84) then (if (ji84) < (x8_1.length : Int) then (if rdOf false x8_1 (ji84) = true then (if (ji84) < (x7_1.length : Int) then (undercroftlaw14_TableOnce.j4 kj17 ji8 l1 x5_1 x7_1 x8_1 x9_1 ji84 t326 t327 ((t330 == 0) != ((rd x7_1 (ji84)) == 0))) else (none)) else (undercroftlaw14_TableOnce.j4 kj17 ji8 l1 x5_1 x7_1 x8_1 x9_1 ji84 t326 t327 ((t330 == 0) != false))) else (none)) else (none)) = some r := by first | (rw [hji84] at H; exact H) | (simp only [hji84] at H ⊢; exact H)
                                      (try rw [hji84] at A83)
                                      by_cases c85 : 0 ≤ (ji84)
                                      · rw [if_pos c85] at H
                                        have c85b0 : decide (0 ≤ (ji84)) = true := decide_eq_true c85
                                        clear c85
                                        (first | rw [c85b0] | (simp only [i64_w, i32_w]; rw [c85b0]) | skip)
                                        by_cases c86 : (ji84) < (x8_1.length : Int)
                                        · rw [if_pos c86] at H
                                          have c86b0 : decide ((ji84) < (x8_1.length : Int)) = true := decide_eq_true c86
                                          clear c86
                                          obtain ⟨bq87, hbq87⟩ : ∃ b_ : Bool, b_ = (rdOf false x8_1 (ji84)) := ⟨_, rfl⟩
                                          replace H : (if bq87 = true then (if (ji84) < (x7_1.length : Int) then (undercroftlaw14_TableOnce.j4 kj17 ji8 l1 x5_1 x7_1 x8_1 x9_1 ji84 t326 t327 ((t330 == 0) != ((rd x7_1 (ji84)) == 0))) else (none)) else (undercroftlaw14_TableOnce.j4 kj17 ji8 l1 x5_1 x7_1 x8_1 x9_1 ji84 t326 t327 ((t330 == 0) != false))) = some r := by rw [← hbq87] at H; exact H
                                          have Nbq87 := Aside0.mk hbq87
                                          clear hbq87
                                          by_cases c88 : bq87 = true
                                          · subst c88
                                            have H1 : (if (ji84) < (x7_1.length : Int) then (undercroftlaw14_TableOnce.j4 kj17 ji8 l1 x5_1 x7_1 x8_1 x9_1 ji84 t326 t327 ((t330 == 0) != ((rd x7_1 (ji84)) == 0))) else (none)) = some r := by rw [if_pos rfl] at H; exact H
                                            clear H
                                            have H := H1
                                            clear H1
                                            by_cases c89 : (ji84) < (x7_1.length : Int)
                                            · rw [if_pos c89] at H
                                              have c89b0 : decide ((ji84) < (x7_1.length : Int)) = true := decide_eq_true c89
                                              clear c89
                                              have H' := Aside0.mk H
                                              clear H
                                              go_wp2_with (first | (go_at_call 10; (with_reducible refine (undercroftlaw14_num.calls t327 t330 _ A83.out).mono ?_); rintro e w' ⟨rfl, ⟨nd, rfl⟩⟩; (try first | exact ⟨rfl, _, World.drewN_drewN _ _ _⟩ | exact ⟨rfl, _, Eq.trans (World.drewN_drewN _ _ _) (congrArg (World.drewN _) (Nat.add_assoc _ _ _))⟩); obtain ⟨Ao90, co90, eo90⟩ := Kd.R_slice HO_8.out; subst eo90; have p331 : 0 ≤ ((ji84) : Int) := of_decide_eq_true (by first | (with_reducible assumption) | assumption); have q331 : (ji84) < (x8_1.length : Int) := of_decide_eq_true (by first | (with_reducible assumption) | assumption); obtain ⟨ad331, e331, hx331_0⟩ := Kd.at_bool (Kd.R_reads' HO_8.out).2.2 (ji84) p331 q331; (try rw [← Nbq87.out] at hx331_0); cases e331; replace p331 := eq_true p331; replace q331 := eq_true q331; obtain ⟨Ao91, co91, eo91⟩ := Kd.R_slice HO_7.out; subst eo91; have p332 : 0 ≤ ((ji84) : Int) := of_decide_eq_true (by first | (with_reducible assumption) | assumption); have q332 : (ji84) < (x7_1.length : Int) := of_decide_eq_true (by first | (with_reducible assumption) | assumption); obtain ⟨ad332, e332, hx332_0⟩ := Kd.at_int (Kd.R_reads' HO_7.out).2.2 (ji84) p332 q332; cases e332; replace p332 := eq_true p332; replace q332 := eq_true q332))
                                              repeat (go_quiet (first | (go_at_call 10; (with_reducible refine (undercroftlaw14_num.calls t327 t330 _ A83.out).mono ?_); rintro e w' ⟨rfl, ⟨nd, rfl⟩⟩; (try first | exact ⟨rfl, _, World.drewN_drewN _ _ _⟩ | exact ⟨rfl, _, Eq.trans (World.drewN_drewN _ _ _) (congrArg (World.drewN _) (Nat.add_assoc _ _ _))⟩); obtain ⟨Ao90, co90, eo90⟩ := Kd.R_slice HO_8.out; subst eo90; have p331 : 0 ≤ ((ji84) : Int) := of_decide_eq_true (by first | (with_reducible assumption) | assumption); have q331 : (ji84) < (x8_1.length : Int) := of_decide_eq_true (by first | (with_reducible assumption) | assumption); obtain ⟨ad331, e331, hx331_0⟩ := Kd.at_bool (Kd.R_reads' HO_8.out).2.2 (ji84) p331 q331; (try rw [← Nbq87.out] at hx331_0); cases e331; replace p331 := eq_true p331; replace q331 := eq_true q331; obtain ⟨Ao91, co91, eo91⟩ := Kd.R_slice HO_7.out; subst eo91; have p332 : 0 ≤ ((ji84) : Int) := of_decide_eq_true (by first | (with_reducible assumption) | assumption); have q332 : (ji84) < (x7_1.length : Int) := of_decide_eq_true (by first | (with_reducible assumption) | assumption); obtain ⟨ad332, e332, hx332_0⟩ := Kd.at_int (Kd.R_reads' HO_7.out).2.2 (ji84) p332 q332; cases e332; replace p332 := eq_true p332; replace q332 := eq_true q332)); try go_wp2_with (first | (go_at_call 10; (with_reducible refine (undercroftlaw14_num.calls t327 t330 _ A83.out).mono ?_); rintro e w' ⟨rfl, ⟨nd, rfl⟩⟩; (try first | exact ⟨rfl, _, World.drewN_drewN _ _ _⟩ | exact ⟨rfl, _, Eq.trans (World.drewN_drewN _ _ _) (congrArg (World.drewN _) (Nat.add_assoc _ _ _))⟩); obtain ⟨Ao90, co90, eo90⟩ := Kd.R_slice HO_8.out; subst eo90; have p331 : 0 ≤ ((ji84) : Int) := of_decide_eq_true (by first | (with_reducible assumption) | assumption); have q331 : (ji84) < (x8_1.length : Int) := of_decide_eq_true (by first | (with_reducible assumption) | assumption); obtain ⟨ad331, e331, hx331_0⟩ := Kd.at_bool (Kd.R_reads' HO_8.out).2.2 (ji84) p331 q331; (try rw [← Nbq87.out] at hx331_0); cases e331; replace p331 := eq_true p331; replace q331 := eq_true q331; obtain ⟨Ao91, co91, eo91⟩ := Kd.R_slice HO_7.out; subst eo91; have p332 : 0 ≤ ((ji84) : Int) := of_decide_eq_true (by first | (with_reducible assumption) | assumption); have q332 : (ji84) < (x7_1.length : Int) := of_decide_eq_true (by first | (with_reducible assumption) | assumption); obtain ⟨ad332, e332, hx332_0⟩ := Kd.at_int (Kd.R_reads' HO_7.out).2.2 (ji84) p332 q332; cases e332; replace p332 := eq_true p332; replace q332 := eq_true q332)))
                                              (try subst hji59); (try subst hji71); (try subst hji84); (try subst hji96)
                                              go_meet
                                              case rel => exact ⟨_, (((t330 == 0) != ((rd x7_1 ((Int.tmod (wrap64 ((Int.tmod ((rd_T56 l1 x9_1).f1) ji8) + ji8)) ji8))) == 0))), (by first | rfl | (simp; done) | (simp only [← hji84] <;> (first | rfl | simp)) | (simp [*]; done)), H', ⟨by have := HK1.out; have := HJ17.out; first | omega | exact Nat.le_refl _⟩, ⟨by (with_reducible repeat (first | apply Kd.R_alloc | apply Kd.R_drewN | apply Kd.R_drew)); exact Kd.R_mono HO_5.out (fun _ hk => hk.2)⟩, ⟨by (with_reducible repeat (first | apply Kd.R_alloc | apply Kd.R_drewN | apply Kd.R_drew)); exact HO_7.out⟩, ⟨by (with_reducible repeat (first | apply Kd.R_alloc | apply Kd.R_drewN | apply Kd.R_drew)); exact HO_8.out⟩, ⟨by (with_reducible repeat (first | apply Kd.R_alloc | apply Kd.R_drewN | apply Kd.R_drew)); exact Kd.R_mono HO329.out (fun _ hk => hk.2)⟩, ⟨by repeat (first | (with_reducible first | exact HB.out | apply below_alloc | apply pw_below_drewN | apply below_drew1) | exact HB.out)⟩⟩
                                            · rw [if_neg c89] at H
                                              exact absurd H (by simp)
                                          · replace c88 := Bool.eq_false_iff.mpr c88
                                            subst c88
                                            have H1 : (undercroftlaw14_TableOnce.j4 kj17 ji8 l1 x5_1 x7_1 x8_1 x9_1 ji84 t326 t327 ((t330 == 0) != false)) = some r := by rw [if_neg (show ¬ (false = true) by decide)] at H; exact H
                                            clear H
                                            have H := H1
                                            clear H1
                                            have H' := Aside0.mk H
                                            clear H
                                            go_wp2_with (first | (go_at_call 10; (with_reducible refine (undercroftlaw14_num.calls t327 t330 _ A83.out).mono ?_); rintro e w' ⟨rfl, ⟨nd, rfl⟩⟩; (try first | exact ⟨rfl, _, World.drewN_drewN _ _ _⟩ | exact ⟨rfl, _, Eq.trans (World.drewN_drewN _ _ _) (congrArg (World.drewN _) (Nat.add_assoc _ _ _))⟩); obtain ⟨Ao92, co92, eo92⟩ := Kd.R_slice HO_8.out; subst eo92; have p331 : 0 ≤ ((ji84) : Int) := of_decide_eq_true (by first | (with_reducible assumption) | assumption); have q331 : (ji84) < (x8_1.length : Int) := of_decide_eq_true (by first | (with_reducible assumption) | assumption); obtain ⟨ad331, e331, hx331_0⟩ := Kd.at_bool (Kd.R_reads' HO_8.out).2.2 (ji84) p331 q331; (try rw [← Nbq87.out] at hx331_0); cases e331; replace p331 := eq_true p331; replace q331 := eq_true q331))
                                            repeat (go_quiet (first | (go_at_call 10; (with_reducible refine (undercroftlaw14_num.calls t327 t330 _ A83.out).mono ?_); rintro e w' ⟨rfl, ⟨nd, rfl⟩⟩; (try first | exact ⟨rfl, _, World.drewN_drewN _ _ _⟩ | exact ⟨rfl, _, Eq.trans (World.drewN_drewN _ _ _) (congrArg (World.drewN _) (Nat.add_assoc _ _ _))⟩); obtain ⟨Ao92, co92, eo92⟩ := Kd.R_slice HO_8.out; subst eo92; have p331 : 0 ≤ ((ji84) : Int) := of_decide_eq_true (by first | (with_reducible assumption) | assumption); have q331 : (ji84) < (x8_1.length : Int) := of_decide_eq_true (by first | (with_reducible assumption) | assumption); obtain ⟨ad331, e331, hx331_0⟩ := Kd.at_bool (Kd.R_reads' HO_8.out).2.2 (ji84) p331 q331; (try rw [← Nbq87.out] at hx331_0); cases e331; replace p331 := eq_true p331; replace q331 := eq_true q331)); try go_wp2_with (first | (go_at_call 10; (with_reducible refine (undercroftlaw14_num.calls t327 t330 _ A83.out).mono ?_); rintro e w' ⟨rfl, ⟨nd, rfl⟩⟩; (try first | exact ⟨rfl, _, World.drewN_drewN _ _ _⟩ | exact ⟨rfl, _, Eq.trans (World.drewN_drewN _ _ _) (congrArg (World.drewN _) (Nat.add_assoc _ _ _))⟩); obtain ⟨Ao92, co92, eo92⟩ := Kd.R_slice HO_8.out; subst eo92; have p331 : 0 ≤ ((ji84) : Int) := of_decide_eq_true (by first | (with_reducible assumption) | assumption); have q331 : (ji84) < (x8_1.length : Int) := of_decide_eq_true (by first | (with_reducible assumption) | assumption); obtain ⟨ad331, e331, hx331_0⟩ := Kd.at_bool (Kd.R_reads' HO_8.out).2.2 (ji84) p331 q331; (try rw [← Nbq87.out] at hx331_0); cases e331; replace p331 := eq_true p331; replace q331 := eq_true q331)))
                                            (try subst hji59); (try subst hji71); (try subst hji84); (try subst hji96)
                                            go_meet
                                            case rel => exact ⟨_, (((t330 == 0) != false)), (by first | rfl | (simp; done) | (simp [*]; done)), H', ⟨by have := HK1.out; have := HJ17.out; first | omega | exact Nat.le_refl _⟩, ⟨by (with_reducible repeat (first | apply Kd.R_alloc | apply Kd.R_drewN | apply Kd.R_drew)); exact Kd.R_mono HO_5.out (fun _ hk => hk.2)⟩, ⟨by (with_reducible repeat (first | apply Kd.R_alloc | apply Kd.R_drewN | apply Kd.R_drew)); exact HO_7.out⟩, ⟨by (with_reducible repeat (first | apply Kd.R_alloc | apply Kd.R_drewN | apply Kd.R_drew)); exact HO_8.out⟩, ⟨by (with_reducible repeat (first | apply Kd.R_alloc | apply Kd.R_drewN | apply Kd.R_drew)); exact Kd.R_mono HO329.out (fun _ hk => hk.2)⟩, ⟨by repeat (first | (with_reducible first | exact HB.out | apply below_alloc | apply pw_below_drewN | apply below_drew1) | exact HB.out)⟩⟩
                                        · rw [if_neg c86] at H
                                          exact absurd H (by simp)
                                      · rw [if_neg c85] at H
                                        exact absurd H (by simp)
                                    case rest => as_aux_lemma =>
                                      clear HC80
                                      try clear c1
                                      try clear c2
                                      try clear p2
                                      try clear c3
                                      try clear p3
                                      try clear q3
                                      try clear hx3
                                      try clear c4
                                      try clear p4
                                      try clear q4
                                      try clear hx4
                                      try clear hf4
                                      try clear c5
                                      try clear c6
                                      try clear p6
                                      try clear q6
                                      try clear c7
                                      try clear c7b0
                                      try clear c7b1
                                      try clear p7
                                      try clear q7
                                      try clear hx7
                                      try clear hf7
                                      try clear c8
                                      try clear q8
                                      try clear c9
                                      try clear c9b0
                                      try clear c9b1
                                      try clear c10
                                      try clear c10b0
                                      try clear c10b1
                                      try clear c11
                                      try clear c11b0
                                      try clear c11b1
                                      try clear c19
                                      try clear c19b0
                                      try clear c20
                                      try clear c21
                                      try clear c21b0
                                      try clear c22
                                      try clear c22b0
                                      try clear c23
                                      try clear c23b0
                                      try clear c23b1
                                      try clear c25
                                      try clear c25b0
                                      try clear c25b1
                                      try clear c29
                                      try clear c29b0
                                      try clear c30
                                      try clear p30
                                      try clear q30
                                      try clear hx30
                                      try clear c31
                                      try clear c31b0
                                      try clear p31
                                      try clear q31
                                      try clear hx31
                                      try clear c32
                                      try clear c32b0
                                      try clear p32
                                      try clear q32
                                      try clear hx32
                                      try clear p33
                                      try clear q33
                                      try clear hx33
                                      try clear c34
                                      try clear c36
                                      try clear c36b0
                                      try clear c36b1
                                      try clear c37
                                      try clear c37b0
                                      try clear c38
                                      try clear c38b0
                                      try clear c39
                                      try clear c39b0
                                      try clear c40
                                      try clear c40b0
                                      try clear q41
                                      try clear c42
                                      try clear p43
                                      try clear q43
                                      try clear hx43
                                      try clear hf43
                                      try clear c44
                                      try clear c44b0
                                      try clear p45
                                      try clear q45
                                      try clear hx45
                                      try clear hf45
                                      try clear c52
                                      try clear c52b0
                                      try clear c52b1
                                      try clear c53
                                      try clear c53b0
                                      try clear c53b1
                                      try clear c60
                                      try clear c60b0
                                      try clear c61
                                      try clear c61b0
                                      try clear q62
                                      try clear c63
                                      try clear c64
                                      try clear c64b0
                                      try clear p64
                                      try clear c68
                                      try clear c70
                                      try clear c70b0
                                      try clear c70b1
                                      try clear c72
                                      try clear c72b0
                                      try clear c73
                                      try clear c73b0
                                      try clear p74
                                      try clear q74
                                      try clear hx74
                                      try clear hf74
                                      try clear c78
                                      try clear c78b0
                                      try clear c78b1
                                      try clear c85
                                      try clear c85b0
                                      try clear c86
                                      try clear c86b0
                                      try clear q87
                                      try clear c88
                                      try clear c89
                                      try clear c89b0
                                      try clear hx302_0
                                      try clear hx302_1
                                      try clear hx302_2
                                      try clear hx303_0
                                      try clear hx303_1
                                      try clear hx303_2
                                      try clear hx304_0
                                      try clear hx304_1
                                      try clear hx304_2
                                      try clear hx310_0
                                      try clear hx312_0
                                      try clear hx321_0
                                      try clear hx322_0
                                      try clear hx324_0
                                      try clear hx331_0
                                      try clear hx332_0
                                      try clear hx43_0
                                      try clear hx45_0
                                      try clear hx74_0
                                      try clear p2
                                      try clear p3
                                      try clear p30
                                      try clear p302
                                      try clear p303
                                      try clear p304
                                      try clear p31
                                      try clear p310
                                      try clear p312
                                      try clear p32
                                      try clear p321
                                      try clear p322
                                      try clear p324
                                      try clear p331
                                      try clear p332
                                      try clear p4
                                      try clear p43
                                      try clear p45
                                      try clear p6
                                      try clear p64
                                      try clear p74
                                      try clear q3
                                      try clear q30
                                      try clear q302
                                      try clear q303
                                      try clear q304
                                      try clear q31
                                      try clear q310
                                      try clear q312
                                      try clear q32
                                      try clear q321
                                      try clear q322
                                      try clear q324
                                      try clear q331
                                      try clear q332
                                      try clear q4
                                      try clear q41
                                      try clear q43
                                      try clear q45
                                      try clear q6
                                      try clear q62
                                      try clear q74
                                      obtain ⟨kq, x193_79, rfl, HA, HJ79, HO_5, HO_7, HO_8, HO_19, HB⟩ := hcut
                                      cases kq with
                                      | zero => exact absurd HA.out (by simp [undercroftlaw14_TableOnce.j4])
                                      | succ kj79 =>
                                        have H := HA.out
                                        clear HA
                                        simp only [undercroftlaw14_TableOnce.j4] at H
                                        by_cases c93 : x193_79 = true
                                        · subst c93
                                          have H1 : (none) = some r := by rw [if_pos rfl] at H; exact H
                                          clear H
                                          have H := H1
                                          clear H1
                                          exact absurd H (by simp)
                                        · replace c93 := Bool.eq_false_iff.mpr c93
                                          subst c93
                                          have H1 : ((undercroftlaw14_num.f t327).bind fun t333 => (if t333 = 0 then (if 0 ≤ (Int.tmod (wrap64 ((Int.tmod ((rd_T56 l1 x9_1).f1) ji8) + ji8)) ji8) then (if (Int.tmod (wrap64 ((Int.tmod ((rd_T56 l1 x9_1).f1) ji8) + ji8)) ji8) < (x8_1.length : Int) then (undercroftlaw14_TableOnce.j5 kj79 ji8 l1 t326 x7_1 (x8_1.set ((Int.tmod (wrap64 ((Int.tmod ((rd_T56 l1 x9_1).f1) ji8) + ji8)) ji8) : Int).toNat false) x9_1) else (none)) else (none)) else (undercroftlaw14_TableOnce.j5 kj79 ji8 l1 x5_1 x7_1 x8_1 x9_1))) = some r := by rw [if_neg (show ¬ (false = true) by decide)] at H; exact H
                                          clear H
                                          have H := H1
                                          clear H1
                                          replace H := Option.bind_eq_some_iff.mp H
                                          obtain ⟨t333, A940, H⟩ := H
                                          replace H : (if t333 = 0 then (if 0 ≤ (Int.tmod (wrap64 ((Int.tmod ((rd_T56 l1 x9_1).f1) ji8) + ji8)) ji8) then (if (Int.tmod (wrap64 ((Int.tmod ((rd_T56 l1 x9_1).f1) ji8) + ji8)) ji8) < (x8_1.length : Int) then (undercroftlaw14_TableOnce.j5 kj79 ji8 l1 t326 x7_1 (x8_1.set ((Int.tmod (wrap64 ((Int.tmod ((rd_T56 l1 x9_1).f1) ji8) + ji8)) ji8) : Int).toNat false) x9_1) else (none)) else (none)) else (undercroftlaw14_TableOnce.j5 kj79 ji8 l1 x5_1 x7_1 x8_1 x9_1)) = some r := H
                                          have A94 := Aside0.mk A940
                                          clear A940
                                          by_cases c95 : t333 = 0
                                          · rw [if_pos c95] at H
                                            have c95b0 : (t333 == 0) = true := beq_iff_eq.mpr c95
                                            have c95b1 : (t333 != 0) = false := bne_eq_false_iff_eq.mpr c95
                                            clear c95
                                            obtain ⟨ji96, hji96⟩ : ∃ j_ : Int, (Int.tmod (wrap64 ((Int.tmod ((rd_T56 l1 x9_1).f1) ji8) + ji8)) ji8) = j_ := ⟨_, rfl⟩
                                            replace H : (if 0 ≤ (ji96) then (if (ji96) < (x8_1.length : Int) then (undercroftlaw14_TableOnce.j5 kj79 ji8 l1 t326 x7_1 (x8_1.set ((ji96) : Int).toNat false) x9_1) else (none)) else (none)) = some r := by first | (rw [hji96] at H; exact H) | (simp only [hji96] at H ⊢; exact H)
                                            (try rw [hji96] at A94)
                                            by_cases c97 : 0 ≤ (ji96)
                                            · rw [if_pos c97] at H
                                              have c97b0 : decide (0 ≤ (ji96)) = true := decide_eq_true c97
                                              clear c97
                                              by_cases c98 : (ji96) < (x8_1.length : Int)
                                              · rw [if_pos c98] at H
                                                have c98b0 : decide ((ji96) < (x8_1.length : Int)) = true := decide_eq_true c98
                                                clear c98
                                                obtain ⟨y334, hy334⟩ : ∃ y_ : List Bool, y_ = (x8_1.set ((ji96) : Int).toNat false) := ⟨_, rfl⟩
                                                replace H : (undercroftlaw14_TableOnce.j5 kj79 ji8 l1 t326 x7_1 y334 x9_1) = some r := by first | (rw [hy334]; with_reducible exact H) | (have H2_ := (Option.bind_some _ _).symm.trans H; rw [hy334]; with_reducible exact H2_) | (have H2_ := (Option.bind_some _ _).symm.trans H; with_reducible exact H2_) | with_reducible exact H | (rw [hy334]; exact H) | exact H
                                                have Ny334 := Aside0.mk hy334
                                                clear hy334
                                                have H' := Aside0.mk H
                                                clear H
                                                go_wp2_with (first | (go_at_call 10; (with_reducible refine (undercroftlaw14_num.calls t327 t333 _ A94.out).mono ?_); rintro e w' ⟨rfl, ⟨nd, rfl⟩⟩; (try first | exact ⟨rfl, _, World.drewN_drewN _ _ _⟩ | exact ⟨rfl, _, Eq.trans (World.drewN_drewN _ _ _) (congrArg (World.drewN _) (Nat.add_assoc _ _ _))⟩); have p99 : 0 ≤ ((ji96) : Int) := of_decide_eq_true (by first | (with_reducible assumption) | assumption); have q99 : ((ji96) : Int) < ((x8_1.length : Int) : Int) := of_decide_eq_true (by first | (with_reducible assumption) | assumption); obtain ⟨go99, co99, eo99, gb99, gl99, cl99, HG99⟩ := Kd.R_form HO_8.out (by omega); (first | cases eo99 | (injection eo99 with ea_ en_ ec_; (first | subst ea_ | (injection ea_ with ea_; subst ea_)); subst ec_; clear en_)); have GB99 := Aside0.mk gb99; have GG99 := Aside0.mk HG99; clear gb99 gl99 HG99; obtain ⟨hx99_0, hf99_0⟩ := Kd.R_celln false HO_8.out ((ji96) : Int) p99 q99; replace p99 := eq_true p99; replace q99 := eq_true q99; obtain ⟨hy100_, hz100_⟩ := Kd.R_celln false HO_8.out ((ji96) : Int) (of_decide_eq_true (by first | (with_reducible assumption) | assumption)) (of_decide_eq_true (by first | (with_reducible assumption) | assumption)); have HP100 := Kd.R_putg HO_8.out ((ji96) : Int) false) | ((with_reducible refine gate_store (t := 4) (p := 200) rfl ?_); (try (rw [drewN_self wc]; generalize hq_ : World.drewN wc _ = wc; have n0_ := Aside0.mk (Kd.R_at hq_ HO_5.out); have n1_ := Aside0.mk (Kd.R_at hq_ HO_7.out); have n2_ := Aside0.mk (Kd.R_at hq_ HO_8.out); have n3_ := Aside0.mk (Kd.R_at hq_ HO_19.out); have n4_ := Aside0.mk (below_at hq_ HB.out); clear hq_ HO_5 HO_7 HO_8 HO_19 HB; have HO_5 := n0_; have HO_7 := n1_; have HO_8 := n2_; have HO_19 := n3_; have HB := n4_; clear n0_ n1_ n2_ n3_ n4_; (try (obtain ⟨hy100_, hz100_⟩ := Kd.R_celln false HO_8.out ((ji96) : Int) (of_decide_eq_true (by first | (with_reducible assumption) | assumption)) (of_decide_eq_true (by first | (with_reducible assumption) | assumption)))); (try (have HP100 := Kd.R_putg HO_8.out ((ji96) : Int) false)))); refine store_event (t := 4) (p := 200) (v := ?vo_w101) (w1 := (wc.setCell ⟨go99, ((ji96) : Int).toNat, none⟩ (.bool false))) ?hg ?ho ?hn ?hr ?_; (case ho => rfl); (case hg => rfl); (case hn => rfl); (case hr => first | (go_simp; done) | (go_simp; rfl)); intro w101 hw; have hg : wc.grownBy w101 (some go99) := (by rw [hw]; exact HP100.2); have hp_ : Kd.R Kd.bool 4 w101 w.heap.size (fun _ => True) (.slice (some ⟨go99, 0, none⟩) x8_1.length co99) y334 := (by rw [hw, Ny334.out]; exact HP100.1); clear HP100; have n0_ := Aside0.mk (Kd.R_over' (v := (.slice (some ⟨go99, 0, none⟩) x8_1.length co99)) (by (with_reducible repeat (first | apply Kd.R_alloc | apply Kd.R_drewN | apply Kd.R_drew)); exact HO_5.out) (Kd.R_typed HO_8.out) (by decide) hg); have n1_ := Aside0.mk (Kd.R_over' (v := (.slice (some ⟨go99, 0, none⟩) x8_1.length co99)) (by (with_reducible repeat (first | apply Kd.R_alloc | apply Kd.R_drewN | apply Kd.R_drew)); exact HO_7.out) (Kd.R_typed HO_8.out) (by decide) hg); have n2_ := Aside0.mk (hp_); have n3_ := Aside0.mk (Kd.R_over' (v := (.slice (some ⟨go99, 0, none⟩) x8_1.length co99)) (by (with_reducible repeat (first | apply Kd.R_alloc | apply Kd.R_drewN | apply Kd.R_drew)); exact HO_19.out) (Kd.R_typed HO_8.out) (by decide) hg); have n4_ := Aside0.mk ((by rw [hw]; exact below_set (HB.out) GB99.out : Below w.heap.size w w101)); clear HO_5; clear HO_7; clear HO_8; clear HO_19; clear HB; have HO_5 := n0_; have HO_7 := n1_; have HO_8 := n2_; have HO_19 := n3_; have HB := n4_; clear n0_ n1_ n2_ n3_ n4_; clear hg hw hp_))
                                                repeat (go_quiet (first | (go_at_call 10; (with_reducible refine (undercroftlaw14_num.calls t327 t333 _ A94.out).mono ?_); rintro e w' ⟨rfl, ⟨nd, rfl⟩⟩; (try first | exact ⟨rfl, _, World.drewN_drewN _ _ _⟩ | exact ⟨rfl, _, Eq.trans (World.drewN_drewN _ _ _) (congrArg (World.drewN _) (Nat.add_assoc _ _ _))⟩); have p99 : 0 ≤ ((ji96) : Int) := of_decide_eq_true (by first | (with_reducible assumption) | assumption); have q99 : ((ji96) : Int) < ((x8_1.length : Int) : Int) := of_decide_eq_true (by first | (with_reducible assumption) | assumption); obtain ⟨go99, co99, eo99, gb99, gl99, cl99, HG99⟩ := Kd.R_form HO_8.out (by omega); (first | cases eo99 | (injection eo99 with ea_ en_ ec_; (first | subst ea_ | (injection ea_ with ea_; subst ea_)); subst ec_; clear en_)); have GB99 := Aside0.mk gb99; have GG99 := Aside0.mk HG99; clear gb99 gl99 HG99; obtain ⟨hx99_0, hf99_0⟩ := Kd.R_celln false HO_8.out ((ji96) : Int) p99 q99; replace p99 := eq_true p99; replace q99 := eq_true q99; obtain ⟨hy100_, hz100_⟩ := Kd.R_celln false HO_8.out ((ji96) : Int) (of_decide_eq_true (by first | (with_reducible assumption) | assumption)) (of_decide_eq_true (by first | (with_reducible assumption) | assumption)); have HP100 := Kd.R_putg HO_8.out ((ji96) : Int) false) | ((with_reducible refine gate_store (t := 4) (p := 200) rfl ?_); (try (rw [drewN_self wc]; generalize hq_ : World.drewN wc _ = wc; have n0_ := Aside0.mk (Kd.R_at hq_ HO_5.out); have n1_ := Aside0.mk (Kd.R_at hq_ HO_7.out); have n2_ := Aside0.mk (Kd.R_at hq_ HO_8.out); have n3_ := Aside0.mk (Kd.R_at hq_ HO_19.out); have n4_ := Aside0.mk (below_at hq_ HB.out); clear hq_ HO_5 HO_7 HO_8 HO_19 HB; have HO_5 := n0_; have HO_7 := n1_; have HO_8 := n2_; have HO_19 := n3_; have HB := n4_; clear n0_ n1_ n2_ n3_ n4_; (try (obtain ⟨hy100_, hz100_⟩ := Kd.R_celln false HO_8.out ((ji96) : Int) (of_decide_eq_true (by first | (with_reducible assumption) | assumption)) (of_decide_eq_true (by first | (with_reducible assumption) | assumption)))); (try (have HP100 := Kd.R_putg HO_8.out ((ji96) : Int) false)))); refine store_event (t := 4) (p := 200) (v := ?vo_w101) (w1 := (wc.setCell ⟨go99, ((ji96) : Int).toNat, none⟩ (.bool false))) ?hg ?ho ?hn ?hr ?_; (case ho => rfl); (case hg => rfl); (case hn => rfl); (case hr => first | (go_simp; done) | (go_simp; rfl)); intro w101 hw; have hg : wc.grownBy w101 (some go99) := (by rw [hw]; exact HP100.2); have hp_ : Kd.R Kd.bool 4 w101 w.heap.size (fun _ => True) (.slice (some ⟨go99, 0, none⟩) x8_1.length co99) y334 := (by rw [hw, Ny334.out]; exact HP100.1); clear HP100; have n0_ := Aside0.mk (Kd.R_over' (v := (.slice (some ⟨go99, 0, none⟩) x8_1.length co99)) (by (with_reducible repeat (first | apply Kd.R_alloc | apply Kd.R_drewN | apply Kd.R_drew)); exact HO_5.out) (Kd.R_typed HO_8.out) (by decide) hg); have n1_ := Aside0.mk (Kd.R_over' (v := (.slice (some ⟨go99, 0, none⟩) x8_1.length co99)) (by (with_reducible repeat (first | apply Kd.R_alloc | apply Kd.R_drewN | apply Kd.R_drew)); exact HO_7.out) (Kd.R_typed HO_8.out) (by decide) hg); have n2_ := Aside0.mk (hp_); have n3_ := Aside0.mk (Kd.R_over' (v := (.slice (some ⟨go99, 0, none⟩) x8_1.length co99)) (by (with_reducible repeat (first | apply Kd.R_alloc | apply Kd.R_drewN | apply Kd.R_drew)); exact HO_19.out) (Kd.R_typed HO_8.out) (by decide) hg); have n4_ := Aside0.mk ((by rw [hw]; exact below_set (HB.out) GB99.out : Below w.heap.size w w101)); clear HO_5; clear HO_7; clear HO_8; clear HO_19; clear HB; have HO_5 := n0_; have HO_7 := n1_; have HO_8 := n2_; have HO_19 := n3_; have HB := n4_; clear n0_ n1_ n2_ n3_ n4_; clear hg hw hp_)); try go_wp2_with (first | (go_at_call 10; (with_reducible refine (undercroftlaw14_num.calls t327 t333 _ A94.out).mono ?_); rintro e w' ⟨rfl, ⟨nd, rfl⟩⟩; (try first | exact ⟨rfl, _, World.drewN_drewN _ _ _⟩ | exact ⟨rfl, _, Eq.trans (World.drewN_drewN _ _ _) (congrArg (World.drewN _) (Nat.add_assoc _ _ _))⟩); have p99 : 0 ≤ ((ji96) : Int) := of_decide_eq_true (by first | (with_reducible assumption) | assumption); have q99 : ((ji96) : Int) < ((x8_1.length : Int) : Int) := of_decide_eq_true (by first | (with_reducible assumption) | assumption); obtain ⟨go99, co99, eo99, gb99, gl99, cl99, HG99⟩ := Kd.R_form HO_8.out (by omega); (first | cases eo99 | (injection eo99 with ea_ en_ ec_; (first | subst ea_ | (injection ea_ with ea_; subst ea_)); subst ec_; clear en_)); have GB99 := Aside0.mk gb99; have GG99 := Aside0.mk HG99; clear gb99 gl99 HG99; obtain ⟨hx99_0, hf99_0⟩ := Kd.R_celln false HO_8.out ((ji96) : Int) p99 q99; replace p99 := eq_true p99; replace q99 := eq_true q99; obtain ⟨hy100_, hz100_⟩ := Kd.R_celln false HO_8.out ((ji96) : Int) (of_decide_eq_true (by first | (with_reducible assumption) | assumption)) (of_decide_eq_true (by first | (with_reducible assumption) | assumption)); have HP100 := Kd.R_putg HO_8.out ((ji96) : Int) false) | ((with_reducible refine gate_store (t := 4) (p := 200) rfl ?_); (try (rw [drewN_self wc]; generalize hq_ : World.drewN wc _ = wc; have n0_ := Aside0.mk (Kd.R_at hq_ HO_5.out); have n1_ := Aside0.mk (Kd.R_at hq_ HO_7.out); have n2_ := Aside0.mk (Kd.R_at hq_ HO_8.out); have n3_ := Aside0.mk (Kd.R_at hq_ HO_19.out); have n4_ := Aside0.mk (below_at hq_ HB.out); clear hq_ HO_5 HO_7 HO_8 HO_19 HB; have HO_5 := n0_; have HO_7 := n1_; have HO_8 := n2_; have HO_19 := n3_; have HB := n4_; clear n0_ n1_ n2_ n3_ n4_; (try (obtain ⟨hy100_, hz100_⟩ := Kd.R_celln false HO_8.out ((ji96) : Int) (of_decide_eq_true (by first | (with_reducible assumption) | assumption)) (of_decide_eq_true (by first | (with_reducible assumption) | assumption)))); (try (have HP100 := Kd.R_putg HO_8.out ((ji96) : Int) false)))); refine store_event (t := 4) (p := 200) (v := ?vo_w101) (w1 := (wc.setCell ⟨go99, ((ji96) : Int).toNat, none⟩ (.bool false))) ?hg ?ho ?hn ?hr ?_; (case ho => rfl); (case hg => rfl); (case hn => rfl); (case hr => first | (go_simp; done) | (go_simp; rfl)); intro w101 hw; have hg : wc.grownBy w101 (some go99) := (by rw [hw]; exact HP100.2); have hp_ : Kd.R Kd.bool 4 w101 w.heap.size (fun _ => True) (.slice (some ⟨go99, 0, none⟩) x8_1.length co99) y334 := (by rw [hw, Ny334.out]; exact HP100.1); clear HP100; have n0_ := Aside0.mk (Kd.R_over' (v := (.slice (some ⟨go99, 0, none⟩) x8_1.length co99)) (by (with_reducible repeat (first | apply Kd.R_alloc | apply Kd.R_drewN | apply Kd.R_drew)); exact HO_5.out) (Kd.R_typed HO_8.out) (by decide) hg); have n1_ := Aside0.mk (Kd.R_over' (v := (.slice (some ⟨go99, 0, none⟩) x8_1.length co99)) (by (with_reducible repeat (first | apply Kd.R_alloc | apply Kd.R_drewN | apply Kd.R_drew)); exact HO_7.out) (Kd.R_typed HO_8.out) (by decide) hg); have n2_ := Aside0.mk (hp_); have n3_ := Aside0.mk (Kd.R_over' (v := (.slice (some ⟨go99, 0, none⟩) x8_1.length co99)) (by (with_reducible repeat (first | apply Kd.R_alloc | apply Kd.R_drewN | apply Kd.R_drew)); exact HO_19.out) (Kd.R_typed HO_8.out) (by decide) hg); have n4_ := Aside0.mk ((by rw [hw]; exact below_set (HB.out) GB99.out : Below w.heap.size w w101)); clear HO_5; clear HO_7; clear HO_8; clear HO_19; clear HB; have HO_5 := n0_; have HO_7 := n1_; have HO_8 := n2_; have HO_19 := n3_; have HB := n4_; clear n0_ n1_ n2_ n3_ n4_; clear hg hw hp_)))
                                                (try subst hji59); (try subst hji71); (try subst hji84); (try subst hji96)
                                                go_meet
                                                case rel => exact ⟨_, (t326), (x7_1), (y334), H', ⟨by have := HK1.out; have := HJ17.out; have := HJ79.out; first | omega | exact Nat.le_refl _⟩, ⟨by (with_reducible repeat (first | apply Kd.R_alloc | apply Kd.R_drewN | apply Kd.R_drew)); exact Kd.R_mono HO_19.out (fun _ hk => trivial)⟩, ⟨by (with_reducible repeat (first | apply Kd.R_alloc | apply Kd.R_drewN | apply Kd.R_drew)); exact HO_7.out⟩, ⟨by (with_reducible repeat (first | apply Kd.R_alloc | apply Kd.R_drewN | apply Kd.R_drew)); exact HO_8.out⟩, ⟨by repeat (first | (with_reducible first | exact HB.out | apply below_alloc | apply pw_below_drewN | apply below_drew1) | exact HB.out)⟩⟩
                                              · rw [if_neg c98] at H
                                                exact absurd H (by simp)
                                            · rw [if_neg c97] at H
                                              exact absurd H (by simp)
                                          · rw [if_neg c95] at H
                                            have c95b0 : (t333 == 0) = false := beq_eq_false_iff_ne.mpr c95
                                            have c95b1 : (t333 != 0) = true := bne_iff_ne.mpr c95
                                            have H' := Aside0.mk H
                                            clear H
                                            go_wp2_with (first | (go_at_call 10; (with_reducible refine (undercroftlaw14_num.calls t327 t333 _ A94.out).mono ?_); rintro e w' ⟨rfl, ⟨nd, rfl⟩⟩; (try first | exact ⟨rfl, _, World.drewN_drewN _ _ _⟩ | exact ⟨rfl, _, Eq.trans (World.drewN_drewN _ _ _) (congrArg (World.drewN _) (Nat.add_assoc _ _ _))⟩)))
                                            repeat (go_quiet (first | (go_at_call 10; (with_reducible refine (undercroftlaw14_num.calls t327 t333 _ A94.out).mono ?_); rintro e w' ⟨rfl, ⟨nd, rfl⟩⟩; (try first | exact ⟨rfl, _, World.drewN_drewN _ _ _⟩ | exact ⟨rfl, _, Eq.trans (World.drewN_drewN _ _ _) (congrArg (World.drewN _) (Nat.add_assoc _ _ _))⟩))); try go_wp2_with (first | (go_at_call 10; (with_reducible refine (undercroftlaw14_num.calls t327 t333 _ A94.out).mono ?_); rintro e w' ⟨rfl, ⟨nd, rfl⟩⟩; (try first | exact ⟨rfl, _, World.drewN_drewN _ _ _⟩ | exact ⟨rfl, _, Eq.trans (World.drewN_drewN _ _ _) (congrArg (World.drewN _) (Nat.add_assoc _ _ _))⟩))))
                                            (try subst hji59); (try subst hji71); (try subst hji84); (try subst hji96)
                                            go_meet
                                            case rel => exact ⟨_, (x5_1), (x7_1), (x8_1), H', ⟨by have := HK1.out; have := HJ17.out; have := HJ79.out; first | omega | exact Nat.le_refl _⟩, ⟨by (with_reducible repeat (first | apply Kd.R_alloc | apply Kd.R_drewN | apply Kd.R_drew)); exact Kd.R_mono HO_5.out (fun _ hk => trivial)⟩, ⟨by (with_reducible repeat (first | apply Kd.R_alloc | apply Kd.R_drewN | apply Kd.R_drew)); exact HO_7.out⟩, ⟨by (with_reducible repeat (first | apply Kd.R_alloc | apply Kd.R_drewN | apply Kd.R_drew)); exact HO_8.out⟩, ⟨by repeat (first | (with_reducible first | exact HB.out | apply below_alloc | apply pw_below_drewN | apply below_drew1) | exact HB.out)⟩⟩
                                  · rw [if_neg c78] at H
                                    have c78b0 : ((Int.tmod (wrap64 ((Int.tmod ((rd_T56 l1 x9_1).f0) 3) + 3)) 3) == 2) = false := beq_eq_false_iff_ne.mpr c78
                                    have c78b1 : ((Int.tmod (wrap64 ((Int.tmod ((rd_T56 l1 x9_1).f0) 3) + 3)) 3) != 2) = true := bne_iff_ne.mpr c78
                                    have H' := Aside0.mk H
                                    clear H
                                    go_wp2
                                    repeat (go_quiet (fail); try go_wp2)
                                    (try subst hji59); (try subst hji71); (try subst hji84); (try subst hji96)
                                    go_meet
                                    case rel => exact ⟨_, (x5_1), (x7_1), (x8_1), H', ⟨by have := HK1.out; have := HJ17.out; first | omega | exact Nat.le_refl _⟩, ⟨by (with_reducible repeat (first | apply Kd.R_alloc | apply Kd.R_drewN | apply Kd.R_drew)); exact HO_5.out⟩, ⟨by (with_reducible repeat (first | apply Kd.R_alloc | apply Kd.R_drewN | apply Kd.R_drew)); exact HO_7.out⟩, ⟨by (with_reducible repeat (first | apply Kd.R_alloc | apply Kd.R_drewN | apply Kd.R_drew)); exact HO_8.out⟩, ⟨by repeat (first | (with_reducible first | exact HB.out | apply below_alloc | apply pw_below_drewN | apply below_drew1) | exact HB.out)⟩⟩
                            case rest => as_aux_lemma =>
                              clear HC24
                              try clear c1
                              try clear c2
                              try clear p2
                              try clear c3
                              try clear p3
                              try clear q3
                              try clear hx3
                              try clear c4
                              try clear p4
                              try clear q4
                              try clear hx4
                              try clear hf4
                              try clear c5
                              try clear c6
                              try clear p6
                              try clear q6
                              try clear c7
                              try clear c7b0
                              try clear c7b1
                              try clear p7
                              try clear q7
                              try clear hx7
                              try clear hf7
                              try clear c8
                              try clear q8
                              try clear c9
                              try clear c9b0
                              try clear c9b1
                              try clear p9
                              try clear q9
                              try clear hx9
                              try clear hf9
                              try clear c10
                              try clear c10b0
                              try clear c10b1
                              try clear c11
                              try clear c11b0
                              try clear c11b1
                              try clear c19
                              try clear c19b0
                              try clear c20
                              try clear c21
                              try clear c21b0
                              try clear c22
                              try clear c22b0
                              try clear c23
                              try clear c23b0
                              try clear c23b1
                              try clear c25
                              try clear c25b0
                              try clear c25b1
                              try clear c29
                              try clear c29b0
                              try clear c30
                              try clear p30
                              try clear q30
                              try clear hx30
                              try clear c31
                              try clear c31b0
                              try clear p31
                              try clear q31
                              try clear hx31
                              try clear c32
                              try clear c32b0
                              try clear p32
                              try clear q32
                              try clear hx32
                              try clear p33
                              try clear q33
                              try clear hx33
                              try clear c34
                              try clear c36
                              try clear c36b0
                              try clear c36b1
                              try clear c37
                              try clear c37b0
                              try clear c38
                              try clear c38b0
                              try clear c39
                              try clear c39b0
                              try clear c40
                              try clear c40b0
                              try clear q41
                              try clear c42
                              try clear p43
                              try clear q43
                              try clear hx43
                              try clear hf43
                              try clear c44
                              try clear c44b0
                              try clear p45
                              try clear q45
                              try clear hx45
                              try clear hf45
                              try clear c52
                              try clear c52b0
                              try clear c52b1
                              try clear c53
                              try clear c53b0
                              try clear c53b1
                              try clear c60
                              try clear c60b0
                              try clear c61
                              try clear c61b0
                              try clear q62
                              try clear c63
                              try clear c64
                              try clear c64b0
                              try clear p64
                              try clear c68
                              try clear c70
                              try clear c70b0
                              try clear c70b1
                              try clear c72
                              try clear c72b0
                              try clear c73
                              try clear c73b0
                              try clear p74
                              try clear q74
                              try clear hx74
                              try clear hf74
                              try clear c78
                              try clear c78b0
                              try clear c78b1
                              try clear c85
                              try clear c85b0
                              try clear c86
                              try clear c86b0
                              try clear q87
                              try clear c88
                              try clear c89
                              try clear c89b0
                              try clear c93
                              try clear c95
                              try clear c95b0
                              try clear c95b1
                              try clear c97
                              try clear c97b0
                              try clear c98
                              try clear c98b0
                              try clear p99
                              try clear q99
                              try clear hx99
                              try clear hf99
                              try clear hx302_0
                              try clear hx302_1
                              try clear hx302_2
                              try clear hx303_0
                              try clear hx303_1
                              try clear hx303_2
                              try clear hx304_0
                              try clear hx304_1
                              try clear hx304_2
                              try clear hx310_0
                              try clear hx312_0
                              try clear hx321_0
                              try clear hx322_0
                              try clear hx324_0
                              try clear hx331_0
                              try clear hx332_0
                              try clear hx43_0
                              try clear hx45_0
                              try clear hx74_0
                              try clear hx99_0
                              try clear p2
                              try clear p3
                              try clear p30
                              try clear p302
                              try clear p303
                              try clear p304
                              try clear p31
                              try clear p310
                              try clear p312
                              try clear p32
                              try clear p321
                              try clear p322
                              try clear p324
                              try clear p33
                              try clear p331
                              try clear p332
                              try clear p4
                              try clear p43
                              try clear p45
                              try clear p6
                              try clear p64
                              try clear p7
                              try clear p74
                              try clear p99
                              try clear q3
                              try clear q30
                              try clear q302
                              try clear q303
                              try clear q304
                              try clear q31
                              try clear q310
                              try clear q312
                              try clear q32
                              try clear q321
                              try clear q322
                              try clear q324
                              try clear q33
                              try clear q331
                              try clear q332
                              try clear q4
                              try clear q41
                              try clear q43
                              try clear q45
                              try clear q6
                              try clear q62
                              try clear q7
                              try clear q74
                              try clear q8
                              try clear q87
                              try clear q99
                              obtain ⟨kq, x5_23, x7_23, x8_23, HA, HJ23, HO_5, HO_7, HO_8, HB⟩ := hcut
                              cases kq with
                              | zero => exact absurd HA.out (by simp [undercroftlaw14_TableOnce.j5])
                              | succ kj23 =>
                                have H := HA.out
                                clear HA
                                simp only [undercroftlaw14_TableOnce.j5] at H
                                replace H := Option.bind_eq_some_iff.mp H
                                obtain ⟨⟨t335, t336, t337⟩, A1020, H⟩ := H
                                replace H : (undercroftlaw14_TableOnce.l2 kj23 ji8 l1 x5_23 x7_23 x8_23 x9_1 t335 t336 t337 0 0 0) = some r := H
                                have A102 := Aside0.mk A1020
                                clear A1020
                                have H' := Aside0.mk H
                                clear H
                                obtain ⟨Ao103, co103, eo103⟩ := Kd.R_slice HO_5.out
                                subst eo103
                                go_wp2_with (first | (go_at_call 17; (with_reducible refine (table_Room.calls kj23 _ _ x5_23 t335 t336 t337 _ ?side1 ?side2 A102.out).mono ?_); (case side1 => repeat (first | exact (Kd.R_reads' HO_5.out).2.2 | (with_reducible refine Kd.C_alloc ?_ _) | (with_reducible refine Kd.C_drewN ?_ _) | (with_reducible refine Kd.C_drew ?_))); (case side2 => exact (Kd.R_reads' HO_5.out).2.1); rintro e w104 ⟨rfl, hb⟩; have n0_ := Aside0.mk (Kd.R_below (by (with_reducible repeat (first | apply Kd.R_alloc | apply Kd.R_drewN | apply Kd.R_drew)); exact HO_5.out) hb); have n1_ := Aside0.mk (Kd.R_below (by (with_reducible repeat (first | apply Kd.R_alloc | apply Kd.R_drewN | apply Kd.R_drew)); exact HO_7.out) hb); have n2_ := Aside0.mk (Kd.R_below (by (with_reducible repeat (first | apply Kd.R_alloc | apply Kd.R_drewN | apply Kd.R_drew)); exact HO_8.out) hb); have n3_ := Aside0.mk (below_step (by repeat (first | (with_reducible first | exact HB.out | apply below_alloc | apply pw_below_drewN | apply below_drew1) | exact HB.out)) hb); clear HO_5; clear HO_7; clear HO_8; clear HB; have HO_5 := n0_; have HO_7 := n1_; have HO_8 := n2_; have HB := n3_; clear n0_ n1_ n2_ n3_; (try clear hb); (try clear hb2); (try clear hk); (try clear hi)))
                                repeat (go_quiet (first | (go_at_call 17; (with_reducible refine (table_Room.calls kj23 _ _ x5_23 t335 t336 t337 _ ?side1 ?side2 A102.out).mono ?_); (case side1 => repeat (first | exact (Kd.R_reads' HO_5.out).2.2 | (with_reducible refine Kd.C_alloc ?_ _) | (with_reducible refine Kd.C_drewN ?_ _) | (with_reducible refine Kd.C_drew ?_))); (case side2 => exact (Kd.R_reads' HO_5.out).2.1); rintro e w104 ⟨rfl, hb⟩; have n0_ := Aside0.mk (Kd.R_below (by (with_reducible repeat (first | apply Kd.R_alloc | apply Kd.R_drewN | apply Kd.R_drew)); exact HO_5.out) hb); have n1_ := Aside0.mk (Kd.R_below (by (with_reducible repeat (first | apply Kd.R_alloc | apply Kd.R_drewN | apply Kd.R_drew)); exact HO_7.out) hb); have n2_ := Aside0.mk (Kd.R_below (by (with_reducible repeat (first | apply Kd.R_alloc | apply Kd.R_drewN | apply Kd.R_drew)); exact HO_8.out) hb); have n3_ := Aside0.mk (below_step (by repeat (first | (with_reducible first | exact HB.out | apply below_alloc | apply pw_below_drewN | apply below_drew1) | exact HB.out)) hb); clear HO_5; clear HO_7; clear HO_8; clear HB; have HO_5 := n0_; have HO_7 := n1_; have HO_8 := n2_; have HB := n3_; clear n0_ n1_ n2_ n3_; (try clear hb); (try clear hb2); (try clear hk); (try clear hi))); try go_wp2_with (first | (go_at_call 17; (with_reducible refine (table_Room.calls kj23 _ _ x5_23 t335 t336 t337 _ ?side1 ?side2 A102.out).mono ?_); (case side1 => repeat (first | exact (Kd.R_reads' HO_5.out).2.2 | (with_reducible refine Kd.C_alloc ?_ _) | (with_reducible refine Kd.C_drewN ?_ _) | (with_reducible refine Kd.C_drew ?_))); (case side2 => exact (Kd.R_reads' HO_5.out).2.1); rintro e w104 ⟨rfl, hb⟩; have n0_ := Aside0.mk (Kd.R_below (by (with_reducible repeat (first | apply Kd.R_alloc | apply Kd.R_drewN | apply Kd.R_drew)); exact HO_5.out) hb); have n1_ := Aside0.mk (Kd.R_below (by (with_reducible repeat (first | apply Kd.R_alloc | apply Kd.R_drewN | apply Kd.R_drew)); exact HO_7.out) hb); have n2_ := Aside0.mk (Kd.R_below (by (with_reducible repeat (first | apply Kd.R_alloc | apply Kd.R_drewN | apply Kd.R_drew)); exact HO_8.out) hb); have n3_ := Aside0.mk (below_step (by repeat (first | (with_reducible first | exact HB.out | apply below_alloc | apply pw_below_drewN | apply below_drew1) | exact HB.out)) hb); clear HO_5; clear HO_7; clear HO_8; clear HB; have HO_5 := n0_; have HO_7 := n1_; have HO_8 := n2_; have HB := n3_; clear n0_ n1_ n2_ n3_; (try clear hb); (try clear hb2); (try clear hk); (try clear hi))))
                                go_loopg [24, 25, 26] kj23 (fun kq v24 v25 v26 w' => ∃ (x24_4 : Int) (x25_4 : Int) (x26_4 : Int), v24 = .int .i64 x24_4 ∧ v25 = .int .i64 x25_4 ∧ v26 = .int .i64 x26_4 ∧ Aside0 (undercroftlaw14_TableOnce.l2 kq ji8 l1 x5_23 x7_23 x8_23 x9_1 t335 t336 t337 x24_4 x25_4 x26_4 = some r) ∧ Aside0 (kq ≤ kj23) ∧ Aside0 (Kd.R k39 39 w' w.heap.size (fun _ => True) (.slice Ao103 x5_23.length co103) x5_23) ∧ Aside0 (Kd.R (Kd.int .i64) 3 w' w.heap.size (fun _ => True) v297 x7_23) ∧ Aside0 (Kd.R Kd.bool 4 w' w.heap.size (fun _ => True) v300 x8_23) ∧ Aside0 (Below w.heap.size w w'))
                                case atStart => exact ⟨(0), (0), (0), (by first | rfl | (simp; done) | (simp [*]; done)), (by first | rfl | (simp; done) | (simp [*]; done)), (by first | rfl | (simp; done) | (simp [*]; done)), H', ⟨Nat.le_refl _⟩, ⟨by (with_reducible repeat (first | apply Kd.R_alloc | apply Kd.R_drewN | apply Kd.R_drew)); exact HO_5.out⟩, ⟨by (with_reducible repeat (first | apply Kd.R_alloc | apply Kd.R_drewN | apply Kd.R_drew)); exact HO_7.out⟩, ⟨by (with_reducible repeat (first | apply Kd.R_alloc | apply Kd.R_drewN | apply Kd.R_drew)); exact HO_8.out⟩, ⟨by repeat (first | (with_reducible first | exact HB.out | apply below_alloc | apply pw_below_drewN | apply below_drew1) | exact HB.out)⟩⟩
                                case round => as_aux_lemma =>
                                  clear H'
                                  try clear c1
                                  try clear c2
                                  try clear p2
                                  try clear c3
                                  try clear p3
                                  try clear q3
                                  try clear hx3
                                  try clear c4
                                  try clear p4
                                  try clear q4
                                  try clear hx4
                                  try clear hf4
                                  try clear c5
                                  try clear c6
                                  try clear p6
                                  try clear q6
                                  try clear c7
                                  try clear c7b0
                                  try clear c7b1
                                  try clear p7
                                  try clear q7
                                  try clear hx7
                                  try clear hf7
                                  try clear c8
                                  try clear q8
                                  try clear c9
                                  try clear c9b0
                                  try clear c9b1
                                  try clear p9
                                  try clear q9
                                  try clear hx9
                                  try clear hf9
                                  try clear c10
                                  try clear c10b0
                                  try clear c10b1
                                  try clear c11
                                  try clear c11b0
                                  try clear c11b1
                                  try clear c19
                                  try clear c19b0
                                  try clear c20
                                  try clear c21
                                  try clear c21b0
                                  try clear c22
                                  try clear c22b0
                                  try clear c23
                                  try clear c23b0
                                  try clear c23b1
                                  try clear c25
                                  try clear c25b0
                                  try clear c25b1
                                  try clear c29
                                  try clear c29b0
                                  try clear c30
                                  try clear p30
                                  try clear q30
                                  try clear hx30
                                  try clear c31
                                  try clear c31b0
                                  try clear p31
                                  try clear q31
                                  try clear hx31
                                  try clear c32
                                  try clear c32b0
                                  try clear p32
                                  try clear q32
                                  try clear hx32
                                  try clear p33
                                  try clear q33
                                  try clear hx33
                                  try clear c34
                                  try clear c36
                                  try clear c36b0
                                  try clear c36b1
                                  try clear c37
                                  try clear c37b0
                                  try clear c38
                                  try clear c38b0
                                  try clear c39
                                  try clear c39b0
                                  try clear c40
                                  try clear c40b0
                                  try clear q41
                                  try clear c42
                                  try clear p43
                                  try clear q43
                                  try clear hx43
                                  try clear hf43
                                  try clear c44
                                  try clear c44b0
                                  try clear p45
                                  try clear q45
                                  try clear hx45
                                  try clear hf45
                                  try clear c52
                                  try clear c52b0
                                  try clear c52b1
                                  try clear c53
                                  try clear c53b0
                                  try clear c53b1
                                  try clear c60
                                  try clear c60b0
                                  try clear c61
                                  try clear c61b0
                                  try clear q62
                                  try clear c63
                                  try clear c64
                                  try clear c64b0
                                  try clear p64
                                  try clear c68
                                  try clear c70
                                  try clear c70b0
                                  try clear c70b1
                                  try clear c72
                                  try clear c72b0
                                  try clear c73
                                  try clear c73b0
                                  try clear p74
                                  try clear q74
                                  try clear hx74
                                  try clear hf74
                                  try clear c78
                                  try clear c78b0
                                  try clear c78b1
                                  try clear c85
                                  try clear c85b0
                                  try clear c86
                                  try clear c86b0
                                  try clear q87
                                  try clear c88
                                  try clear c89
                                  try clear c89b0
                                  try clear c93
                                  try clear c95
                                  try clear c95b0
                                  try clear c95b1
                                  try clear c97
                                  try clear c97b0
                                  try clear c98
                                  try clear c98b0
                                  try clear p99
                                  try clear q99
                                  try clear hx99
                                  try clear hf99
                                  try clear hx302_0
                                  try clear hx302_1
                                  try clear hx302_2
                                  try clear hx303_0
                                  try clear hx303_1
                                  try clear hx303_2
                                  try clear hx304_0
                                  try clear hx304_1
                                  try clear hx304_2
                                  try clear hx310_0
                                  try clear hx312_0
                                  try clear hx321_0
                                  try clear hx322_0
                                  try clear hx324_0
                                  try clear hx331_0
                                  try clear hx332_0
                                  try clear hx43_0
                                  try clear hx45_0
                                  try clear hx74_0
                                  try clear hx99_0
                                  try clear p2
                                  try clear p3
                                  try clear p30
                                  try clear p302
                                  try clear p303
                                  try clear p304
                                  try clear p31
                                  try clear p310
                                  try clear p312
                                  try clear p32
                                  try clear p321
                                  try clear p322
                                  try clear p324
                                  try clear p33
                                  try clear p331
                                  try clear p332
                                  try clear p4
                                  try clear p43
                                  try clear p45
                                  try clear p6
                                  try clear p64
                                  try clear p7
                                  try clear p74
                                  try clear p9
                                  try clear p99
                                  try clear q3
                                  try clear q30
                                  try clear q302
                                  try clear q303
                                  try clear q304
                                  try clear q31
                                  try clear q310
                                  try clear q312
                                  try clear q32
                                  try clear q321
                                  try clear q322
                                  try clear q324
                                  try clear q33
                                  try clear q331
                                  try clear q332
                                  try clear q4
                                  try clear q41
                                  try clear q43
                                  try clear q45
                                  try clear q6
                                  try clear q62
                                  try clear q7
                                  try clear q74
                                  try clear q8
                                  try clear q87
                                  try clear q9
                                  try clear q99
                                  obtain ⟨x24_4, x25_4, x26_4, rfl, rfl, rfl, HA, HK4, HO_5, HO_7, HO_8, HB⟩ := hrel
                                  cases gk with
                                  | zero => exact absurd HA.out (by simp [undercroftlaw14_TableOnce.l2])
                                  | succ k4 =>
                                    have H := HA.out
                                    clear HA
                                    simp only [undercroftlaw14_TableOnce.l2] at H
                                    by_cases c105 : x26_4 < ji8
                                    · rw [if_pos c105] at H
                                      have c105b0 : decide (x26_4 < ji8) = true := decide_eq_true c105
                                      clear c105
                                      by_cases c106 : 0 ≤ x26_4
                                      · rw [if_pos c106] at H
                                        have c106b0 : decide (0 ≤ x26_4) = true := decide_eq_true c106
                                        clear c106
                                        by_cases c107 : x26_4 < (x7_23.length : Int)
                                        · rw [if_pos c107] at H
                                          have c107b0 : decide (x26_4 < (x7_23.length : Int)) = true := decide_eq_true c107
                                          clear c107
                                          by_cases c108 : x26_4 < (x8_23.length : Int)
                                          · rw [if_pos c108] at H
                                            have c108b0 : decide (x26_4 < (x8_23.length : Int)) = true := decide_eq_true c108
                                            clear c108
                                            obtain ⟨bq109, hbq109⟩ : ∃ b_ : Bool, b_ = (rdOf false x8_23 x26_4) := ⟨_, rfl⟩
                                            replace H : (if bq109 = true then (undercroftlaw14_TableOnce.l2 k4 ji8 l1 x5_23 x7_23 x8_23 x9_1 t335 t336 t337 x24_4 (wrap64 (x25_4 + (rd x7_23 x26_4))) (wrap64 (x26_4 + 1))) else (undercroftlaw14_TableOnce.l2 k4 ji8 l1 x5_23 x7_23 x8_23 x9_1 t335 t336 t337 (wrap64 (x24_4 + 1)) (wrap64 (x25_4 + (rd x7_23 x26_4))) (wrap64 (x26_4 + 1)))) = some r := by rw [← hbq109] at H; exact H
                                            have Nbq109 := Aside0.mk hbq109
                                            clear hbq109
                                            by_cases c110 : bq109 = true
                                            · subst c110
                                              have H1 : (undercroftlaw14_TableOnce.l2 k4 ji8 l1 x5_23 x7_23 x8_23 x9_1 t335 t336 t337 x24_4 (wrap64 (x25_4 + (rd x7_23 x26_4))) (wrap64 (x26_4 + 1))) = some r := by rw [if_pos rfl] at H; exact H
                                              clear H
                                              have H := H1
                                              clear H1
                                              have H' := Aside0.mk H
                                              clear H
                                              obtain ⟨Ao111, co111, eo111⟩ := Kd.R_slice HO_7.out
                                              subst eo111
                                              have p338 : 0 ≤ (x26_4 : Int) := of_decide_eq_true (by first | (with_reducible assumption) | assumption)
                                              have q338 : x26_4 < (x7_23.length : Int) := of_decide_eq_true (by first | (with_reducible assumption) | assumption)
                                              obtain ⟨ad338, e338, hx338_0⟩ := Kd.at_int (Kd.R_reads' HO_7.out).2.2 x26_4 p338 q338
                                              cases e338
                                              replace p338 := eq_true p338
                                              replace q338 := eq_true q338
                                              obtain ⟨Ao112, co112, eo112⟩ := Kd.R_slice HO_8.out
                                              subst eo112
                                              have p339 : 0 ≤ (x26_4 : Int) := of_decide_eq_true (by first | (with_reducible assumption) | assumption)
                                              have q339 : x26_4 < (x8_23.length : Int) := of_decide_eq_true (by first | (with_reducible assumption) | assumption)
                                              obtain ⟨ad339, e339, hx339_0⟩ := Kd.at_bool (Kd.R_reads' HO_8.out).2.2 x26_4 p339 q339
                                              (try rw [← Nbq109.out] at hx339_0)
                                              cases e339
                                              replace p339 := eq_true p339
                                              replace q339 := eq_true q339
                                              go_wp2
                                              repeat (go_quiet (fail); try go_wp2)
                                              go_roundg k4
                                              case measure => have := HK1.out; have := HJ17.out; have := HJ23.out; have := HK4.out; omega
                                              case rel => exact ⟨(x24_4), (wrap64 (x25_4 + (rd x7_23 x26_4))), (wrap64 (x26_4 + 1)), (by first | rfl | (simp; done) | (simp [*]; done)), (by first | rfl | (simp; done) | (simp [*]; done)), (by first | rfl | (simp; done) | (simp [*]; done)), H', ⟨by have := HK1.out; have := HJ17.out; have := HJ23.out; have := HK4.out; omega⟩, ⟨by (with_reducible repeat (first | apply Kd.R_alloc | apply Kd.R_drewN | apply Kd.R_drew)); exact HO_5.out⟩, ⟨by (with_reducible repeat (first | apply Kd.R_alloc | apply Kd.R_drewN | apply Kd.R_drew)); exact HO_7.out⟩, ⟨by (with_reducible repeat (first | apply Kd.R_alloc | apply Kd.R_drewN | apply Kd.R_drew)); exact HO_8.out⟩, ⟨by repeat (first | (with_reducible first | exact HB.out | apply below_alloc | apply pw_below_drewN | apply below_drew1) | exact HB.out)⟩⟩
                                            · replace c110 := Bool.eq_false_iff.mpr c110
                                              subst c110
                                              have H1 : (undercroftlaw14_TableOnce.l2 k4 ji8 l1 x5_23 x7_23 x8_23 x9_1 t335 t336 t337 (wrap64 (x24_4 + 1)) (wrap64 (x25_4 + (rd x7_23 x26_4))) (wrap64 (x26_4 + 1))) = some r := by rw [if_neg (show ¬ (false = true) by decide)] at H; exact H
                                              clear H
                                              have H := H1
                                              clear H1
                                              have H' := Aside0.mk H
                                              clear H
                                              obtain ⟨Ao113, co113, eo113⟩ := Kd.R_slice HO_7.out
                                              subst eo113
                                              have p338 : 0 ≤ (x26_4 : Int) := of_decide_eq_true (by first | (with_reducible assumption) | assumption)
                                              have q338 : x26_4 < (x7_23.length : Int) := of_decide_eq_true (by first | (with_reducible assumption) | assumption)
                                              obtain ⟨ad338, e338, hx338_0⟩ := Kd.at_int (Kd.R_reads' HO_7.out).2.2 x26_4 p338 q338
                                              cases e338
                                              replace p338 := eq_true p338
                                              replace q338 := eq_true q338
                                              obtain ⟨Ao114, co114, eo114⟩ := Kd.R_slice HO_8.out
                                              subst eo114
                                              have p339 : 0 ≤ (x26_4 : Int) := of_decide_eq_true (by first | (with_reducible assumption) | assumption)
                                              have q339 : x26_4 < (x8_23.length : Int) := of_decide_eq_true (by first | (with_reducible assumption) | assumption)
                                              obtain ⟨ad339, e339, hx339_0⟩ := Kd.at_bool (Kd.R_reads' HO_8.out).2.2 x26_4 p339 q339
                                              (try rw [← Nbq109.out] at hx339_0)
                                              cases e339
                                              replace p339 := eq_true p339
                                              replace q339 := eq_true q339
                                              go_wp2
                                              repeat (go_quiet (fail); try go_wp2)
                                              go_roundg k4
                                              case measure => have := HK1.out; have := HJ17.out; have := HJ23.out; have := HK4.out; omega
                                              case rel => exact ⟨(wrap64 (x24_4 + 1)), (wrap64 (x25_4 + (rd x7_23 x26_4))), (wrap64 (x26_4 + 1)), (by first | rfl | (simp; done) | (simp [*]; done)), (by first | rfl | (simp; done) | (simp [*]; done)), (by first | rfl | (simp; done) | (simp [*]; done)), H', ⟨by have := HK1.out; have := HJ17.out; have := HJ23.out; have := HK4.out; omega⟩, ⟨by (with_reducible repeat (first | apply Kd.R_alloc | apply Kd.R_drewN | apply Kd.R_drew)); exact HO_5.out⟩, ⟨by (with_reducible repeat (first | apply Kd.R_alloc | apply Kd.R_drewN | apply Kd.R_drew)); exact HO_7.out⟩, ⟨by (with_reducible repeat (first | apply Kd.R_alloc | apply Kd.R_drewN | apply Kd.R_drew)); exact HO_8.out⟩, ⟨by repeat (first | (with_reducible first | exact HB.out | apply below_alloc | apply pw_below_drewN | apply below_drew1) | exact HB.out)⟩⟩
                                          · rw [if_neg c108] at H
                                            exact absurd H (by simp)
                                        · rw [if_neg c107] at H
                                          exact absurd H (by simp)
                                      · rw [if_neg c106] at H
                                        exact absurd H (by simp)
                                    · rw [if_neg c105] at H
                                      have c105b0 : decide (x26_4 < ji8) = false := decide_eq_false c105
                                      clear c105
                                      replace H := Option.bind_eq_some_iff.mp H
                                      obtain ⟨t340, A1150, H⟩ := H
                                      replace H : (if t340 = 0 then (if t335 = x24_4 then (if t336 = x25_4 then (undercroftlaw14_TableOnce.l0 k4 ji8 l1 x5_23 x7_23 x8_23 (wrap64 (x9_1 + 1))) else (none)) else (none)) else (none)) = some r := H
                                      have A115 := Aside0.mk A1150
                                      clear A1150
                                      by_cases c116 : t340 = 0
                                      · rw [if_pos c116] at H
                                        have c116b0 : (t340 == 0) = true := beq_iff_eq.mpr c116
                                        have c116b1 : (t340 != 0) = false := bne_eq_false_iff_eq.mpr c116
                                        clear c116
                                        by_cases c117 : t335 = x24_4
                                        · rw [if_pos c117] at H
                                          have c117b0 : (t335 == x24_4) = true := beq_iff_eq.mpr c117
                                          have c117b1 : (t335 != x24_4) = false := bne_eq_false_iff_eq.mpr c117
                                          clear c117
                                          by_cases c118 : t336 = x25_4
                                          · rw [if_pos c118] at H
                                            have c118b0 : (t336 == x25_4) = true := beq_iff_eq.mpr c118
                                            have c118b1 : (t336 != x25_4) = false := bne_eq_false_iff_eq.mpr c118
                                            clear c118
                                            have H' := Aside0.mk H
                                            clear H
                                            go_wp2_with (first | (go_at_call 10; (with_reducible refine (undercroftlaw14_num.calls t337 t340 _ A115.out).mono ?_); rintro e w' ⟨rfl, ⟨nd, rfl⟩⟩; (try first | exact ⟨rfl, _, World.drewN_drewN _ _ _⟩ | exact ⟨rfl, _, Eq.trans (World.drewN_drewN _ _ _) (congrArg (World.drewN _) (Nat.add_assoc _ _ _))⟩)))
                                            repeat (go_quiet (first | (go_at_call 10; (with_reducible refine (undercroftlaw14_num.calls t337 t340 _ A115.out).mono ?_); rintro e w' ⟨rfl, ⟨nd, rfl⟩⟩; (try first | exact ⟨rfl, _, World.drewN_drewN _ _ _⟩ | exact ⟨rfl, _, Eq.trans (World.drewN_drewN _ _ _) (congrArg (World.drewN _) (Nat.add_assoc _ _ _))⟩))); try go_wp2_with (first | (go_at_call 10; (with_reducible refine (undercroftlaw14_num.calls t337 t340 _ A115.out).mono ?_); rintro e w' ⟨rfl, ⟨nd, rfl⟩⟩; (try first | exact ⟨rfl, _, World.drewN_drewN _ _ _⟩ | exact ⟨rfl, _, Eq.trans (World.drewN_drewN _ _ _) (congrArg (World.drewN _) (Nat.add_assoc _ _ _))⟩))))
                                            go_roundg k4
                                            case measure => have := HK1.out; have := HJ17.out; have := HJ23.out; have := HK4.out; omega
                                            case rel => exact ⟨(x5_23), (x7_23), (x8_23), (wrap64 (x9_1 + 1)), (by first | rfl | (simp; done) | (simp [*]; done)), H', ⟨by have := HK1.out; have := HJ17.out; have := HJ23.out; have := HK4.out; omega⟩, ⟨by (with_reducible repeat (first | apply Kd.R_alloc | apply Kd.R_drewN | apply Kd.R_drew)); exact HO_5.out⟩, ⟨by (with_reducible repeat (first | apply Kd.R_alloc | apply Kd.R_drewN | apply Kd.R_drew)); exact HO_7.out⟩, ⟨by (with_reducible repeat (first | apply Kd.R_alloc | apply Kd.R_drewN | apply Kd.R_drew)); exact HO_8.out⟩, ⟨by repeat (first | (with_reducible first | exact HB.out | apply below_alloc | apply pw_below_drewN | apply below_drew1) | exact HB.out)⟩⟩
                                          · rw [if_neg c118] at H
                                            exact absurd H (by simp)
                                        · rw [if_neg c117] at H
                                          exact absurd H (by simp)
                                      · rw [if_neg c116] at H
                                        exact absurd H (by simp)
                        · rw [if_neg c22] at H
                          exact absurd H (by simp)
                      · rw [if_neg c21] at H
                        exact absurd H (by simp)
                    · replace c20 := Bool.eq_false_iff.mpr c20
                      subst c20
                      have H1 : (some true) = some r := by rw [if_neg (show ¬ (false = true) by decide)] at H; exact H
                      clear H
                      have H := H1
                      clear H1
                      obtain rfl := Option.some.inj H
                      go_wp2
                      repeat (go_quiet (fail); try go_wp2)
                      go_ret
                      exact ⟨by first | rfl | (simp [errW_none, errW_some] <;> rfl) | (simp only [← hji8]; first | rfl | (simp [errW_none, errW_some] <;> rfl)) | (simp [*, errW_none, errW_some] <;> rfl), by repeat (first | (with_reducible first | exact HB.out | apply below_alloc | apply pw_below_drewN | apply below_drew1) | exact HB.out)⟩
          · rw [if_neg c11] at H
            exact absurd H (by simp)
        · rw [if_neg c10] at H
          exact absurd H (by simp)
      · rw [if_neg c9] at H
        exact absurd H (by simp)
    · rw [if_neg c7] at H
      exact absurd H (by simp)
  · replace c4 := Bool.eq_false_iff.mpr c4
    subst c4
    have H1 : (none) = some r := by rw [if_neg (show ¬ (false = true) by decide)] at H; exact H
    clear H
    have H := H1
    clear H1
    exact absurd H (by simp)

end Go.Proofs.Yteahohglkeimmaa.T
