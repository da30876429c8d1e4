/- Lists that are one are told so. -/
import Derived.Test.YtojjnifbnppliaaV0
namespace Go.Proofs.Ytojjnifbnppliaa.T
open Go.RowKit Go.Proofs.YtojjnifbnppliaaW.PrintWords Go.Proofs.YtojjnifbnppliaaW.PrintLast Go.Proofs.YtojjnifbnppliaaW.PrintMore
attribute [local go_sem] max2_int min2_int max_two min_two max_three min_three max_four min_four
set_option linter.unusedVariables false
set_option linter.unusedSimpArgs false
set_option maxHeartbeats 2000000 in
theorem SameBytes.calls (A0 : Option Addr) (c0 : Nat) (A1 : Option Addr) (c1 : Nat) (l : List Int) (w : World) (h0 : Kd.C (Kd.int .u8) w A0 l.length l) (h1 : Kd.C (Kd.int .u8) w A1 l.length l) :
    Calls Try.prog 13 #[.slice A0 l.length c0, .slice A1 l.length c1] w fun e w' => e = .returned (.bool true) ∧ Drawn0 w w' := by
  have HR0 := Aside0.mk h0
  have HR1 := Aside0.mk h1
  have hbig : l.length ≤ 9223372036854775807 := h0.2.1
  clear h0 h1
  go_enter Try.func13, Try.ntmps13
  go_wp2
  go_loopg [5] (l.length + 1) (fun gg s5 wr => ∃ i : Int, s5 = .int .i64 i ∧ Aside0 (0 ≤ i ∧ i ≤ l.length ∧ l.length - i < gg ∧ Drawn0 w wr))
  case atStart => exact ⟨0, rfl, ⟨by omega, by omega, by omega, Drawn0.refl _⟩⟩
  case round =>
    obtain ⟨i, rfl, Z⟩ := hrel
    obtain ⟨z1, z2, z3, ⟨⟨m, rfl⟩⟩⟩ := Z.out
    by_cases hlt : i < l.length
    · have d1 : decide (i < (l.length : Int)) = true := decide_eq_true hlt
      obtain ⟨ad0, rfl, x0⟩ := Kd.at_int HR0.out i z1 hlt
      obtain ⟨ad1, rfl, x1⟩ := Kd.at_int HR1.out i z1 hlt
      have p1 := eq_true z1
      have p2 := eq_true hlt
      have ZZ := Aside0.mk (And.intro z1 (And.intro hlt z3))
      clear z1 z2 z3 hlt
      go_wp2
      go_quiet (fail)
      go_wp2
      have hw : wrap64 (i + 1) = i + 1 := by have := ZZ.out; unfold wrap64; omega
      rw [hw]
      obtain ⟨gg, rfl⟩ : ∃ m, gk = m + 1 := ⟨gk - 1, by have := ZZ.out; omega⟩
      go_roundg gg
      case measure => omega
      case rel => exact ⟨i + 1, rfl, ⟨by have := ZZ.out; omega, by have := ZZ.out; omega, by have := ZZ.out; omega, by repeat (first | exact Drawn0.refl _ | apply Drawn0.step)⟩⟩
    · have d1 : decide (i < (l.length : Int)) = false := decide_eq_false hlt
      clear z1 z2 z3 hlt
      go_wp2
      go_ret
      exact ⟨rfl, by repeat (first | exact Drawn0.refl _ | apply Drawn0.step)⟩
set_option maxHeartbeats 2000000 in
theorem SameInts.calls (A0 : Option Addr) (c0 : Nat) (A1 : Option Addr) (c1 : Nat) (l : List Int) (w : World) (h0 : Kd.C (Kd.int .i64) w A0 l.length l) (h1 : Kd.C (Kd.int .i64) w A1 l.length l) :
    Calls Try.prog 31 #[.slice A0 l.length c0, .slice A1 l.length c1] w fun e w' => e = .returned (.bool true) ∧ Drawn0 w w' := by
  have HR0 := Aside0.mk h0
  have HR1 := Aside0.mk h1
  have hbig : l.length ≤ 9223372036854775807 := h0.2.1
  clear h0 h1
  go_enter Try.func31, Try.ntmps31
  go_wp2
  go_loopg [5] (l.length + 1) (fun gg s5 wr => ∃ i : Int, s5 = .int .i64 i ∧ Aside0 (0 ≤ i ∧ i ≤ l.length ∧ l.length - i < gg ∧ Drawn0 w wr))
  case atStart => exact ⟨0, rfl, ⟨by omega, by omega, by omega, Drawn0.refl _⟩⟩
  case round =>
    obtain ⟨i, rfl, Z⟩ := hrel
    obtain ⟨z1, z2, z3, ⟨⟨m, rfl⟩⟩⟩ := Z.out
    by_cases hlt : i < l.length
    · have d1 : decide (i < (l.length : Int)) = true := decide_eq_true hlt
      obtain ⟨ad0, rfl, x0⟩ := Kd.at_int HR0.out i z1 hlt
      obtain ⟨ad1, rfl, x1⟩ := Kd.at_int HR1.out i z1 hlt
      have p1 := eq_true z1
      have p2 := eq_true hlt
      have ZZ := Aside0.mk (And.intro z1 (And.intro hlt z3))
      clear z1 z2 z3 hlt
      go_wp2
      go_quiet (fail)
      go_wp2
      have hw : wrap64 (i + 1) = i + 1 := by have := ZZ.out; unfold wrap64; omega
      rw [hw]
      obtain ⟨gg, rfl⟩ : ∃ m, gk = m + 1 := ⟨gk - 1, by have := ZZ.out; omega⟩
      go_roundg gg
      case measure => omega
      case rel => exact ⟨i + 1, rfl, ⟨by have := ZZ.out; omega, by have := ZZ.out; omega, by have := ZZ.out; omega, by repeat (first | exact Drawn0.refl _ | apply Drawn0.step)⟩⟩
    · have d1 : decide (i < (l.length : Int)) = false := decide_eq_false hlt
      clear z1 z2 z3 hlt
      go_wp2
      go_ret
      exact ⟨rfl, by repeat (first | exact Drawn0.refl _ | apply Drawn0.step)⟩
set_option maxHeartbeats 2000000 in
theorem SameBools.calls (A0 : Option Addr) (c0 : Nat) (A1 : Option Addr) (c1 : Nat) (l : List Bool) (w : World) (h0 : Kd.C Kd.bool w A0 l.length l) (h1 : Kd.C Kd.bool w A1 l.length l) :
    Calls Try.prog 32 #[.slice A0 l.length c0, .slice A1 l.length c1] w fun e w' => e = .returned (.bool true) ∧ Drawn0 w w' := by
  have HR0 := Aside0.mk h0
  have HR1 := Aside0.mk h1
  have hbig : l.length ≤ 9223372036854775807 := h0.2.1
  clear h0 h1
  go_enter Try.func32, Try.ntmps32
  go_wp2
  go_loopg [5] (l.length + 1) (fun gg s5 wr => ∃ i : Int, s5 = .int .i64 i ∧ Aside0 (0 ≤ i ∧ i ≤ l.length ∧ l.length - i < gg ∧ Drawn0 w wr))
  case atStart => exact ⟨0, rfl, ⟨by omega, by omega, by omega, Drawn0.refl _⟩⟩
  case round =>
    obtain ⟨i, rfl, Z⟩ := hrel
    obtain ⟨z1, z2, z3, ⟨⟨m, rfl⟩⟩⟩ := Z.out
    by_cases hlt : i < l.length
    · have d1 : decide (i < (l.length : Int)) = true := decide_eq_true hlt
      obtain ⟨ad0, rfl, x0⟩ := Kd.at_bool HR0.out i z1 hlt
      obtain ⟨ad1, rfl, x1⟩ := Kd.at_bool HR1.out i z1 hlt
      have p1 := eq_true z1
      have p2 := eq_true hlt
      have ZZ := Aside0.mk (And.intro z1 (And.intro hlt z3))
      clear z1 z2 z3 hlt
      go_wp2
      go_quiet (fail)
      go_wp2
      have hw : wrap64 (i + 1) = i + 1 := by have := ZZ.out; unfold wrap64; omega
      rw [hw]
      obtain ⟨gg, rfl⟩ : ∃ m, gk = m + 1 := ⟨gk - 1, by have := ZZ.out; omega⟩
      go_roundg gg
      case measure => omega
      case rel => exact ⟨i + 1, rfl, ⟨by have := ZZ.out; omega, by have := ZZ.out; omega, by have := ZZ.out; omega, by repeat (first | exact Drawn0.refl _ | apply Drawn0.step)⟩⟩
    · have d1 : decide (i < (l.length : Int)) = false := decide_eq_false hlt
      clear z1 z2 z3 hlt
      go_wp2
      go_ret
      exact ⟨rfl, by repeat (first | exact Drawn0.refl _ | apply Drawn0.step)⟩
end Go.Proofs.Ytojjnifbnppliaa.T
