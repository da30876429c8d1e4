/- This text tells functions of the seat as plain functions, with their contracts, as the machine's calls meet them. -/
import Derived.Test.YtgglmibbbjallaaTa6
namespace Go.Proofs.Ytgglmibbbjallaa.T
open Go.RowKit Go.Proofs.YtgglmibbbjallaaW.PrintWords Go.Proofs.YtgglmibbbjallaaW.PrintLast Go.Proofs.YtgglmibbbjallaaW.PrintMore
attribute [local go_sem] max2_int min2_int max_two min_two max_three min_three max_four min_four   -- for this text's walks alone
set_option linter.unusedVariables false
set_option linter.unusedSimpArgs false

/-! ### undercroftlaw04_same: function 18 -/
mutual
def undercroftlaw04_same.j0 : Nat→Bool→Int→List (S40)→Int→List (S38)→Option (Bool)
  | 0,_,_,_,_,_=>none
  | k + 1,x19,x269000,x269001,x270000,x270001=>if x19 = true then(some false) else(undercroftlaw04_same.l0 k 0 x269000 x269001 x270000 x270001)
def undercroftlaw04_same.l0 : Nat→Int→Int→List (S40)→Int→List (S38)→Option (Bool)
  | 0,_,_,_,_,_=>none
  | k + 1,x5,x269000,x269001,x270000,x270001=>if x5 < (x269001.length : Int) then(if 0 ≤ x5 then(if x5 < (x270001.length : Int) then((undercroftlaw04_samePacket.f k ((rd_T40 x269001 x5).f0) ((rd_T40 x269001 x5).f1) ((rd_T40 x269001 x5).f2) ((rd_T38 x270001 x5).f0) ((rd_T38 x270001 x5).f1) ((rd_T38 x270001 x5).f2)).bind fun t272=>(if t272 = true then(undercroftlaw04_same.l0 k (wrap64 (x5 + 1)) x269000 x269001 x270000 x270001) else(some false))) else(none)) else(none)) else(some true)
end
def undercroftlaw04_same.f (k : Nat) (a0_0 : Int) (l0_1 : List (S40)) (a1_0 : Int) (l1_1 : List (S38)) : Option (Bool):=if a0_0 = a1_0 then(undercroftlaw04_same.j0 k ((l0_1.length : Int) != (l1_1.length : Int)) a0_0 l0_1 a1_0 l1_1) else(undercroftlaw04_same.j0 k true a0_0 l0_1 a1_0 l1_1)
theorem undercroftlaw04_same.mono_l : ∀ k,(∀ y0 y1 y2 y3 y4,LeO (undercroftlaw04_same.j0 k y0 y1 y2 y3 y4) (undercroftlaw04_same.j0 (k + 1) y0 y1 y2 y3 y4))∧(∀ y0 y1 y2 y3 y4,LeO (undercroftlaw04_same.l0 k y0 y1 y2 y3 y4) (undercroftlaw04_same.l0 (k + 1) y0 y1 y2 y3 y4))
  | 0=>⟨fun _ _ _ _ _ r h=>by simp [undercroftlaw04_same.j0] at h,fun _ _ _ _ _ r h=>by simp [undercroftlaw04_same.l0] at h⟩
  | k + 1=>by
    obtain ⟨ih0,ih1⟩:=undercroftlaw04_same.mono_l k
    refine⟨?_,?_⟩
    · intro y0 y1 y2 y3 y4
      unfold undercroftlaw04_same.j0
      repeat' first
      | (with_reducible exact ih0 _ _ _ _ _)
      | (with_reducible exact ih1 _ _ _ _ _)
      | (with_reducible exact undercroftlaw04_samePacket.mono _ _ _ _ _ _ _)
      | (with_reducible exact LeO.refl _)
      | (with_reducible exact LeO.none _)
      | (with_reducible refine LeO.ite ?_ ?_)
      | (with_reducible refine LeO.bind ?_ (fun _=>?_))
      | exact ih0 _ _ _ _ _
      | exact ih1 _ _ _ _ _
      | exact undercroftlaw04_samePacket.mono _ _ _ _ _ _ _
      | exact LeO.none _
      | refine LeO.ite ?_ ?_
      | refine LeO.bind ?_ (fun _=>?_)
    · intro y0 y1 y2 y3 y4
      unfold undercroftlaw04_same.l0
      repeat' first
      | (with_reducible exact ih0 _ _ _ _ _)
      | (with_reducible exact ih1 _ _ _ _ _)
      | (with_reducible exact undercroftlaw04_samePacket.mono _ _ _ _ _ _ _)
      | (with_reducible exact LeO.refl _)
      | (with_reducible exact LeO.none _)
      | (with_reducible refine LeO.ite ?_ ?_)
      | (with_reducible refine LeO.bind ?_ (fun _=>?_))
      | exact ih0 _ _ _ _ _
      | exact ih1 _ _ _ _ _
      | exact undercroftlaw04_samePacket.mono _ _ _ _ _ _ _
      | exact LeO.none _
      | refine LeO.ite ?_ ?_
      | refine LeO.bind ?_ (fun _=>?_)
theorem undercroftlaw04_same.mono : ∀ a0 a1 a2 a3 k,LeO (undercroftlaw04_same.f k a0 a1 a2 a3) (undercroftlaw04_same.f (k + 1) a0 a1 a2 a3):=by
  intro a0 a1 a2 a3 k
  obtain ⟨ih0,ih1⟩:=undercroftlaw04_same.mono_l k
  unfold undercroftlaw04_same.f
  repeat' first
      | (with_reducible exact ih0 _ _ _ _ _)
      | (with_reducible exact ih1 _ _ _ _ _)
      | (with_reducible exact undercroftlaw04_samePacket.mono _ _ _ _ _ _ _)
      | (with_reducible exact LeO.refl _)
      | (with_reducible exact LeO.none _)
      | (with_reducible refine LeO.ite ?_ ?_)
      | (with_reducible refine LeO.bind ?_ (fun _=>?_))
      | exact ih0 _ _ _ _ _
      | exact ih1 _ _ _ _ _
      | exact undercroftlaw04_samePacket.mono _ _ _ _ _ _ _
      | exact LeO.none _
      | refine LeO.ite ?_ ?_
      | refine LeO.bind ?_ (fun _=>?_)
def undercroftlaw04_same.T6 : Bool × List (List Nat × List Nat):=(true,[([],[]),([0],[0]),([],[]),([1,2],[1,2]),([3],[3]),([],[]),([5],[5]),([],[]),([6,7],[6,7]),([8],[8]),([4,9],[4,9]),([10],[10])])
def undercroftlaw04_same.B6 : List Nat:=[0,1,0,7,15,0,32,0,224,480,1023,2047]
theorem undercroftlaw04_same.tab6 : rtab .any (opsOf Try.f18 6) = undercroftlaw04_same.T6:=by kernel_rfl
theorem undercroftlaw04_same.bits6 : waitsOk undercroftlaw04_same.T6.2 undercroftlaw04_same.B6 = true:=by kernel_rfl
set_option maxHeartbeats 8000000 in
set_option maxRecDepth 100000 in
theorem undercroftlaw04_same.calls (k : Nat) (a0_0 : Int) (A0_1 : Option Addr) (c0_1 : Nat) (l0_1 : List (S40)) (a1_0 : Int) (A1_1 : Option Addr) (c1_1 : Nat) (l1_1 : List (S38)) (r : Bool) (w : World) (hr0_1 : Kd.C k40 w A0_1 l0_1.length l0_1) (hc0_1 : l0_1.length ≤ c0_1) (hr1_1 : Kd.C k38 w A1_1 l1_1.length l1_1) (hc1_1 : l1_1.length ≤ c1_1) (h : undercroftlaw04_same.f k a0_0 l0_1 a1_0 l1_1 = some r) :
    Calls Try.prog 18 #[.agg #[.int .i64 a0_0,.slice A0_1 l0_1.length c0_1],.agg #[.int .i64 a1_0,.slice A1_1 l1_1.length c1_1]] w fun e w'=>e = .returned (.bool r)∧Below w.heap.size w w':=by
  have hu32:=Try.underlying32
  have hu24:=Try.underlying24
  have hu40:=Try.underlying40
  have hu38:=Try.underlying38
  have HR0_1:=mkA hr0_1
  have HC0_1:=mkA hc0_1
  clear hr0_1 hc0_1
  have HR1_1:=mkA hr1_1
  have HC1_1:=mkA hc1_1
  clear hr1_1 hc1_1
  have HB:=mkA (Below.refl w.heap.size w)
  have H : (if a0_0 = a1_0 then(undercroftlaw04_same.j0 k ((l0_1.length : Int) != (l1_1.length : Int)) a0_0 l0_1 a1_0 l1_1) else(undercroftlaw04_same.j0 k true a0_0 l0_1 a1_0 l1_1)) = some r:=h
  clear h
  have HC3:=mkA H
  clear H
  go_enter Try.func18,Try.ntmps18
  go_upto_region 1 with (first|((with_reducible refine gate_dst (N:=2) rfl ?_);(try (refine gate_guard (by rfl) ?_;dsimp only));refine box_event ?hg (N:=2) ?hd (cs:=#[.int .i64 a0_0,.slice A0_1 l0_1.length c0_1]) (t:=32) ?hr ?_;(case hd=>rfl);(case hg=>rfl);(case hr=>first|(go_simp;done)|(go_simp;rfl));intro gb268 hg w4 hbox hb;have n0_:=mkA (below_step (by repeat (with_reducible first|exact HB.out|apply bwA|apply bwN|apply bwD)) hb);have n1_:=mkA (hbox);have n2_:=mkA ((by rw [hg];exact(bwZ (by repeat (with_reducible first|exact HB.out|apply bwA|apply bwN|apply bwD))) : w.heap.size ≤ gb268));have n3_:=mkA ((by rw [hg];exact(bwZ (by repeat (with_reducible first|exact HB.out|apply bwA|apply bwN|apply bwD))) : w.heap.size ≤ gb268));clear HB;have HB:=n0_;have BK268:=n1_;have GW268:=n2_;have GE268:=n3_;clear n0_ n1_ n2_ n3_;clear hb hbox hg)|((with_reducible refine gate_dst (N:=3) rfl ?_);(try (refine gate_guard (by rfl) ?_;dsimp only));refine box_event ?hg (N:=3) ?hd (cs:=#[.int .i64 a1_0,.slice A1_1 l1_1.length c1_1]) (t:=24) ?hr ?_;(case hd=>rfl);(case hg=>rfl);(case hr=>first|(go_simp;done)|(go_simp;rfl));intro gb269 hg w5 hbox hb;have n0_:=mkA (bkB (g:=gb268) (o:=.cells #[.int .i64 a0_0,.slice A0_1 l0_1.length c0_1] 32 (0,0)) (by(with_reducible repeat first|apply bkN|apply bkD|apply bkA);exact BK268.out) hb);have n1_:=mkA (below_step (by repeat (with_reducible first|exact HB.out|apply bwA|apply bwN|apply bwD|refine bwS ?_ GE268.out)) hb);have n2_:=mkA (hbox);have n3_:=mkA ((by rw [hg];exact(bwZ (by repeat (with_reducible first|exact HB.out|apply bwA|apply bwN|apply bwD|refine bwS ?_ GE268.out))) : w.heap.size ≤ gb269));have n4_:=mkA ((by rw [hg];exact(bwZ (by repeat (with_reducible first|exact HB.out|apply bwA|apply bwN|apply bwD|refine bwS ?_ GE268.out))) : w.heap.size ≤ gb269));have n5_:=mkA ((by rw [hg];exact Nat.ne_of_lt (blk_lt (g:=gb268) (o:=.cells #[.int .i64 a0_0,.slice A0_1 l0_1.length c0_1] 32 (0,0)) (by(with_reducible repeat first|apply bkN|apply bkD|apply bkA);exact BK268.out)) : gb268 ≠ gb269));have n6_:=mkA ((by rw [hg];exact Nat.ne_of_gt (blk_lt (g:=gb268) (o:=.cells #[.int .i64 a0_0,.slice A0_1 l0_1.length c0_1] 32 (0,0)) (by(with_reducible repeat first|apply bkN|apply bkD|apply bkA);exact BK268.out)) : gb269 ≠ gb268));clear BK268;clear HB;have BK268:=n0_;have HB:=n1_;have BK269:=n2_;have GW269:=n3_;have GE269:=n4_;have NB268_269:=n5_;have NB269_268:=n6_;clear n0_ n1_ n2_ n3_ n4_ n5_ n6_;clear hb hbox hg))
  (try simp only [Act.put,lsA,lsZ,lsS])
  go_cut [19] (fun v19 wc=>∃ (kq : Nat) (x19_2 : Bool),v19 = .bool x19_2∧Aside0 (undercroftlaw04_same.j0 kq x19_2 a0_0 l0_1 a1_0 l1_1 = some r)∧Aside0 (kq ≤ k)∧Aside0 (wc.heap[gb268]? = some (.cells #[.int .i64 a0_0,(.slice A0_1 l0_1.length c0_1)] 32 (0,0)))∧Aside0 (wc.heap[gb269]? = some (.cells #[.int .i64 a1_0,(.slice A1_1 l1_1.length c1_1)] 24 (0,0)))∧Aside0 (Below w.heap.size w wc))
  case first =>
    have H:=HC3.out
    clear HC3
    by_cases c6 : a0_0 = a1_0
    · rw [if_pos c6] at H
      have c6b0 : (a0_0 == a1_0) = true:=beq_iff_eq.mpr c6
      have c6b1 : (a0_0 != a1_0) = false:=bne_eq_false_iff_eq.mpr c6
      clear c6
      (first|rw [c6b0]|(simp only [i64_w,i32_w];rw [c6b0])|skip)
      have H':=mkA H
      clear H
      have hnb7:=NB268_269.out
      have hnc7:=NB269_268.out
      have hcz8_0 : w5.cell? ⟨gb268,0,none⟩ = some (.int .i64 a0_0):=(bkC BK268.out 0).trans rfl
      have hcz8_1 : w5.cell? ⟨gb268,1,none⟩ = some (.slice A0_1 l0_1.length c0_1):=(bkC BK268.out 1).trans rfl
      have hfz8_0:=bkF BK268.out 0
      have hfz8_1:=bkF BK268.out 1
      have hcz9_0 : w5.cell? ⟨gb269,0,none⟩ = some (.int .i64 a1_0):=(bkC BK269.out 0).trans rfl
      have hcz9_1 : w5.cell? ⟨gb269,1,none⟩ = some (.slice A1_1 l1_1.length c1_1):=(bkC BK269.out 1).trans rfl
      have hfz9_0:=bkF BK269.out 0
      have hfz9_1:=bkF BK269.out 1
      go_wp2
      go_meet
      case rel=>exact⟨_,(((l0_1.length : Int) != (l1_1.length : Int))),(by first|rfl|(simp;done)|(simp [*];done)),H',⟨by first|omega|exact Nat.le_refl _⟩,⟨by(with_reducible repeat first|apply bkN|apply bkD|apply bkA);exact BK268.out⟩,⟨by(with_reducible repeat first|apply bkN|apply bkD|apply bkA);exact BK269.out⟩,⟨by repeat (with_reducible first|exact HB.out|apply bwA|apply bwN|apply bwD|refine bwS ?_ GE268.out|refine bwS ?_ GE269.out)⟩⟩
    · rw [if_neg c6] at H
      have c6b0 : (a0_0 == a1_0) = false:=beq_eq_false_iff_ne.mpr c6
      have c6b1 : (a0_0 != a1_0) = true:=bne_iff_ne.mpr c6
      (first|rw [c6b0]|(simp only [i64_w,i32_w];rw [c6b0])|skip)
      have H':=mkA H
      clear H
      have hnb10:=NB268_269.out
      have hnc10:=NB269_268.out
      have hcz11_0 : w5.cell? ⟨gb268,0,none⟩ = some (.int .i64 a0_0):=(bkC BK268.out 0).trans rfl
      have hcz11_1 : w5.cell? ⟨gb268,1,none⟩ = some (.slice A0_1 l0_1.length c0_1):=(bkC BK268.out 1).trans rfl
      have hfz11_0:=bkF BK268.out 0
      have hfz11_1:=bkF BK268.out 1
      have hcz12_0 : w5.cell? ⟨gb269,0,none⟩ = some (.int .i64 a1_0):=(bkC BK269.out 0).trans rfl
      have hcz12_1 : w5.cell? ⟨gb269,1,none⟩ = some (.slice A1_1 l1_1.length c1_1):=(bkC BK269.out 1).trans rfl
      have hfz12_0:=bkF BK269.out 0
      have hfz12_1:=bkF BK269.out 1
      go_wp2
      go_meet
      case rel=>exact⟨_,(true),(by first|rfl|(simp;done)|(simp [*];done)),H',⟨by first|omega|exact Nat.le_refl _⟩,⟨by(with_reducible repeat first|apply bkN|apply bkD|apply bkA);exact BK268.out⟩,⟨by(with_reducible repeat first|apply bkN|apply bkD|apply bkA);exact BK269.out⟩,⟨by repeat (with_reducible first|exact HB.out|apply bwA|apply bwN|apply bwD|refine bwS ?_ GE268.out|refine bwS ?_ GE269.out)⟩⟩
  case rest =>
    clear HC3
    try clear c1
    try clear p2
    try clear c6
    try clear c6b0
    try clear c6b1
    try clear c7
    try clear c10
    try clear hcz11_0
    try clear hcz11_1
    try clear hcz12_0
    try clear hcz12_1
    try clear hcz8_0
    try clear hcz8_1
    try clear hcz9_0
    try clear hcz9_1
    try clear hfz11_0
    try clear hfz11_1
    try clear hfz12_0
    try clear hfz12_1
    try clear hfz8_0
    try clear hfz8_1
    try clear hfz9_0
    try clear hfz9_1
    obtain ⟨kq,x19_2,rfl,HA,HJ2,BK268,BK269,HB⟩:=hcut
    cases kq with
    | zero=>exact absurd HA.out (by simp [undercroftlaw04_same.j0])
    | succ kj2 =>
      have H:=HA.out
      clear HA
      simp only [undercroftlaw04_same.j0] at H
      by_cases c13 : x19_2 = true
      · subst c13
        have H1 : (some false) = some r:=by rw [if_pos rfl] at H;exact H
        clear H
        have H:=H1
        clear H1
        obtain rfl:=Option.some.inj H
        go_wp2
        go_ret
        exact⟨by first|rfl|(simp [errW_none,errW_some] <;> rfl)|(simp [*,errW_none,errW_some] <;> rfl),by repeat (with_reducible first|exact HB.out|apply bwA|apply bwN|apply bwD|refine bwS ?_ GE268.out|refine bwS ?_ GE269.out)⟩
      · replace c13:=Bool.eq_false_iff.mpr c13
        subst c13
        have H1 : (undercroftlaw04_same.l0 kj2 0 a0_0 l0_1 a1_0 l1_1) = some r:=by rw [if_neg (show ¬ (false = true) by decide)] at H;exact H
        clear H
        have H:=H1
        clear H1
        have H':=mkA H
        clear H
        go_wp2
        go_loopg [5] kj2 (fun kq v5 w'=>∃ (x5_2 : Int),v5 = .int .i64 x5_2∧Aside0 (undercroftlaw04_same.l0 kq x5_2 a0_0 l0_1 a1_0 l1_1 = some r)∧Aside0 (kq ≤ kj2)∧Aside0 (w'.heap[gb268]? = some (.cells #[.int .i64 a0_0,(.slice A0_1 l0_1.length c0_1)] 32 (0,0)))∧Aside0 (w'.heap[gb269]? = some (.cells #[.int .i64 a1_0,(.slice A1_1 l1_1.length c1_1)] 24 (0,0)))∧Aside0 (Below w.heap.size w w'))
        case atStart=>exact⟨(0),(by first|rfl|(simp;done)|(simp [*];done)),H',⟨Nat.le_refl _⟩,⟨by(with_reducible repeat first|apply bkN|apply bkD|apply bkA);exact BK268.out⟩,⟨by(with_reducible repeat first|apply bkN|apply bkD|apply bkA);exact BK269.out⟩,⟨by repeat (with_reducible first|exact HB.out|apply bwA|apply bwN|apply bwD|refine bwS ?_ GE268.out|refine bwS ?_ GE269.out)⟩⟩
        case round =>
          clear H'
          try clear c1
          try clear p2
          try clear c6
          try clear c6b0
          try clear c6b1
          try clear c7
          try clear c10
          try clear c13
          try clear hcz11_0
          try clear hcz11_1
          try clear hcz12_0
          try clear hcz12_1
          try clear hcz8_0
          try clear hcz8_1
          try clear hcz9_0
          try clear hcz9_1
          try clear hfz11_0
          try clear hfz11_1
          try clear hfz12_0
          try clear hfz12_1
          try clear hfz8_0
          try clear hfz8_1
          try clear hfz9_0
          try clear hfz9_1
          try clear p2
          obtain ⟨x5_2,rfl,HA,HK2,BK268,BK269,HB⟩:=hrel
          cases gk with
          | zero=>exact absurd HA.out (by simp [undercroftlaw04_same.l0])
          | succ k2 =>
            have H:=HA.out
            clear HA
            simp only [undercroftlaw04_same.l0] at H
            by_cases c14 : x5_2 < (l0_1.length : Int)
            · rw [if_pos c14] at H
              have c14b0 : decide (x5_2 < (l0_1.length : Int)) = true:=decide_eq_true c14
              clear c14
              by_cases c15 : 0 ≤ x5_2
              · rw [if_pos c15] at H
                have c15b0 : decide (0 ≤ x5_2) = true:=decide_eq_true c15
                clear c15
                by_cases c16 : x5_2 < (l1_1.length : Int)
                · rw [if_pos c16] at H
                  have c16b0 : decide (x5_2 < (l1_1.length : Int)) = true:=decide_eq_true c16
                  clear c16
                  replace H:=Option.bind_eq_some_iff.mp H
                  obtain ⟨t272,A170,H⟩:=H
                  replace H : (if t272 = true then(undercroftlaw04_same.l0 k2 (wrap64 (x5_2 + 1)) a0_0 l0_1 a1_0 l1_1) else(some false)) = some r:=H
                  have A17:=mkA A170
                  clear A170
                  by_cases c18 : t272 = true
                  · subst c18
                    have H1 : (undercroftlaw04_same.l0 k2 (wrap64 (x5_2 + 1)) a0_0 l0_1 a1_0 l1_1) = some r:=by rw [if_pos rfl] at H;exact H
                    clear H
                    have H:=H1
                    clear H1
                    have H':=mkA H
                    clear H
                    have hnb19:=NB268_269.out
                    have hnc19:=NB269_268.out
                    have hcz20_0 : wr.cell? ⟨gb268,0,none⟩ = some (.int .i64 a0_0):=(bkC BK268.out 0).trans rfl
                    have hcz20_1 : wr.cell? ⟨gb268,1,none⟩ = some (.slice A0_1 l0_1.length c0_1):=(bkC BK268.out 1).trans rfl
                    have hfz20_0:=bkF BK268.out 0
                    have hfz20_1:=bkF BK268.out 1
                    try go_wp2
                    have n0_:=mkA (bkD BK268.out)
                    have n1_:=mkA (bkD BK269.out)
                    have n2_:=mkA (bwD HB.out)
                    clear BK268
                    clear BK269
                    clear HB
                    have BK268:=n0_
                    have BK269:=n1_
                    have HB:=n2_
                    clear n0_ n1_ n2_
                    have p270 : 0 ≤ (x5_2 : Int):=odt (by first|(with_reducible assumption)|assumption)
                    have q270 : x5_2 < (l0_1.length : Int):=odt (by first|(with_reducible assumption)|assumption)
                    obtain ⟨ad270,A270_2,c270_2,e270,hx270_0,hx270_1,hx270_2,hl270_2,hi270_2⟩:=at_T40 HR0_1.out x5_2 p270 q270
                    have hw270_2:=hx270_2
                    have hw270_1:=hx270_1
                    have hw270_0:=hx270_0
                    cases e270
                    replace hx270_0:=(HB.out.cell (blC w _ hx270_0)).trans hx270_0
                    replace hx270_1:=(HB.out.cell (blC w _ hx270_1)).trans hx270_1
                    replace hx270_2:=(HB.out.cell (blC w _ hx270_2)).trans hx270_2
                    have HR270_2:=mkA hi270_2
                    have HC270_2:=mkA hl270_2
                    clear hi270_2 hl270_2
                    replace p270:=eq_true p270
                    replace q270:=eq_true q270
                    have p271 : 0 ≤ (x5_2 : Int):=odt (by first|(with_reducible assumption)|assumption)
                    have q271 : x5_2 < (l1_1.length : Int):=odt (by first|(with_reducible assumption)|assumption)
                    obtain ⟨ad271,A271_2,c271_2,e271,hx271_0,hx271_1,hx271_2,hl271_2,hi271_2⟩:=at_T38 HR1_1.out x5_2 p271 q271
                    have hw271_2:=hx271_2
                    have hw271_1:=hx271_1
                    have hw271_0:=hx271_0
                    cases e271
                    replace hx271_0:=(HB.out.cell (blC w _ hx271_0)).trans hx271_0
                    replace hx271_1:=(HB.out.cell (blC w _ hx271_1)).trans hx271_1
                    replace hx271_2:=(HB.out.cell (blC w _ hx271_2)).trans hx271_2
                    have HR271_2:=mkA hi271_2
                    have HC271_2:=mkA hl271_2
                    clear hi271_2 hl271_2
                    replace p271:=eq_true p271
                    replace q271:=eq_true q271
                    refine start_ (n:=12) (S:=fun w'=>w'.cell? ⟨gb268,0,none⟩ = some (.int .i64 a0_0)∧w'.cell? ⟨gb268,1,none⟩ = some (.slice (some ad270) l0_1.length c0_1)∧w'.cell? ⟨gb269,0,none⟩ = some (.int .i64 a1_0)∧w'.cell? ⟨gb269,1,none⟩ = some (.slice (some ad271) l1_1.length c1_1)∧w'.cell? (ad270.add ((x5_2).toNat * 3)) = some (.int .i64 ((rd_T40 l0_1 x5_2).f0))∧w'.cell? ⟨(ad270.add ((x5_2).toNat * 3)).block,(ad270.add ((x5_2).toNat * 3)).off + 1,none⟩ = some (.int .i64 ((rd_T40 l0_1 x5_2).f1))∧w'.cell? ⟨(ad270.add ((x5_2).toNat * 3)).block,(ad270.add ((x5_2).toNat * 3)).off + 2,none⟩ = some (.slice A270_2 ((rd_T40 l0_1 x5_2).f2).length c270_2)∧w'.cell? (ad271.add ((x5_2).toNat * 3)) = some (.int .i64 ((rd_T38 l1_1 x5_2).f0))∧w'.cell? ⟨(ad271.add ((x5_2).toNat * 3)).block,(ad271.add ((x5_2).toNat * 3)).off + 1,none⟩ = some (.int .i64 ((rd_T38 l1_1 x5_2).f1))∧w'.cell? ⟨(ad271.add ((x5_2).toNat * 3)).block,(ad271.add ((x5_2).toNat * 3)).off + 2,none⟩ = some (.slice A271_2 ((rd_T38 l1_1 x5_2).f2).length c271_2)) (ds:=[]) #[false,false,false,false,false,false,false,false,false,false,false,false] (by kernel_rfl) rfl rfl ⟨(bkC BK268.out 0).trans rfl,(bkC BK268.out 1).trans rfl,(bkC BK269.out 0).trans rfl,(bkC BK269.out 1).trans rfl,((HB.out.cell (blC w _ hw270_0)).trans hw270_0),((HB.out.cell (blC w _ hw270_1)).trans hw270_1),((HB.out.cell (blC w _ hw270_2)).trans hw270_2),((HB.out.cell (blC w _ hw271_0)).trans hw271_0),((HB.out.cell (blC w _ hw271_1)).trans hw271_1),((HB.out.cell (blC w _ hw271_2)).trans hw271_2)⟩ (fun hHeld=>?_);refine with_tabW undercroftlaw04_same.tab6 undercroftlaw04_same.bits6 (fun HT_ HW_=>?_)
                    generalize wr.drew = w21 at BK268 BK269 HB HR270_2 HR271_2 hx270_0 hx270_1 hx270_2 hx271_0 hx271_1 hx271_2 hHeld ⊢
                    refine pure_ (i:=0) (N:=some 27) (v:=?_) (a':=?_) #[true,false,false,false,false,false,false,false,false,false,false,false] rfl rfl (any_of HT_.out (by kernel_rfl)) (fun _ _ _ h=>h) (Or.inl ⟨by rfl,?_⟩) ?_ ?_
                    rotate_left
                    · intro w'
                      go_simp
                      with_reducible rfl
                    rotate_left
                    · simp only [Act.put,lsA,lsZ,lsS,i64_w,i32_w]
                      rfl
                    refine pure_ (i:=2) (N:=some 29) (v:=?_) (a':=?_) #[true,false,true,false,false,false,false,false,false,false,false,false] rfl rfl (any_of HT_.out (by kernel_rfl)) (fun _ _ _ h=>h) (Or.inl ⟨by rfl,?_⟩) ?_ ?_
                    rotate_left
                    · intro w'
                      go_simp
                      with_reducible rfl
                    rotate_left
                    · simp only [Act.put,lsA,lsZ,lsS,i64_w,i32_w]
                      rfl
                    refine pure_ (i:=5) (N:=some 32) (v:=?_) (a':=?_) #[true,false,true,false,false,true,false,false,false,false,false,false] rfl rfl (any_of HT_.out (by kernel_rfl)) (fun _ _ _ h=>h) (Or.inl ⟨by rfl,?_⟩) ?_ ?_
                    rotate_left
                    · intro w'
                      go_simp
                      with_reducible rfl
                    rotate_left
                    · simp only [Act.put,lsA,lsZ,lsS,i64_w,i32_w]
                      rfl
                    refine pure_ (i:=7) (N:=some 34) (v:=?_) (a':=?_) #[true,false,true,false,false,true,false,true,false,false,false,false] rfl rfl (any_of HT_.out (by kernel_rfl)) (fun _ _ _ h=>h) (Or.inl ⟨by rfl,?_⟩) ?_ ?_
                    rotate_left
                    · intro w'
                      go_simp
                      with_reducible rfl
                    rotate_left
                    · simp only [Act.put,lsA,lsZ,lsS,i64_w,i32_w]
                      rfl
                    refine take_ (i:=1) (N:=some 28) (v:=?_) (a':=?_) #[true,true,true,false,false,true,false,true,false,false,false,false] rfl rfl (take_ofW HT_.out HW_.out (by kernel_rfl)) (fun _ _ _ h=>h) (Or.inl ⟨by rfl,?_⟩) hHeld ?_ ?_
                    rotate_left
                    · rintro w' ⟨s0,s1,s2,s3,s4,s5,s6,s7,s8,s9⟩
                      go_simp
                      with_reducible rfl
                    rotate_left
                    · simp only [Act.put,lsA,lsZ,lsS,i64_w,i32_w]
                      rfl
                    refine pure_ (i:=3) (N:=some 30) (v:=?_) (a':=?_) #[true,true,true,true,false,true,false,true,false,false,false,false] rfl rfl (any_of HT_.out (by kernel_rfl)) (fun _ _ _ h=>h) (Or.inl ⟨by rfl,?_⟩) ?_ ?_
                    rotate_left
                    · intro w'
                      go_simp
                      with_reducible rfl
                    rotate_left
                    · simp only [Act.put,lsA,lsZ,lsS,i64_w,i32_w]
                      rfl
                    refine take_ (i:=4) (N:=some 31) (v:=?_) (a':=?_) #[true,true,true,true,true,true,false,true,false,false,false,false] rfl rfl (take_ofW HT_.out HW_.out (by kernel_rfl)) (fun _ _ _ h=>h) (Or.inl ⟨by rfl,?_⟩) hHeld ?_ ?_
                    rotate_left
                    · rintro w' ⟨s0,s1,s2,s3,s4,s5,s6,s7,s8,s9⟩
                      go_simp
                      with_reducible rfl
                    rotate_left
                    · simp only [Act.put,lsA,lsZ,lsS,i64_w,i32_w]
                      rfl
                    refine take_ (i:=6) (N:=some 33) (v:=?_) (a':=?_) #[true,true,true,true,true,true,true,true,false,false,false,false] rfl rfl (take_ofW HT_.out HW_.out (by kernel_rfl)) (fun _ _ _ h=>h) (Or.inl ⟨by rfl,?_⟩) hHeld ?_ ?_
                    rotate_left
                    · rintro w' ⟨s0,s1,s2,s3,s4,s5,s6,s7,s8,s9⟩
                      go_simp
                      with_reducible rfl
                    rotate_left
                    · simp only [Act.put,lsA,lsZ,lsS,i64_w,i32_w]
                      rfl
                    refine pure_ (i:=8) (N:=some 35) (v:=?_) (a':=?_) #[true,true,true,true,true,true,true,true,true,false,false,false] rfl rfl (any_of HT_.out (by kernel_rfl)) (fun _ _ _ h=>h) (Or.inl ⟨by rfl,?_⟩) ?_ ?_
                    rotate_left
                    · intro w'
                      go_simp
                      with_reducible rfl
                    rotate_left
                    · simp only [Act.put,lsA,lsZ,lsS,i64_w,i32_w]
                      rfl
                    refine take_ (i:=9) (N:=some 36) (v:=?_) (a':=?_) #[true,true,true,true,true,true,true,true,true,true,false,false] rfl rfl (take_ofW HT_.out HW_.out (by kernel_rfl)) (fun _ _ _ h=>h) (Or.inl ⟨by rfl,?_⟩) hHeld ?_ ?_
                    rotate_left
                    · rintro w' ⟨s0,s1,s2,s3,s4,s5,s6,s7,s8,s9⟩
                      go_simp
                      with_reducible rfl
                    rotate_left
                    · simp only [Act.put,lsA,lsZ,lsS,i64_w,i32_w]
                      rfl
                    refine one_ (i:=10) (N:=some 37) #[true,true,true,true,true,true,true,true,true,true,true,false] rfl rfl (one_of HT_.out (by kernel_rfl)) (by decide) (fun K hK=>?_)
                    refine goes_ Try.func19 (by kernel_rfl) rfl #[.agg #[.int .i64 ((rd_T40 l0_1 x5_2).f0),.int .i64 ((rd_T40 l0_1 x5_2).f1),.slice A270_2 ((rd_T40 l0_1 x5_2).f2).length c270_2],.agg #[.int .i64 ((rd_T38 l1_1 x5_2).f0),.int .i64 ((rd_T38 l1_1 x5_2).f1),.slice A271_2 ((rd_T38 l1_1 x5_2).f2).length c271_2]] (by rfl) rfl rfl (by(try simp only [List.map_toArray,List.map_cons,List.map_nil]);first|done|rfl) ?_
                    with_reducible refine(undercroftlaw04_samePacket.calls k2 ((rd_T40 l0_1 x5_2).f0) ((rd_T40 l0_1 x5_2).f1) _ _ ((rd_T40 l0_1 x5_2).f2) ((rd_T38 l1_1 x5_2).f0) ((rd_T38 l1_1 x5_2).f1) _ _ ((rd_T38 l1_1 x5_2).f2) true _ ?side1 ?side2 ?side3 ?side4 A17.out).mono ?_
                    (case side1=>repeat (first|exact(Kd.C_below HR270_2.out HB.out)|(with_reducible refine Kd.C_alloc ?_ _)|(with_reducible refine Kd.C_drewN ?_ _)|(with_reducible refine Kd.C_drew ?_)))
                    (case side2=>exact HC270_2.out)
                    (case side3=>repeat (first|exact(Kd.C_below HR271_2.out HB.out)|(with_reducible refine Kd.C_alloc ?_ _)|(with_reducible refine Kd.C_drewN ?_ _)|(with_reducible refine Kd.C_drew ?_)))
                    (case side4=>exact HC271_2.out)
                    rintro e w22 ⟨rfl,hb⟩
                    refine⟨_,rfl,?_⟩
                    have n0_:=mkA (bkB (g:=gb268) (o:=.cells #[.int .i64 a0_0,.slice (some ad270) l0_1.length c0_1] 32 (0,0)) (by(with_reducible repeat first|apply bkN|apply bkD|apply bkA);exact BK268.out) hb)
                    have n1_:=mkA (bkB (g:=gb269) (o:=.cells #[.int .i64 a1_0,.slice (some ad271) l1_1.length c1_1] 24 (0,0)) (by(with_reducible repeat first|apply bkN|apply bkD|apply bkA);exact BK269.out) hb)
                    have n2_:=mkA (below_step (by repeat (with_reducible first|exact HB.out|apply bwA|apply bwN|apply bwD|refine bwS ?_ GE268.out|refine bwS ?_ GE269.out)) hb)
                    clear BK268
                    clear BK269
                    clear HB
                    have BK268:=n0_
                    have BK269:=n1_
                    have HB:=n2_
                    clear n0_ n1_ n2_
                    (try clear hb)
                    (try clear hb2)
                    (try clear hk)
                    (try clear hi)
                    refine hK.out _ _ ⟨(bkC BK268.out 0).trans rfl,(bkC BK268.out 1).trans rfl,(bkC BK269.out 0).trans rfl,(bkC BK269.out 1).trans rfl,((HB.out.cell (blC w _ hw270_0)).trans hw270_0),((HB.out.cell (blC w _ hw270_1)).trans hw270_1),((HB.out.cell (blC w _ hw270_2)).trans hw270_2),((HB.out.cell (blC w _ hw271_0)).trans hw271_0),((HB.out.cell (blC w _ hw271_1)).trans hw271_1),((HB.out.cell (blC w _ hw271_2)).trans hw271_2)⟩ (fun hHeld=>?_)
                    clear hK K
                    refine norm_ (a':=?_) ?_ ?_
                    rotate_left
                    · show Act.put _ (some 37) _ = _
                      simp only [Act.put,lsA,lsZ,lsS,i64_w,i32_w]
                      rfl
                    refine pure_ (i:=11) (N:=some 38) (v:=?_) (a':=?_) #[true,true,true,true,true,true,true,true,true,true,true,true] rfl rfl (any_of HT_.out (by kernel_rfl)) (fun _ _ _ h=>h) (Or.inl ⟨by rfl,?_⟩) ?_ ?_
                    rotate_left
                    · intro w'
                      go_simp
                      with_reducible rfl
                    rotate_left
                    · simp only [Act.put,lsA,lsZ,lsS,i64_w,i32_w]
                      rfl
                    refine done_ (done_of HT_.out (by kernel_rfl)) ?_
                    try go_wp2
                    go_roundg k2
                    case measure=>have:=HJ2.out;have:=HK2.out;omega
                    case rel=>exact⟨(wrap64 (x5_2 + 1)),(by first|rfl|(simp;done)|(simp [*];done)),H',⟨by have:=HJ2.out;have:=HK2.out;omega⟩,⟨by(with_reducible repeat first|apply bkN|apply bkD|apply bkA);exact BK268.out⟩,⟨by(with_reducible repeat first|apply bkN|apply bkD|apply bkA);exact BK269.out⟩,⟨by repeat (with_reducible first|exact HB.out|apply bwA|apply bwN|apply bwD|refine bwS ?_ GE268.out|refine bwS ?_ GE269.out)⟩⟩
                  · replace c18:=Bool.eq_false_iff.mpr c18
                    subst c18
                    have H1 : (some false) = some r:=by rw [if_neg (show ¬ (false = true) by decide)] at H;exact H
                    clear H
                    have H:=H1
                    clear H1
                    obtain rfl:=Option.some.inj H
                    have hnb23:=NB268_269.out
                    have hnc23:=NB269_268.out
                    have hcz24_0 : wr.cell? ⟨gb268,0,none⟩ = some (.int .i64 a0_0):=(bkC BK268.out 0).trans rfl
                    have hcz24_1 : wr.cell? ⟨gb268,1,none⟩ = some (.slice A0_1 l0_1.length c0_1):=(bkC BK268.out 1).trans rfl
                    have hfz24_0:=bkF BK268.out 0
                    have hfz24_1:=bkF BK268.out 1
                    try go_wp2
                    have n0_:=mkA (bkD BK268.out)
                    have n1_:=mkA (bkD BK269.out)
                    have n2_:=mkA (bwD HB.out)
                    clear BK268
                    clear BK269
                    clear HB
                    have BK268:=n0_
                    have BK269:=n1_
                    have HB:=n2_
                    clear n0_ n1_ n2_
                    have p270 : 0 ≤ (x5_2 : Int):=odt (by first|(with_reducible assumption)|assumption)
                    have q270 : x5_2 < (l0_1.length : Int):=odt (by first|(with_reducible assumption)|assumption)
                    obtain ⟨ad270,A270_2,c270_2,e270,hx270_0,hx270_1,hx270_2,hl270_2,hi270_2⟩:=at_T40 HR0_1.out x5_2 p270 q270
                    have hw270_2:=hx270_2
                    have hw270_1:=hx270_1
                    have hw270_0:=hx270_0
                    cases e270
                    replace hx270_0:=(HB.out.cell (blC w _ hx270_0)).trans hx270_0
                    replace hx270_1:=(HB.out.cell (blC w _ hx270_1)).trans hx270_1
                    replace hx270_2:=(HB.out.cell (blC w _ hx270_2)).trans hx270_2
                    have HR270_2:=mkA hi270_2
                    have HC270_2:=mkA hl270_2
                    clear hi270_2 hl270_2
                    replace p270:=eq_true p270
                    replace q270:=eq_true q270
                    have p271 : 0 ≤ (x5_2 : Int):=odt (by first|(with_reducible assumption)|assumption)
                    have q271 : x5_2 < (l1_1.length : Int):=odt (by first|(with_reducible assumption)|assumption)
                    obtain ⟨ad271,A271_2,c271_2,e271,hx271_0,hx271_1,hx271_2,hl271_2,hi271_2⟩:=at_T38 HR1_1.out x5_2 p271 q271
                    have hw271_2:=hx271_2
                    have hw271_1:=hx271_1
                    have hw271_0:=hx271_0
                    cases e271
                    replace hx271_0:=(HB.out.cell (blC w _ hx271_0)).trans hx271_0
                    replace hx271_1:=(HB.out.cell (blC w _ hx271_1)).trans hx271_1
                    replace hx271_2:=(HB.out.cell (blC w _ hx271_2)).trans hx271_2
                    have HR271_2:=mkA hi271_2
                    have HC271_2:=mkA hl271_2
                    clear hi271_2 hl271_2
                    replace p271:=eq_true p271
                    replace q271:=eq_true q271
                    refine start_ (n:=12) (S:=fun w'=>w'.cell? ⟨gb268,0,none⟩ = some (.int .i64 a0_0)∧w'.cell? ⟨gb268,1,none⟩ = some (.slice (some ad270) l0_1.length c0_1)∧w'.cell? ⟨gb269,0,none⟩ = some (.int .i64 a1_0)∧w'.cell? ⟨gb269,1,none⟩ = some (.slice (some ad271) l1_1.length c1_1)∧w'.cell? (ad270.add ((x5_2).toNat * 3)) = some (.int .i64 ((rd_T40 l0_1 x5_2).f0))∧w'.cell? ⟨(ad270.add ((x5_2).toNat * 3)).block,(ad270.add ((x5_2).toNat * 3)).off + 1,none⟩ = some (.int .i64 ((rd_T40 l0_1 x5_2).f1))∧w'.cell? ⟨(ad270.add ((x5_2).toNat * 3)).block,(ad270.add ((x5_2).toNat * 3)).off + 2,none⟩ = some (.slice A270_2 ((rd_T40 l0_1 x5_2).f2).length c270_2)∧w'.cell? (ad271.add ((x5_2).toNat * 3)) = some (.int .i64 ((rd_T38 l1_1 x5_2).f0))∧w'.cell? ⟨(ad271.add ((x5_2).toNat * 3)).block,(ad271.add ((x5_2).toNat * 3)).off + 1,none⟩ = some (.int .i64 ((rd_T38 l1_1 x5_2).f1))∧w'.cell? ⟨(ad271.add ((x5_2).toNat * 3)).block,(ad271.add ((x5_2).toNat * 3)).off + 2,none⟩ = some (.slice A271_2 ((rd_T38 l1_1 x5_2).f2).length c271_2)) (ds:=[]) #[false,false,false,false,false,false,false,false,false,false,false,false] (by kernel_rfl) rfl rfl ⟨(bkC BK268.out 0).trans rfl,(bkC BK268.out 1).trans rfl,(bkC BK269.out 0).trans rfl,(bkC BK269.out 1).trans rfl,((HB.out.cell (blC w _ hw270_0)).trans hw270_0),((HB.out.cell (blC w _ hw270_1)).trans hw270_1),((HB.out.cell (blC w _ hw270_2)).trans hw270_2),((HB.out.cell (blC w _ hw271_0)).trans hw271_0),((HB.out.cell (blC w _ hw271_1)).trans hw271_1),((HB.out.cell (blC w _ hw271_2)).trans hw271_2)⟩ (fun hHeld=>?_);refine with_tabW undercroftlaw04_same.tab6 undercroftlaw04_same.bits6 (fun HT_ HW_=>?_)
                    generalize wr.drew = w25 at BK268 BK269 HB HR270_2 HR271_2 hx270_0 hx270_1 hx270_2 hx271_0 hx271_1 hx271_2 hHeld ⊢
                    refine pure_ (i:=0) (N:=some 27) (v:=?_) (a':=?_) #[true,false,false,false,false,false,false,false,false,false,false,false] rfl rfl (any_of HT_.out (by kernel_rfl)) (fun _ _ _ h=>h) (Or.inl ⟨by rfl,?_⟩) ?_ ?_
                    rotate_left
                    · intro w'
                      go_simp
                      with_reducible rfl
                    rotate_left
                    · simp only [Act.put,lsA,lsZ,lsS,i64_w,i32_w]
                      rfl
                    refine pure_ (i:=2) (N:=some 29) (v:=?_) (a':=?_) #[true,false,true,false,false,false,false,false,false,false,false,false] rfl rfl (any_of HT_.out (by kernel_rfl)) (fun _ _ _ h=>h) (Or.inl ⟨by rfl,?_⟩) ?_ ?_
                    rotate_left
                    · intro w'
                      go_simp
                      with_reducible rfl
                    rotate_left
                    · simp only [Act.put,lsA,lsZ,lsS,i64_w,i32_w]
                      rfl
                    refine pure_ (i:=5) (N:=some 32) (v:=?_) (a':=?_) #[true,false,true,false,false,true,false,false,false,false,false,false] rfl rfl (any_of HT_.out (by kernel_rfl)) (fun _ _ _ h=>h) (Or.inl ⟨by rfl,?_⟩) ?_ ?_
                    rotate_left
                    · intro w'
                      go_simp
                      with_reducible rfl
                    rotate_left
                    · simp only [Act.put,lsA,lsZ,lsS,i64_w,i32_w]
                      rfl
                    refine pure_ (i:=7) (N:=some 34) (v:=?_) (a':=?_) #[true,false,true,false,false,true,false,true,false,false,false,false] rfl rfl (any_of HT_.out (by kernel_rfl)) (fun _ _ _ h=>h) (Or.inl ⟨by rfl,?_⟩) ?_ ?_
                    rotate_left
                    · intro w'
                      go_simp
                      with_reducible rfl
                    rotate_left
                    · simp only [Act.put,lsA,lsZ,lsS,i64_w,i32_w]
                      rfl
                    refine take_ (i:=1) (N:=some 28) (v:=?_) (a':=?_) #[true,true,true,false,false,true,false,true,false,false,false,false] rfl rfl (take_ofW HT_.out HW_.out (by kernel_rfl)) (fun _ _ _ h=>h) (Or.inl ⟨by rfl,?_⟩) hHeld ?_ ?_
                    rotate_left
                    · rintro w' ⟨s0,s1,s2,s3,s4,s5,s6,s7,s8,s9⟩
                      go_simp
                      with_reducible rfl
                    rotate_left
                    · simp only [Act.put,lsA,lsZ,lsS,i64_w,i32_w]
                      rfl
                    refine pure_ (i:=3) (N:=some 30) (v:=?_) (a':=?_) #[true,true,true,true,false,true,false,true,false,false,false,false] rfl rfl (any_of HT_.out (by kernel_rfl)) (fun _ _ _ h=>h) (Or.inl ⟨by rfl,?_⟩) ?_ ?_
                    rotate_left
                    · intro w'
                      go_simp
                      with_reducible rfl
                    rotate_left
                    · simp only [Act.put,lsA,lsZ,lsS,i64_w,i32_w]
                      rfl
                    refine take_ (i:=4) (N:=some 31) (v:=?_) (a':=?_) #[true,true,true,true,true,true,false,true,false,false,false,false] rfl rfl (take_ofW HT_.out HW_.out (by kernel_rfl)) (fun _ _ _ h=>h) (Or.inl ⟨by rfl,?_⟩) hHeld ?_ ?_
                    rotate_left
                    · rintro w' ⟨s0,s1,s2,s3,s4,s5,s6,s7,s8,s9⟩
                      go_simp
                      with_reducible rfl
                    rotate_left
                    · simp only [Act.put,lsA,lsZ,lsS,i64_w,i32_w]
                      rfl
                    refine take_ (i:=6) (N:=some 33) (v:=?_) (a':=?_) #[true,true,true,true,true,true,true,true,false,false,false,false] rfl rfl (take_ofW HT_.out HW_.out (by kernel_rfl)) (fun _ _ _ h=>h) (Or.inl ⟨by rfl,?_⟩) hHeld ?_ ?_
                    rotate_left
                    · rintro w' ⟨s0,s1,s2,s3,s4,s5,s6,s7,s8,s9⟩
                      go_simp
                      with_reducible rfl
                    rotate_left
                    · simp only [Act.put,lsA,lsZ,lsS,i64_w,i32_w]
                      rfl
                    refine pure_ (i:=8) (N:=some 35) (v:=?_) (a':=?_) #[true,true,true,true,true,true,true,true,true,false,false,false] rfl rfl (any_of HT_.out (by kernel_rfl)) (fun _ _ _ h=>h) (Or.inl ⟨by rfl,?_⟩) ?_ ?_
                    rotate_left
                    · intro w'
                      go_simp
                      with_reducible rfl
                    rotate_left
                    · simp only [Act.put,lsA,lsZ,lsS,i64_w,i32_w]
                      rfl
                    refine take_ (i:=9) (N:=some 36) (v:=?_) (a':=?_) #[true,true,true,true,true,true,true,true,true,true,false,false] rfl rfl (take_ofW HT_.out HW_.out (by kernel_rfl)) (fun _ _ _ h=>h) (Or.inl ⟨by rfl,?_⟩) hHeld ?_ ?_
                    rotate_left
                    · rintro w' ⟨s0,s1,s2,s3,s4,s5,s6,s7,s8,s9⟩
                      go_simp
                      with_reducible rfl
                    rotate_left
                    · simp only [Act.put,lsA,lsZ,lsS,i64_w,i32_w]
                      rfl
                    refine one_ (i:=10) (N:=some 37) #[true,true,true,true,true,true,true,true,true,true,true,false] rfl rfl (one_of HT_.out (by kernel_rfl)) (by decide) (fun K hK=>?_)
                    refine goes_ Try.func19 (by kernel_rfl) rfl #[.agg #[.int .i64 ((rd_T40 l0_1 x5_2).f0),.int .i64 ((rd_T40 l0_1 x5_2).f1),.slice A270_2 ((rd_T40 l0_1 x5_2).f2).length c270_2],.agg #[.int .i64 ((rd_T38 l1_1 x5_2).f0),.int .i64 ((rd_T38 l1_1 x5_2).f1),.slice A271_2 ((rd_T38 l1_1 x5_2).f2).length c271_2]] (by rfl) rfl rfl (by(try simp only [List.map_toArray,List.map_cons,List.map_nil]);first|done|rfl) ?_
                    with_reducible refine(undercroftlaw04_samePacket.calls k2 ((rd_T40 l0_1 x5_2).f0) ((rd_T40 l0_1 x5_2).f1) _ _ ((rd_T40 l0_1 x5_2).f2) ((rd_T38 l1_1 x5_2).f0) ((rd_T38 l1_1 x5_2).f1) _ _ ((rd_T38 l1_1 x5_2).f2) false _ ?side1 ?side2 ?side3 ?side4 A17.out).mono ?_
                    (case side1=>repeat (first|exact(Kd.C_below HR270_2.out HB.out)|(with_reducible refine Kd.C_alloc ?_ _)|(with_reducible refine Kd.C_drewN ?_ _)|(with_reducible refine Kd.C_drew ?_)))
                    (case side2=>exact HC270_2.out)
                    (case side3=>repeat (first|exact(Kd.C_below HR271_2.out HB.out)|(with_reducible refine Kd.C_alloc ?_ _)|(with_reducible refine Kd.C_drewN ?_ _)|(with_reducible refine Kd.C_drew ?_)))
                    (case side4=>exact HC271_2.out)
                    rintro e w26 ⟨rfl,hb⟩
                    refine⟨_,rfl,?_⟩
                    have n0_:=mkA (bkB (g:=gb268) (o:=.cells #[.int .i64 a0_0,.slice (some ad270) l0_1.length c0_1] 32 (0,0)) (by(with_reducible repeat first|apply bkN|apply bkD|apply bkA);exact BK268.out) hb)
                    have n1_:=mkA (bkB (g:=gb269) (o:=.cells #[.int .i64 a1_0,.slice (some ad271) l1_1.length c1_1] 24 (0,0)) (by(with_reducible repeat first|apply bkN|apply bkD|apply bkA);exact BK269.out) hb)
                    have n2_:=mkA (below_step (by repeat (with_reducible first|exact HB.out|apply bwA|apply bwN|apply bwD|refine bwS ?_ GE268.out|refine bwS ?_ GE269.out)) hb)
                    clear BK268
                    clear BK269
                    clear HB
                    have BK268:=n0_
                    have BK269:=n1_
                    have HB:=n2_
                    clear n0_ n1_ n2_
                    (try clear hb)
                    (try clear hb2)
                    (try clear hk)
                    (try clear hi)
                    refine hK.out _ _ ⟨(bkC BK268.out 0).trans rfl,(bkC BK268.out 1).trans rfl,(bkC BK269.out 0).trans rfl,(bkC BK269.out 1).trans rfl,((HB.out.cell (blC w _ hw270_0)).trans hw270_0),((HB.out.cell (blC w _ hw270_1)).trans hw270_1),((HB.out.cell (blC w _ hw270_2)).trans hw270_2),((HB.out.cell (blC w _ hw271_0)).trans hw271_0),((HB.out.cell (blC w _ hw271_1)).trans hw271_1),((HB.out.cell (blC w _ hw271_2)).trans hw271_2)⟩ (fun hHeld=>?_)
                    clear hK K
                    refine norm_ (a':=?_) ?_ ?_
                    rotate_left
                    · show Act.put _ (some 37) _ = _
                      simp only [Act.put,lsA,lsZ,lsS,i64_w,i32_w]
                      rfl
                    refine pure_ (i:=11) (N:=some 38) (v:=?_) (a':=?_) #[true,true,true,true,true,true,true,true,true,true,true,true] rfl rfl (any_of HT_.out (by kernel_rfl)) (fun _ _ _ h=>h) (Or.inl ⟨by rfl,?_⟩) ?_ ?_
                    rotate_left
                    · intro w'
                      go_simp
                      with_reducible rfl
                    rotate_left
                    · simp only [Act.put,lsA,lsZ,lsS,i64_w,i32_w]
                      rfl
                    refine done_ (done_of HT_.out (by kernel_rfl)) ?_
                    try go_wp2
                    go_ret
                    exact⟨by first|rfl|(simp [errW_none,errW_some] <;> rfl)|(simp [*,errW_none,errW_some] <;> rfl),by repeat (with_reducible first|exact HB.out|apply bwA|apply bwN|apply bwD|refine bwS ?_ GE268.out|refine bwS ?_ GE269.out)⟩
                · rw [if_neg c16] at H
                  exact absurd H (by simp)
              · rw [if_neg c15] at H
                exact absurd H (by simp)
            · rw [if_neg c14] at H
              have c14b0 : decide (x5_2 < (l0_1.length : Int)) = false:=decide_eq_false c14
              clear c14
              obtain rfl:=Option.some.inj H
              have hnb27:=NB268_269.out
              have hnc27:=NB269_268.out
              have hcz28_0 : wr.cell? ⟨gb268,0,none⟩ = some (.int .i64 a0_0):=(bkC BK268.out 0).trans rfl
              have hcz28_1 : wr.cell? ⟨gb268,1,none⟩ = some (.slice A0_1 l0_1.length c0_1):=(bkC BK268.out 1).trans rfl
              have hfz28_0:=bkF BK268.out 0
              have hfz28_1:=bkF BK268.out 1
              go_wp2
              go_ret
              exact⟨by first|rfl|(simp [errW_none,errW_some] <;> rfl)|(simp [*,errW_none,errW_some] <;> rfl),by repeat (with_reducible first|exact HB.out|apply bwA|apply bwN|apply bwD|refine bwS ?_ GE268.out|refine bwS ?_ GE269.out)⟩

-- NOT PRINTED: function 4 (undercroftlaw04_NetOwn)

/-! ### net_Drop: function 21 -/
def net_Drop.f (a0_0 : Int) (l0_1 : List (S40)) (a1 : Int) : Option (Int × (List (S40)) × Int):=(net_Take.f a0_0 l0_1 a1).bind fun bt329=>(some (bt329.1,bt329.2.1,bt329.2.2.2.2.2))
set_option maxHeartbeats 8000000 in
set_option maxRecDepth 100000 in
theorem net_Drop.calls (a0_0 : Int) (A0_1 : Option Addr) (c0_1 : Nat) (l0_1 : List (S40)) (a1 : Int) (r1 : Int) (r2 : List (S40)) (r3 : Int) (w : World) (hr0_1 : Kd.C k40 w A0_1 l0_1.length l0_1) (hc0_1 : l0_1.length ≤ c0_1) (h : net_Drop.f a0_0 l0_1 a1 = some (r1,r2,r3)) :
    Calls Try.prog 21 #[.agg #[.int .i64 a0_0,.slice A0_1 l0_1.length c0_1],.int .i64 a1] w fun e w'=>∃ v1_ : Value,e = .returned (.tuple #[.agg #[.int .i64 r1,v1_],.int .i64 r3])∧Kd.S k40 40 w' w.heap.size (fun _=>True) v1_ r2∧Below w.heap.size w w':=by
  have hu32:=Try.underlying32
  have hu40:=Try.underlying40
  have HR0_1:=mkA hr0_1
  have HC0_1:=mkA hc0_1
  clear hr0_1 hc0_1
  have HB:=mkA (Below.refl w.heap.size w)
  have H : ((net_Take.f a0_0 l0_1 a1).bind fun bt329=>(some (bt329.1,bt329.2.1,bt329.2.2.2.2.2))) = some (r1,r2,r3):=h
  clear h
  replace H:=Option.bind_eq_some_iff.mp H
  obtain ⟨⟨t329,t330,t333,t334,t335,t338⟩,A30,H⟩:=H
  replace H : (some (t329,t330,t338)) = some (r1,r2,r3):=H
  have A3:=mkA A30
  clear A30
  simp only [Option.some.injEq,Prod.mk.injEq] at H
  obtain ⟨rfl,rfl,rfl⟩:=H
  go_enter Try.func21,Try.ntmps21
  go_wp2_with (first|((with_reducible refine gate_dst (N:=2) rfl ?_);refine box_event ?hg (N:=2) ?hd (cs:=#[.int .i64 a0_0,.slice A0_1 l0_1.length c0_1]) (t:=32) ?hr ?_;(case hd=>rfl);(case hg=>rfl);(case hr=>first|(go_simp;done)|(go_simp;rfl));intro gb327 hg w4 hbox hb;have n0_:=mkA (below_step (by repeat (with_reducible first|exact HB.out|apply bwA|apply bwN|apply bwD)) hb);have n1_:=mkA (hbox);have n2_:=mkA ((by rw [hg];exact(bwZ (by repeat (with_reducible first|exact HB.out|apply bwA|apply bwN|apply bwD))) : w.heap.size ≤ gb327));have n3_:=mkA ((by rw [hg];exact(bwZ (by repeat (with_reducible first|exact HB.out|apply bwA|apply bwN|apply bwD))) : w.heap.size ≤ gb327));clear HB;have HB:=n0_;have BK327:=n1_;have GW327:=n2_;have GE327:=n3_;clear n0_ n1_ n2_ n3_;clear hb hbox hg)|((with_reducible refine gate_dst (N:=4) rfl ?_);refine box_event ?hg (N:=4) ?hd (cs:=#[.int .i64 0,.slice none 0 0]) (t:=32) ?hr ?_;(case hd=>rfl);(case hg=>rfl);(case hr=>first|(go_simp;done)|(go_simp;rfl));intro gb328 hg w5 hbox hb;have n0_:=mkA (bkB (g:=gb327) (o:=.cells #[.int .i64 a0_0,.slice A0_1 l0_1.length c0_1] 32 (0,0)) (by(with_reducible repeat first|apply bkN|apply bkD|apply bkA);exact BK327.out) hb);have n1_:=mkA (below_step (by repeat (with_reducible first|exact HB.out|apply bwA|apply bwN|apply bwD|refine bwS ?_ GE327.out)) hb);have n2_:=mkA (hbox);have n3_:=mkA ((by rw [hg];exact(bwZ (by repeat (with_reducible first|exact HB.out|apply bwA|apply bwN|apply bwD|refine bwS ?_ GE327.out))) : w.heap.size ≤ gb328));have n4_:=mkA ((by rw [hg];exact(bwZ (by repeat (with_reducible first|exact HB.out|apply bwA|apply bwN|apply bwD|refine bwS ?_ GE327.out))) : w.heap.size ≤ gb328));have n5_:=mkA ((by rw [hg];exact Nat.ne_of_lt (blk_lt (g:=gb327) (o:=.cells #[.int .i64 a0_0,.slice A0_1 l0_1.length c0_1] 32 (0,0)) (by(with_reducible repeat first|apply bkN|apply bkD|apply bkA);exact BK327.out)) : gb327 ≠ gb328));have n6_:=mkA ((by rw [hg];exact Nat.ne_of_gt (blk_lt (g:=gb327) (o:=.cells #[.int .i64 a0_0,.slice A0_1 l0_1.length c0_1] 32 (0,0)) (by(with_reducible repeat first|apply bkN|apply bkD|apply bkA);exact BK327.out)) : gb328 ≠ gb327));clear BK327;clear HB;have BK327:=n0_;have HB:=n1_;have BK328:=n2_;have GW328:=n3_;have GE328:=n4_;have NB327_328:=n5_;have NB328_327:=n6_;clear n0_ n1_ n2_ n3_ n4_ n5_ n6_;clear hb hbox hg;have hnb6:=NB327_328.out;have hnc6:=NB328_327.out;have hcz7_0 : w5.cell? ⟨gb327,0,none⟩ = some (.int .i64 a0_0):=(bkC BK327.out 0).trans rfl;have hcz7_1 : w5.cell? ⟨gb327,1,none⟩ = some (.slice A0_1 l0_1.length c0_1):=(bkC BK327.out 1).trans rfl;have hfz7_0:=bkF BK327.out 0;have hfz7_1:=bkF BK327.out 1)|((with_reducible refine gate_callee (f:=15) rfl ?_);refine goesL_ (some 12) rfl rfl Try.func15 (by kernel_rfl) rfl #[.agg #[.int .i64 a0_0,.slice A0_1 l0_1.length c0_1],.int .i64 a1] rfl (by(try simp only [List.map_toArray,List.map_cons,List.map_nil]);first|done|rfl) ?_;(with_reducible refine(net_Take.calls a0_0 _ _ l0_1 a1 t329 t330 t333 t334 t335 t338 _ ?side1 ?side2 A3.out).mono ?_);(case side1=>repeat (first|exact(Kd.C_below HR0_1.out HB.out)|(with_reducible refine Kd.C_alloc ?_ _)|(with_reducible refine Kd.C_drewN ?_ _)|(with_reducible refine Kd.C_drew ?_)));(case side2=>exact HC0_1.out);rintro e w8 ⟨v331,v336,rfl,ho0,ho1,hb⟩;refine⟨_,rfl,?_⟩;have n0_:=mkA (Kd.S_lower ho0 (bwZ (by repeat (with_reducible first|exact HB.out|apply bwA|apply bwN|apply bwD|refine bwS ?_ GE327.out|refine bwS ?_ GE328.out))));have n1_:=mkA (Kd.R_lower ho1 (bwZ (by repeat (with_reducible first|exact HB.out|apply bwA|apply bwN|apply bwD|refine bwS ?_ GE327.out|refine bwS ?_ GE328.out))));have n2_:=mkA (bkB (g:=gb327) (o:=.cells #[.int .i64 a0_0,.slice A0_1 l0_1.length c0_1] 32 (0,0)) (by(with_reducible repeat first|apply bkN|apply bkD|apply bkA);exact BK327.out) hb);have n3_:=mkA (bkB (g:=gb328) (o:=.cells #[.int .i64 0,.slice none 0 0] 32 (0,0)) (by(with_reducible repeat first|apply bkN|apply bkD|apply bkA);exact BK328.out) hb);have n4_:=mkA (below_step (by repeat (with_reducible first|exact HB.out|apply bwA|apply bwN|apply bwD|refine bwS ?_ GE327.out|refine bwS ?_ GE328.out)) hb);clear BK327;clear BK328;clear HB;have HO332:=n0_;have HO337:=n1_;have BK327:=n2_;have BK328:=n3_;have HB:=n4_;clear n0_ n1_ n2_ n3_ n4_;(try clear hb);(try clear hb2);(try clear hk);(try clear hi);(try clear ho0);(try clear ho1))|((with_reducible refine gate_dst (N:=6) rfl ?_);refine box_event ?hg (N:=6) ?hd (cs:=#[.int .i64 0,.slice none 0 0]) (t:=32) ?hr ?_;(case hd=>rfl);(case hg=>rfl);(case hr=>first|(go_simp;done)|(go_simp;rfl));intro gb339 hg w9 hbox hb;have n0_:=mkA (Kd.S_below (by(with_reducible repeat (first|apply Kd.S_alloc|apply Kd.S_drewN|apply Kd.S_drew));exact HO332.out) hb);have n1_:=mkA (Kd.R_below (by(with_reducible repeat (first|apply Kd.R_alloc|apply Kd.R_drewN|apply Kd.R_drew));exact HO337.out) hb);have n2_:=mkA (bkB (g:=gb327) (o:=.cells #[.int .i64 a0_0,.slice A0_1 l0_1.length c0_1] 32 (0,0)) (by(with_reducible repeat first|apply bkN|apply bkD|apply bkA);exact BK327.out) hb);have n3_:=mkA (bkB (g:=gb328) (o:=.cells #[.int .i64 0,.slice none 0 0] 32 (0,0)) (by(with_reducible repeat first|apply bkN|apply bkD|apply bkA);exact BK328.out) hb);have n4_:=mkA (below_step (by repeat (with_reducible first|exact HB.out|apply bwA|apply bwN|apply bwD|refine bwS ?_ GE327.out|refine bwS ?_ GE328.out)) hb);have n5_:=mkA (hbox);have n6_:=mkA ((by rw [hg];exact(bwZ (by repeat (with_reducible first|exact HB.out|apply bwA|apply bwN|apply bwD|refine bwS ?_ GE327.out|refine bwS ?_ GE328.out))) : w.heap.size ≤ gb339));have n7_:=mkA ((by rw [hg];exact(bwZ (by repeat (with_reducible first|exact HB.out|apply bwA|apply bwN|apply bwD|refine bwS ?_ GE327.out|refine bwS ?_ GE328.out))) : w.heap.size ≤ gb339));have n8_:=mkA ((by rw [hg];exact Nat.ne_of_lt (blk_lt (g:=gb327) (o:=.cells #[.int .i64 a0_0,.slice A0_1 l0_1.length c0_1] 32 (0,0)) (by(with_reducible repeat first|apply bkN|apply bkD|apply bkA);exact BK327.out)) : gb327 ≠ gb339));have n9_:=mkA ((by rw [hg];exact Nat.ne_of_gt (blk_lt (g:=gb327) (o:=.cells #[.int .i64 a0_0,.slice A0_1 l0_1.length c0_1] 32 (0,0)) (by(with_reducible repeat first|apply bkN|apply bkD|apply bkA);exact BK327.out)) : gb339 ≠ gb327));have n10_:=mkA ((by rw [hg];exact Nat.ne_of_lt (blk_lt (g:=gb328) (o:=.cells #[.int .i64 0,.slice none 0 0] 32 (0,0)) (by(with_reducible repeat first|apply bkN|apply bkD|apply bkA);exact BK328.out)) : gb328 ≠ gb339));have n11_:=mkA ((by rw [hg];exact Nat.ne_of_gt (blk_lt (g:=gb328) (o:=.cells #[.int .i64 0,.slice none 0 0] 32 (0,0)) (by(with_reducible repeat first|apply bkN|apply bkD|apply bkA);exact BK328.out)) : gb339 ≠ gb328));clear HO332;clear HO337;clear BK327;clear BK328;clear HB;have HO332:=n0_;have HO337:=n1_;have BK327:=n2_;have BK328:=n3_;have HB:=n4_;have BK339:=n5_;have GW339:=n6_;have GE339:=n7_;have NB327_339:=n8_;have NB339_327:=n9_;have NB328_339:=n10_;have NB339_328:=n11_;clear n0_ n1_ n2_ n3_ n4_ n5_ n6_ n7_ n8_ n9_ n10_ n11_;clear hb hbox hg)|((with_reducible refine gate_dst (N:=7) rfl ?_);refine box_event ?hg (N:=7) ?hd (cs:=#[.int .i64 0,.int .i64 0,.slice none 0 0]) (t:=40) ?hr ?_;(case hd=>rfl);(case hg=>rfl);(case hr=>first|(go_simp;done)|(go_simp;rfl));intro gb340 hg w10 hbox hb;have n0_:=mkA (Kd.S_below (Kd.S_elderB (by(with_reducible repeat (first|apply Kd.S_alloc|apply Kd.S_drewN|apply Kd.S_drew));exact HO332.out) gb340 (Nat.le_of_eq hg.symm)) hb);have n1_:=mkA (Kd.R_below (by(with_reducible repeat (first|apply Kd.R_alloc|apply Kd.R_drewN|apply Kd.R_drew));exact HO337.out) hb);have n2_:=mkA (bkB (g:=gb327) (o:=.cells #[.int .i64 a0_0,.slice A0_1 l0_1.length c0_1] 32 (0,0)) (by(with_reducible repeat first|apply bkN|apply bkD|apply bkA);exact BK327.out) hb);have n3_:=mkA (bkB (g:=gb328) (o:=.cells #[.int .i64 0,.slice none 0 0] 32 (0,0)) (by(with_reducible repeat first|apply bkN|apply bkD|apply bkA);exact BK328.out) hb);have n4_:=mkA (bkB (g:=gb339) (o:=.cells #[.int .i64 0,.slice none 0 0] 32 (0,0)) (by(with_reducible repeat first|apply bkN|apply bkD|apply bkA);exact BK339.out) hb);have n5_:=mkA (below_step (by repeat (with_reducible first|exact HB.out|apply bwA|apply bwN|apply bwD|refine bwS ?_ GE327.out|refine bwS ?_ GE328.out|refine bwS ?_ GE339.out)) hb);have n6_:=mkA (hbox);have n7_:=mkA ((by rw [hg];exact(bwZ (by repeat (with_reducible first|exact HB.out|apply bwA|apply bwN|apply bwD|refine bwS ?_ GE327.out|refine bwS ?_ GE328.out|refine bwS ?_ GE339.out))) : w.heap.size ≤ gb340));have n8_:=mkA ((by rw [hg];exact(bwZ (by repeat (with_reducible first|exact HB.out|apply bwA|apply bwN|apply bwD|refine bwS ?_ GE327.out|refine bwS ?_ GE328.out|refine bwS ?_ GE339.out))) : w.heap.size ≤ gb340));have n9_:=mkA ((by rw [hg];exact Nat.ne_of_lt (blk_lt (g:=gb327) (o:=.cells #[.int .i64 a0_0,.slice A0_1 l0_1.length c0_1] 32 (0,0)) (by(with_reducible repeat first|apply bkN|apply bkD|apply bkA);exact BK327.out)) : gb327 ≠ gb340));have n10_:=mkA ((by rw [hg];exact Nat.ne_of_gt (blk_lt (g:=gb327) (o:=.cells #[.int .i64 a0_0,.slice A0_1 l0_1.length c0_1] 32 (0,0)) (by(with_reducible repeat first|apply bkN|apply bkD|apply bkA);exact BK327.out)) : gb340 ≠ gb327));have n11_:=mkA ((by rw [hg];exact Nat.ne_of_lt (blk_lt (g:=gb328) (o:=.cells #[.int .i64 0,.slice none 0 0] 32 (0,0)) (by(with_reducible repeat first|apply bkN|apply bkD|apply bkA);exact BK328.out)) : gb328 ≠ gb340));have n12_:=mkA ((by rw [hg];exact Nat.ne_of_gt (blk_lt (g:=gb328) (o:=.cells #[.int .i64 0,.slice none 0 0] 32 (0,0)) (by(with_reducible repeat first|apply bkN|apply bkD|apply bkA);exact BK328.out)) : gb340 ≠ gb328));have n13_:=mkA ((by rw [hg];exact Nat.ne_of_lt (blk_lt (g:=gb339) (o:=.cells #[.int .i64 0,.slice none 0 0] 32 (0,0)) (by(with_reducible repeat first|apply bkN|apply bkD|apply bkA);exact BK339.out)) : gb339 ≠ gb340));have n14_:=mkA ((by rw [hg];exact Nat.ne_of_gt (blk_lt (g:=gb339) (o:=.cells #[.int .i64 0,.slice none 0 0] 32 (0,0)) (by(with_reducible repeat first|apply bkN|apply bkD|apply bkA);exact BK339.out)) : gb340 ≠ gb339));clear HO332;clear HO337;clear BK327;clear BK328;clear BK339;clear HB;have HO332:=n0_;have HO337:=n1_;have BK327:=n2_;have BK328:=n3_;have BK339:=n4_;have HB:=n5_;have BK340:=n6_;have GW340:=n7_;have GE340:=n8_;have NB327_340:=n9_;have NB340_327:=n10_;have NB328_340:=n11_;have NB340_328:=n12_;have NB339_340:=n13_;have NB340_339:=n14_;clear n0_ n1_ n2_ n3_ n4_ n5_ n6_ n7_ n8_ n9_ n10_ n11_ n12_ n13_ n14_;clear hb hbox hg;have hnb11:=NB339_327.out;have hnc11:=NB327_339.out;have hnb12:=NB339_328.out;have hnc12:=NB328_339.out;have hnb13:=NB339_340.out;have hnc13:=NB340_339.out;have hcz14_0 : w10.cell? ⟨gb339,0,none⟩ = some (.int .i64 0):=(bkC BK339.out 0).trans rfl;have hcz14_1 : w10.cell? ⟨gb339,1,none⟩ = some (.slice none 0 0):=(bkC BK339.out 1).trans rfl;have hfz14_0:=bkF BK339.out 0;have hfz14_1:=bkF BK339.out 1;obtain ⟨Ao15,co15,eo15⟩:=Kd.S_slice HO332.out;subst eo15;have hnb16:=NB340_327.out;have hnc16:=NB327_340.out;have hnb17:=NB340_328.out;have hnc17:=NB328_340.out;have hcz18_0 : w10.cell? ⟨gb340,0,none⟩ = some (.int .i64 0):=(bkC BK340.out 0).trans rfl;have hcz18_1 : w10.cell? ⟨gb340,1,none⟩ = some (.int .i64 0):=(bkC BK340.out 1).trans rfl;have hcz18_2 : w10.cell? ⟨gb340,2,none⟩ = some (.slice none 0 0):=(bkC BK340.out 2).trans rfl;have hfz18_0:=bkF BK340.out 0;have hfz18_1:=bkF BK340.out 1;have hfz18_2:=bkF BK340.out 2;obtain ⟨Ao19,co19,eo19⟩:=Kd.R_slice HO337.out;subst eo19;have hcz20_0 : w10.cell? ⟨gb328,0,none⟩ = some (.int .i64 0):=(bkC BK328.out 0).trans rfl;have hcz20_1 : w10.cell? ⟨gb328,1,none⟩ = some (.slice none 0 0):=(bkC BK328.out 1).trans rfl;have hfz20_0:=bkF BK328.out 0;have hfz20_1:=bkF BK328.out 1))
  refine bodyPost_ret (results_ct rfl _ _ gb328 32 #[.int .i64 t329,.slice Ao15 t330.length co15] (0,0) _ rfl (by(with_reducible repeat first|apply bkN|apply bkD|apply bkA);refine blk_put (cs:=#[.int .i64 t329,.slice none 0 0]) ?_ 1 _ rfl;(with_reducible repeat first|apply bkN|apply bkD|apply bkA);refine blk_put (cs:=#[.int .i64 0,.slice none 0 0]) ?_ 0 _ rfl;(with_reducible repeat first|apply bkN|apply bkD|apply bkA);refine blk_far ?_ NB328_340.out _;(with_reducible repeat first|apply bkN|apply bkD|apply bkA);refine blk_far ?_ NB328_340.out _;(with_reducible repeat first|apply bkN|apply bkD|apply bkA);refine blk_far ?_ NB328_340.out _;(with_reducible repeat first|apply bkN|apply bkD|apply bkA);refine blk_far ?_ NB328_339.out _;(with_reducible repeat first|apply bkN|apply bkD|apply bkA);refine blk_far ?_ NB328_339.out _;(with_reducible repeat first|apply bkN|apply bkD|apply bkA);exact BK328.out) Try.underlying32 rfl (by kernel_rfl)) rfl ?_
  exact⟨_,by first|rfl|(simp [errW_none,errW_some] <;> rfl)|(simp [*,errW_none,errW_some] <;> rfl),by(with_reducible repeat (first|apply Kd.S_alloc|apply Kd.S_drewN|apply Kd.S_drew));exact Kd.S_mono (Kd.S_far (p:=⟨gb328,1,none⟩) (Kd.S_far (p:=⟨gb328,0,none⟩) (Kd.S_far (p:=⟨gb340,2,none⟩) (Kd.S_far (p:=⟨gb340,1,none⟩) (Kd.S_far (p:=⟨gb340,0,none⟩) (Kd.S_far (p:=⟨gb339,1,none⟩) (Kd.S_far (p:=⟨gb339,0,none⟩) (Kd.S_types (Kd.S_mono (Kd.S_types HO332.out BK339.out (by decide)) (fun k_ hk=>(⟨hk,hk.1.2⟩ : _∧k_ ≠ gb340))) BK328.out (by decide)) (fun _ hk=>hk.1.1.2) (.int .i64 t329)) (fun _ hk=>hk.1.1.2) (.slice Ao15 t330.length co15)) (fun _ hk=>hk.1.2) (.int .i64 t333)) (fun _ hk=>hk.1.2) (.int .i64 t334)) (fun _ hk=>hk.1.2) (.slice Ao19 t335.length co19)) (fun _ hk=>hk.2) (.int .i64 t329)) (fun _ hk=>hk.2) (.slice Ao15 t330.length co15)) (fun _ hk=>trivial),by repeat (with_reducible first|exact HB.out|apply bwA|apply bwN|apply bwD|refine bwS ?_ GE327.out|refine bwS ?_ GE328.out|refine bwS ?_ GE339.out|refine bwS ?_ GE340.out)⟩

/-! ### net_Double: function 22 -/
def net_Double.f (k : Nat) (a0_0 : Int) (l0_1 : List (S40)) (a1 : Int) : Option (Int × (List (S40)) × Bool × Int):=(net_asked.f a0_0 l0_1 a1).bind fun t343=>(if t343 = 0 then(if 0 ≤ a1 then(if a1 < (l0_1.length : Int) then((net_Send.f k a0_0 l0_1 ((rd_T40 l0_1 a1).f0) ((rd_T40 l0_1 a1).f1) ((rd_T40 l0_1 a1).f2)).bind fun bt345=>(some (bt345.1,bt345.2.1,bt345.2.2.1,bt345.2.2.2))) else(none)) else(none)) else(some (0,([] : List (S40)),false,t343)))
theorem net_Double.mono : ∀ a0 a1 a2 k,LeO (net_Double.f k a0 a1 a2) (net_Double.f (k + 1) a0 a1 a2):=by
  intro a0 a1 a2 k
  unfold net_Double.f
  repeat' first
      | (with_reducible exact net_Send.mono _ _ _ _ _ _)
      | (with_reducible exact LeO.refl _)
      | (with_reducible exact LeO.none _)
      | (with_reducible refine LeO.ite ?_ ?_)
      | (with_reducible refine LeO.bind ?_ (fun _=>?_))
      | exact net_Send.mono _ _ _ _ _ _
      | exact LeO.none _
      | refine LeO.ite ?_ ?_
      | refine LeO.bind ?_ (fun _=>?_)
def net_Double.T4 : Bool × List (List Nat × List Nat):=(true,[([],[]),([],[]),([1],[1]),([],[]),([2,3],[2,3]),([4],[4]),([0,5],[0,5]),([6],[6]),([6],[6]),([6],[6]),([7,6,0,1,2,3,4,5,6,7,8,9],[7]),([8,10,0,1,2,3,4,5,6,7,8,9,10],[8]),([9,11,0,1,2,3,4,5,6,7,8,9,10,11],[9])])
def net_Double.B4 : List Nat:=[0,0,2,0,14,30,63,127,127,127,1023,2047,4095]
theorem net_Double.tab4 : rtab .any (opsOf Try.f22 4) = net_Double.T4:=by kernel_rfl
theorem net_Double.bits4 : waitsOk net_Double.T4.2 net_Double.B4 = true:=by kernel_rfl
set_option maxHeartbeats 8000000 in
set_option maxRecDepth 100000 in
theorem net_Double.calls (k : Nat) (a0_0 : Int) (A0_1 : Option Addr) (c0_1 : Nat) (l0_1 : List (S40)) (a1 : Int) (r1 : Int) (r2 : List (S40)) (r3 : Bool) (r4 : Int) (w : World) (hr0_1 : Kd.C k40 w A0_1 l0_1.length l0_1) (hc0_1 : l0_1.length ≤ c0_1) (h : net_Double.f k a0_0 l0_1 a1 = some (r1,r2,r3,r4)) :
    Calls Try.prog 22 #[.agg #[.int .i64 a0_0,.slice A0_1 l0_1.length c0_1],.int .i64 a1] w fun e w'=>∃ v1_ : Value,e = .returned (.tuple #[.agg #[.int .i64 r1,v1_],.bool r3,.int .i64 r4])∧Kd.S k40 40 w' w.heap.size (fun _=>True) v1_ r2∧Below w.heap.size w w':=by
  have hu32:=Try.underlying32
  have hu40:=Try.underlying40
  have HR0_1:=mkA hr0_1
  have HC0_1:=mkA hc0_1
  clear hr0_1 hc0_1
  have HB:=mkA (Below.refl w.heap.size w)
  have H : ((net_asked.f a0_0 l0_1 a1).bind fun t343=>(if t343 = 0 then(if 0 ≤ a1 then(if a1 < (l0_1.length : Int) then((net_Send.f k a0_0 l0_1 ((rd_T40 l0_1 a1).f0) ((rd_T40 l0_1 a1).f1) ((rd_T40 l0_1 a1).f2)).bind fun bt345=>(some (bt345.1,bt345.2.1,bt345.2.2.1,bt345.2.2.2))) else(none)) else(none)) else(some (0,([] : List (S40)),false,t343)))) = some (r1,r2,r3,r4):=h
  clear h
  replace H:=Option.bind_eq_some_iff.mp H
  obtain ⟨t343,A30,H⟩:=H
  replace H : (if t343 = 0 then(if 0 ≤ a1 then(if a1 < (l0_1.length : Int) then((net_Send.f k a0_0 l0_1 ((rd_T40 l0_1 a1).f0) ((rd_T40 l0_1 a1).f1) ((rd_T40 l0_1 a1).f2)).bind fun bt345=>(some (bt345.1,bt345.2.1,bt345.2.2.1,bt345.2.2.2))) else(none)) else(none)) else(some (0,([] : List (S40)),false,t343))) = some (r1,r2,r3,r4):=H
  have A3:=mkA A30
  clear A30
  by_cases c4 : t343 = 0
  · rw [if_pos c4] at H
    have c4b0 : (t343 == 0) = true:=beq_iff_eq.mpr c4
    have c4b1 : (t343 != 0) = false:=bne_eq_false_iff_eq.mpr c4
    clear c4
    by_cases c5 : 0 ≤ a1
    · rw [if_pos c5] at H
      have c5b0 : decide (0 ≤ a1) = true:=decide_eq_true c5
      clear c5
      by_cases c6 : a1 < (l0_1.length : Int)
      · rw [if_pos c6] at H
        have c6b0 : decide (a1 < (l0_1.length : Int)) = true:=decide_eq_true c6
        clear c6
        replace H:=Option.bind_eq_some_iff.mp H
        obtain ⟨⟨t345,t346,t349,t350⟩,A70,H⟩:=H
        replace H : (some (t345,t346,t349,t350)) = some (r1,r2,r3,r4):=H
        have A7:=mkA A70
        clear A70
        simp only [Option.some.injEq,Prod.mk.injEq] at H
        obtain ⟨rfl,rfl,rfl,rfl⟩:=H
        go_enter Try.func22,Try.ntmps22
        try go_wp2_with (first|((with_reducible refine gate_dst (N:=2) rfl ?_);refine box_event ?hg (N:=2) ?hd (cs:=#[.int .i64 a0_0,.slice A0_1 l0_1.length c0_1]) (t:=32) ?hr ?_;(case hd=>rfl);(case hg=>rfl);(case hr=>first|(go_simp;done)|(go_simp;rfl));intro gb341 hg w8 hbox hb;have n0_:=mkA (below_step (by repeat (with_reducible first|exact HB.out|apply bwA|apply bwN|apply bwD)) hb);have n1_:=mkA (hbox);have n2_:=mkA ((by rw [hg];exact(bwZ (by repeat (with_reducible first|exact HB.out|apply bwA|apply bwN|apply bwD))) : w.heap.size ≤ gb341));have n3_:=mkA ((by rw [hg];exact(bwZ (by repeat (with_reducible first|exact HB.out|apply bwA|apply bwN|apply bwD))) : w.heap.size ≤ gb341));clear HB;have HB:=n0_;have BK341:=n1_;have GW341:=n2_;have GE341:=n3_;clear n0_ n1_ n2_ n3_;clear hb hbox hg)|((with_reducible refine gate_dst (N:=4) rfl ?_);refine box_event ?hg (N:=4) ?hd (cs:=#[.int .i64 0,.slice none 0 0]) (t:=32) ?hr ?_;(case hd=>rfl);(case hg=>rfl);(case hr=>first|(go_simp;done)|(go_simp;rfl));intro gb342 hg w9 hbox hb;have n0_:=mkA (bkB (g:=gb341) (o:=.cells #[.int .i64 a0_0,.slice A0_1 l0_1.length c0_1] 32 (0,0)) (by(with_reducible repeat first|apply bkN|apply bkD|apply bkA);exact BK341.out) hb);have n1_:=mkA (below_step (by repeat (with_reducible first|exact HB.out|apply bwA|apply bwN|apply bwD|refine bwS ?_ GE341.out)) hb);have n2_:=mkA (hbox);have n3_:=mkA ((by rw [hg];exact(bwZ (by repeat (with_reducible first|exact HB.out|apply bwA|apply bwN|apply bwD|refine bwS ?_ GE341.out))) : w.heap.size ≤ gb342));have n4_:=mkA ((by rw [hg];exact(bwZ (by repeat (with_reducible first|exact HB.out|apply bwA|apply bwN|apply bwD|refine bwS ?_ GE341.out))) : w.heap.size ≤ gb342));have n5_:=mkA ((by rw [hg];exact Nat.ne_of_lt (blk_lt (g:=gb341) (o:=.cells #[.int .i64 a0_0,.slice A0_1 l0_1.length c0_1] 32 (0,0)) (by(with_reducible repeat first|apply bkN|apply bkD|apply bkA);exact BK341.out)) : gb341 ≠ gb342));have n6_:=mkA ((by rw [hg];exact Nat.ne_of_gt (blk_lt (g:=gb341) (o:=.cells #[.int .i64 a0_0,.slice A0_1 l0_1.length c0_1] 32 (0,0)) (by(with_reducible repeat first|apply bkN|apply bkD|apply bkA);exact BK341.out)) : gb342 ≠ gb341));clear BK341;clear HB;have BK341:=n0_;have HB:=n1_;have BK342:=n2_;have GW342:=n3_;have GE342:=n4_;have NB341_342:=n5_;have NB342_341:=n6_;clear n0_ n1_ n2_ n3_ n4_ n5_ n6_;clear hb hbox hg;have hnb10:=NB341_342.out;have hnc10:=NB342_341.out;have hcz11_0 : w9.cell? ⟨gb341,0,none⟩ = some (.int .i64 a0_0):=(bkC BK341.out 0).trans rfl;have hcz11_1 : w9.cell? ⟨gb341,1,none⟩ = some (.slice A0_1 l0_1.length c0_1):=(bkC BK341.out 1).trans rfl;have hfz11_0:=bkF BK341.out 0;have hfz11_1:=bkF BK341.out 1)|((with_reducible refine gate_callee (f:=35) rfl ?_);refine goesL_ (some 10) rfl rfl Try.func35 (by kernel_rfl) rfl #[.agg #[.int .i64 a0_0,.slice A0_1 l0_1.length c0_1],.int .i64 a1] rfl (by(try simp only [List.map_toArray,List.map_cons,List.map_nil]);first|done|rfl) ?_;(with_reducible refine(net_asked.calls a0_0 _ _ l0_1 a1 t343 _ ?side1 ?side2 A3.out).mono ?_);(case side1=>repeat (first|exact(Kd.C_below HR0_1.out HB.out)|(with_reducible refine Kd.C_alloc ?_ _)|(with_reducible refine Kd.C_drewN ?_ _)|(with_reducible refine Kd.C_drew ?_)));(case side2=>exact HC0_1.out);rintro e w12 ⟨rfl,hb⟩;refine⟨_,rfl,?_⟩;have n0_:=mkA (bkB (g:=gb341) (o:=.cells #[.int .i64 a0_0,.slice A0_1 l0_1.length c0_1] 32 (0,0)) (by(with_reducible repeat first|apply bkN|apply bkD|apply bkA);exact BK341.out) hb);have n1_:=mkA (bkB (g:=gb342) (o:=.cells #[.int .i64 0,.slice none 0 0] 32 (0,0)) (by(with_reducible repeat first|apply bkN|apply bkD|apply bkA);exact BK342.out) hb);have n2_:=mkA (below_step (by repeat (with_reducible first|exact HB.out|apply bwA|apply bwN|apply bwD|refine bwS ?_ GE341.out|refine bwS ?_ GE342.out)) hb);clear BK341;clear BK342;clear HB;have BK341:=n0_;have BK342:=n1_;have HB:=n2_;clear n0_ n1_ n2_;(try clear hb);(try clear hb2);(try clear hk);(try clear hi)))
        have n0_:=mkA (bkD BK341.out)
        have n1_:=mkA (bkD BK342.out)
        have n2_:=mkA (bwD HB.out)
        clear BK341
        clear BK342
        clear HB
        have BK341:=n0_
        have BK342:=n1_
        have HB:=n2_
        clear n0_ n1_ n2_
        have p344 : 0 ≤ (a1 : Int):=odt (by first|(with_reducible assumption)|assumption)
        have q344 : a1 < (l0_1.length : Int):=odt (by first|(with_reducible assumption)|assumption)
        obtain ⟨ad344,A344_2,c344_2,e344,hx344_0,hx344_1,hx344_2,hl344_2,hi344_2⟩:=at_T40 HR0_1.out a1 p344 q344
        have hw344_2:=hx344_2
        have hw344_1:=hx344_1
        have hw344_0:=hx344_0
        cases e344
        replace hx344_0:=(HB.out.cell (blC w _ hx344_0)).trans hx344_0
        replace hx344_1:=(HB.out.cell (blC w _ hx344_1)).trans hx344_1
        replace hx344_2:=(HB.out.cell (blC w _ hx344_2)).trans hx344_2
        have HR344_2:=mkA hi344_2
        have HC344_2:=mkA hl344_2
        clear hi344_2 hl344_2
        replace p344:=eq_true p344
        replace q344:=eq_true q344
        refine start_ (n:=13) (S:=fun w'=>w'.cell? ⟨gb341,0,none⟩ = some (.int .i64 a0_0)∧w'.cell? ⟨gb341,1,none⟩ = some (.slice (some ad344) l0_1.length c0_1)∧w'.cell? (ad344.add ((a1).toNat * 3)) = some (.int .i64 ((rd_T40 l0_1 a1).f0))∧w'.cell? ⟨(ad344.add ((a1).toNat * 3)).block,(ad344.add ((a1).toNat * 3)).off + 1,none⟩ = some (.int .i64 ((rd_T40 l0_1 a1).f1))∧w'.cell? ⟨(ad344.add ((a1).toNat * 3)).block,(ad344.add ((a1).toNat * 3)).off + 2,none⟩ = some (.slice A344_2 ((rd_T40 l0_1 a1).f2).length c344_2)) (ds:=[]) #[false,false,false,false,false,false,false,false,false,false,false,false,false] (by kernel_rfl) rfl rfl ⟨(bkC BK341.out 0).trans rfl,(bkC BK341.out 1).trans rfl,((HB.out.cell (blC w _ hw344_0)).trans hw344_0),((HB.out.cell (blC w _ hw344_1)).trans hw344_1),((HB.out.cell (blC w _ hw344_2)).trans hw344_2)⟩ (fun hHeld=>?_);refine with_tabW net_Double.tab4 net_Double.bits4 (fun HT_ HW_=>?_)
        generalize w12.drew = w13 at BK341 BK342 HB HR344_2 hx344_0 hx344_1 hx344_2 hHeld ⊢
        refine pure_ (i:=1) (N:=some 16) (v:=?_) (a':=?_) #[false,true,false,false,false,false,false,false,false,false,false,false,false] rfl rfl (any_of HT_.out (by kernel_rfl)) (fun _ _ _ h=>h) (Or.inl ⟨by rfl,?_⟩) ?_ ?_
        rotate_left
        · intro w'
          go_simp
          with_reducible rfl
        rotate_left
        · simp only [Act.put,lsA,lsZ,lsS,i64_w,i32_w]
          rfl
        refine pure_ (i:=3) (N:=some 18) (v:=?_) (a':=?_) #[false,true,false,true,false,false,false,false,false,false,false,false,false] rfl rfl (any_of HT_.out (by kernel_rfl)) (fun _ _ _ h=>h) (Or.inl ⟨by rfl,?_⟩) ?_ ?_
        rotate_left
        · intro w'
          go_simp
          with_reducible rfl
        rotate_left
        · simp only [Act.put,lsA,lsZ,lsS,i64_w,i32_w]
          rfl
        refine take_ (i:=0) (N:=some 15) (v:=?_) (a':=?_) #[true,true,false,true,false,false,false,false,false,false,false,false,false] rfl rfl (take_ofW HT_.out HW_.out (by kernel_rfl)) (fun _ _ _ h=>h) (Or.inl ⟨by rfl,?_⟩) hHeld ?_ ?_
        rotate_left
        · rintro w' ⟨s0,s1,s2,s3,s4⟩
          go_simp
          with_reducible rfl
        rotate_left
        · simp only [Act.put,lsA,lsZ,lsS,i64_w,i32_w]
          rfl
        refine take_ (i:=2) (N:=some 17) (v:=?_) (a':=?_) #[true,true,true,true,false,false,false,false,false,false,false,false,false] rfl rfl (take_ofW HT_.out HW_.out (by kernel_rfl)) (fun _ _ _ h=>h) (Or.inl ⟨by rfl,?_⟩) hHeld ?_ ?_
        rotate_left
        · rintro w' ⟨s0,s1,s2,s3,s4⟩
          go_simp
          with_reducible rfl
        rotate_left
        · simp only [Act.put,lsA,lsZ,lsS,i64_w,i32_w]
          rfl
        refine pure_ (i:=4) (N:=some 19) (v:=?_) (a':=?_) #[true,true,true,true,true,false,false,false,false,false,false,false,false] rfl rfl (any_of HT_.out (by kernel_rfl)) (fun _ _ _ h=>h) (Or.inl ⟨by rfl,?_⟩) ?_ ?_
        rotate_left
        · intro w'
          go_simp
          with_reducible rfl
        rotate_left
        · simp only [Act.put,lsA,lsZ,lsS,i64_w,i32_w]
          rfl
        refine take_ (i:=5) (N:=some 20) (v:=?_) (a':=?_) #[true,true,true,true,true,true,false,false,false,false,false,false,false] rfl rfl (take_ofW HT_.out HW_.out (by kernel_rfl)) (fun _ _ _ h=>h) (Or.inl ⟨by rfl,?_⟩) hHeld ?_ ?_
        rotate_left
        · rintro w' ⟨s0,s1,s2,s3,s4⟩
          go_simp
          with_reducible rfl
        rotate_left
        · simp only [Act.put,lsA,lsZ,lsS,i64_w,i32_w]
          rfl
        refine one_ (i:=6) (N:=some 21) #[true,true,true,true,true,true,true,false,false,false,false,false,false] rfl rfl (one_of HT_.out (by kernel_rfl)) (by decide) (fun K hK=>?_)
        refine goes_ Try.func13 (by kernel_rfl) rfl #[.agg #[.int .i64 a0_0,.slice (some ad344) l0_1.length c0_1],.agg #[.int .i64 ((rd_T40 l0_1 a1).f0),.int .i64 ((rd_T40 l0_1 a1).f1),.slice A344_2 ((rd_T40 l0_1 a1).f2).length c344_2]] (by rfl) rfl rfl (by(try simp only [List.map_toArray,List.map_cons,List.map_nil]);first|done|rfl) ?_
        with_reducible refine(net_Send.calls k a0_0 _ _ l0_1 ((rd_T40 l0_1 a1).f0) ((rd_T40 l0_1 a1).f1) _ _ ((rd_T40 l0_1 a1).f2) t345 t346 t349 t350 _ ?side1 ?side2 ?side3 ?side4 A7.out).mono ?_
        (case side1=>repeat (first|exact(Kd.C_below HR0_1.out HB.out)|(with_reducible refine Kd.C_alloc ?_ _)|(with_reducible refine Kd.C_drewN ?_ _)|(with_reducible refine Kd.C_drew ?_)))
        (case side2=>exact HC0_1.out)
        (case side3=>repeat (first|exact(Kd.C_below HR344_2.out HB.out)|(with_reducible refine Kd.C_alloc ?_ _)|(with_reducible refine Kd.C_drewN ?_ _)|(with_reducible refine Kd.C_drew ?_)))
        (case side4=>exact HC344_2.out)
        rintro e w14 ⟨v347,rfl,ho0,hb⟩
        refine⟨_,rfl,?_⟩
        have n0_:=mkA (Kd.S_lower ho0 (bwZ (by repeat (with_reducible first|exact HB.out|apply bwA|apply bwN|apply bwD|refine bwS ?_ GE341.out|refine bwS ?_ GE342.out))))
        have n1_:=mkA (bkB (g:=gb341) (o:=.cells #[.int .i64 a0_0,.slice (some ad344) l0_1.length c0_1] 32 (0,0)) (by(with_reducible repeat first|apply bkN|apply bkD|apply bkA);exact BK341.out) hb)
        have n2_:=mkA (bkB (g:=gb342) (o:=.cells #[.int .i64 0,.slice none 0 0] 32 (0,0)) (by(with_reducible repeat first|apply bkN|apply bkD|apply bkA);exact BK342.out) hb)
        have n3_:=mkA (below_step (by repeat (with_reducible first|exact HB.out|apply bwA|apply bwN|apply bwD|refine bwS ?_ GE341.out|refine bwS ?_ GE342.out)) hb)
        clear BK341
        clear BK342
        clear HB
        have HO348:=n0_
        have BK341:=n1_
        have BK342:=n2_
        have HB:=n3_
        clear n0_ n1_ n2_ n3_
        (try clear hb)
        (try clear hb2)
        (try clear hk)
        (try clear hi)
        (try clear ho0)
        obtain ⟨Ao16,co16,eo16⟩:=Kd.S_slice HO348.out
        (first|subst eo16|(injection eo16 with f1_ f2_ f3_;have f4_:=f1_.symm;have f5_:=f3_.symm;clear f1_ f2_ f3_;subst f4_;subst f5_))
        refine hK.out _ _ ⟨(bkC BK341.out 0).trans rfl,(bkC BK341.out 1).trans rfl,((HB.out.cell (blC w _ hw344_0)).trans hw344_0),((HB.out.cell (blC w _ hw344_1)).trans hw344_1),((HB.out.cell (blC w _ hw344_2)).trans hw344_2)⟩ (fun hHeld=>?_)
        clear hK K
        refine norm_ (a':=?_) ?_ ?_
        rotate_left
        · show Act.put _ (some 21) _ = _
          simp only [Act.put,lsA,lsZ,lsS,i64_w,i32_w]
          rfl
        refine pure_ (i:=7) (N:=some 22) (v:=?_) (a':=?_) #[true,true,true,true,true,true,true,true,false,false,false,false,false] rfl rfl (any_of HT_.out (by kernel_rfl)) (fun _ _ _ h=>h) (Or.inl ⟨by rfl,?_⟩) ?_ ?_
        rotate_left
        · intro w'
          go_simp
          with_reducible rfl
        rotate_left
        · simp only [Act.put,lsA,lsZ,lsS,i64_w,i32_w]
          rfl
        refine pure_ (i:=8) (N:=some 23) (v:=?_) (a':=?_) #[true,true,true,true,true,true,true,true,true,false,false,false,false] rfl rfl (any_of HT_.out (by kernel_rfl)) (fun _ _ _ h=>h) (Or.inl ⟨by rfl,?_⟩) ?_ ?_
        rotate_left
        · intro w'
          go_simp
          with_reducible rfl
        rotate_left
        · simp only [Act.put,lsA,lsZ,lsS,i64_w,i32_w]
          rfl
        refine pure_ (i:=9) (N:=some 24) (v:=?_) (a':=?_) #[true,true,true,true,true,true,true,true,true,true,false,false,false] rfl rfl (any_of HT_.out (by kernel_rfl)) (fun _ _ _ h=>h) (Or.inl ⟨by rfl,?_⟩) ?_ ?_
        rotate_left
        · intro w'
          go_simp
          with_reducible rfl
        rotate_left
        · simp only [Act.put,lsA,lsZ,lsS,i64_w,i32_w]
          rfl
        refine one_ (i:=10) (N:=none) #[true,true,true,true,true,true,true,true,true,true,true,false,false] rfl rfl (one_of HT_.out (by kernel_rfl)) (by decide) (fun K hK=>?_)
        have hs15 : w14.cell? ⟨gb342,0,none⟩ = some (.int .i64 0):=(bkC BK342.out 0).trans rfl
        have hfs15:=bkF BK342.out 0
        have hns15_0:=NB341_342.out
        have hms15_0:=NB342_341.out
        have hs17 : w14.cell? ⟨gb342,1,none⟩ = some (.slice none 0 0):=(bkC BK342.out 1).trans rfl
        have hfs17:=bkF BK342.out 1
        have hns17_0:=NB341_342.out
        have hms17_0:=NB342_341.out
        refine skip_ (w1:=?_) (by rfl) rfl ?_ ?_
        rotate_left
        · go_simp
          rfl
        refine hK.out _ _ ⟨((cell_far (p:=⟨gb342,_,none⟩) NB341_342.out _).trans (((cell_far (p:=⟨gb342,_,none⟩) NB341_342.out _).trans (hHeld.1)))),((cell_far (p:=⟨gb342,_,none⟩) NB341_342.out _).trans (((cell_far (p:=⟨gb342,_,none⟩) NB341_342.out _).trans (hHeld.2.1)))),((cell_far (p:=⟨gb342,_,none⟩) (by first|exact Nat.ne_of_lt (Nat.lt_of_lt_of_le (by have:=blC _ _ hw344_0;first|rwa [add_block] at this|exact this) GW342.out)|(rw [add_block];exact Nat.ne_of_lt (Nat.lt_of_lt_of_le (by have:=blC _ _ hw344_0;first|rwa [add_block] at this|exact this) GW342.out))|(show(Addr.add _ _).block ≠ _;rw [add_block];exact Nat.ne_of_lt (Nat.lt_of_lt_of_le (by have:=blC _ _ hw344_0;first|rwa [add_block] at this|exact this) GW342.out))|(dsimp only;exact Nat.ne_of_lt (Nat.lt_of_lt_of_le (by have:=blC _ _ hw344_0;first|rwa [add_block] at this|exact this) GW342.out))) _).trans (((cell_far (p:=⟨gb342,_,none⟩) (by first|exact Nat.ne_of_lt (Nat.lt_of_lt_of_le (by have:=blC _ _ hw344_0;first|rwa [add_block] at this|exact this) GW342.out)|(rw [add_block];exact Nat.ne_of_lt (Nat.lt_of_lt_of_le (by have:=blC _ _ hw344_0;first|rwa [add_block] at this|exact this) GW342.out))|(show(Addr.add _ _).block ≠ _;rw [add_block];exact Nat.ne_of_lt (Nat.lt_of_lt_of_le (by have:=blC _ _ hw344_0;first|rwa [add_block] at this|exact this) GW342.out))|(dsimp only;exact Nat.ne_of_lt (Nat.lt_of_lt_of_le (by have:=blC _ _ hw344_0;first|rwa [add_block] at this|exact this) GW342.out))) _).trans (hHeld.2.2.1)))),((cell_far (p:=⟨gb342,_,none⟩) (by first|exact Nat.ne_of_lt (Nat.lt_of_lt_of_le (by have:=blC _ _ hw344_1;first|rwa [add_block] at this|exact this) GW342.out)|(rw [add_block];exact Nat.ne_of_lt (Nat.lt_of_lt_of_le (by have:=blC _ _ hw344_1;first|rwa [add_block] at this|exact this) GW342.out))|(show(Addr.add _ _).block ≠ _;rw [add_block];exact Nat.ne_of_lt (Nat.lt_of_lt_of_le (by have:=blC _ _ hw344_1;first|rwa [add_block] at this|exact this) GW342.out))|(dsimp only;exact Nat.ne_of_lt (Nat.lt_of_lt_of_le (by have:=blC _ _ hw344_1;first|rwa [add_block] at this|exact this) GW342.out))) _).trans (((cell_far (p:=⟨gb342,_,none⟩) (by first|exact Nat.ne_of_lt (Nat.lt_of_lt_of_le (by have:=blC _ _ hw344_1;first|rwa [add_block] at this|exact this) GW342.out)|(rw [add_block];exact Nat.ne_of_lt (Nat.lt_of_lt_of_le (by have:=blC _ _ hw344_1;first|rwa [add_block] at this|exact this) GW342.out))|(show(Addr.add _ _).block ≠ _;rw [add_block];exact Nat.ne_of_lt (Nat.lt_of_lt_of_le (by have:=blC _ _ hw344_1;first|rwa [add_block] at this|exact this) GW342.out))|(dsimp only;exact Nat.ne_of_lt (Nat.lt_of_lt_of_le (by have:=blC _ _ hw344_1;first|rwa [add_block] at this|exact this) GW342.out))) _).trans (hHeld.2.2.2.1)))),((cell_far (p:=⟨gb342,_,none⟩) (by first|exact Nat.ne_of_lt (Nat.lt_of_lt_of_le (by have:=blC _ _ hw344_2;first|rwa [add_block] at this|exact this) GW342.out)|(rw [add_block];exact Nat.ne_of_lt (Nat.lt_of_lt_of_le (by have:=blC _ _ hw344_2;first|rwa [add_block] at this|exact this) GW342.out))|(show(Addr.add _ _).block ≠ _;rw [add_block];exact Nat.ne_of_lt (Nat.lt_of_lt_of_le (by have:=blC _ _ hw344_2;first|rwa [add_block] at this|exact this) GW342.out))|(dsimp only;exact Nat.ne_of_lt (Nat.lt_of_lt_of_le (by have:=blC _ _ hw344_2;first|rwa [add_block] at this|exact this) GW342.out))) _).trans (((cell_far (p:=⟨gb342,_,none⟩) (by first|exact Nat.ne_of_lt (Nat.lt_of_lt_of_le (by have:=blC _ _ hw344_2;first|rwa [add_block] at this|exact this) GW342.out)|(rw [add_block];exact Nat.ne_of_lt (Nat.lt_of_lt_of_le (by have:=blC _ _ hw344_2;first|rwa [add_block] at this|exact this) GW342.out))|(show(Addr.add _ _).block ≠ _;rw [add_block];exact Nat.ne_of_lt (Nat.lt_of_lt_of_le (by have:=blC _ _ hw344_2;first|rwa [add_block] at this|exact this) GW342.out))|(dsimp only;exact Nat.ne_of_lt (Nat.lt_of_lt_of_le (by have:=blC _ _ hw344_2;first|rwa [add_block] at this|exact this) GW342.out))) _).trans (hHeld.2.2.2.2))))⟩ (fun hHeld=>?_)
        clear hK K
        refine pure_ (i:=11) (N:=some 5) (v:=?_) (a':=?_) #[true,true,true,true,true,true,true,true,true,true,true,true,false] rfl rfl (any_of HT_.out (by kernel_rfl)) (fun _ _ _ h=>h) (Or.inl ⟨by rfl,?_⟩) ?_ ?_
        rotate_left
        · intro w'
          go_simp
          with_reducible rfl
        rotate_left
        · simp only [Act.put,lsA,lsZ,lsS,i64_w,i32_w]
          rfl
        refine pure_ (i:=12) (N:=some 6) (v:=?_) (a':=?_) #[true,true,true,true,true,true,true,true,true,true,true,true,true] rfl rfl (any_of HT_.out (by kernel_rfl)) (fun _ _ _ h=>h) (Or.inl ⟨by rfl,?_⟩) ?_ ?_
        rotate_left
        · intro w'
          go_simp
          with_reducible rfl
        rotate_left
        · simp only [Act.put,lsA,lsZ,lsS,i64_w,i32_w]
          rfl
        refine done_ (done_of HT_.out (by kernel_rfl)) ?_
        try go_wp2
        refine bodyPost_ret (results_ctt rfl _ _ gb342 32 #[.int .i64 t345,.slice Ao16 t346.length co16] (0,0) _ rfl (by(with_reducible repeat first|apply bkN|apply bkD|apply bkA);refine blk_put (cs:=#[.int .i64 t345,.slice none 0 0]) ?_ 1 _ rfl;(with_reducible repeat first|apply bkN|apply bkD|apply bkA);refine blk_put (cs:=#[.int .i64 0,.slice none 0 0]) ?_ 0 _ rfl;(with_reducible repeat first|apply bkN|apply bkD|apply bkA);exact BK342.out) Try.underlying32 rfl (by kernel_rfl)) rfl ?_
        exact⟨_,by first|rfl|(simp [errW_none,errW_some] <;> rfl)|(simp [*,errW_none,errW_some] <;> rfl),by(with_reducible repeat (first|apply Kd.S_alloc|apply Kd.S_drewN|apply Kd.S_drew));exact Kd.S_mono (Kd.S_far (p:=⟨gb342,1,none⟩) (Kd.S_far (p:=⟨gb342,0,none⟩) (Kd.S_types HO348.out BK342.out (by decide)) (fun _ hk=>hk.2) (.int .i64 t345)) (fun _ hk=>hk.2) (.slice Ao16 t346.length co16)) (fun _ hk=>trivial),by repeat (with_reducible first|exact HB.out|apply bwA|apply bwN|apply bwD|refine bwS ?_ GE341.out|refine bwS ?_ GE342.out)⟩
      · rw [if_neg c6] at H
        exact absurd H (by simp)
    · rw [if_neg c5] at H
      exact absurd H (by simp)
  · rw [if_neg c4] at H
    have c4b0 : (t343 == 0) = false:=beq_eq_false_iff_ne.mpr c4
    have c4b1 : (t343 != 0) = true:=bne_iff_ne.mpr c4
    simp only [Option.some.injEq,Prod.mk.injEq] at H
    obtain ⟨rfl,rfl,rfl,rfl⟩:=H
    go_enter Try.func22,Try.ntmps22
    go_wp2_with (first|((with_reducible refine gate_dst (N:=2) rfl ?_);refine box_event ?hg (N:=2) ?hd (cs:=#[.int .i64 a0_0,.slice A0_1 l0_1.length c0_1]) (t:=32) ?hr ?_;(case hd=>rfl);(case hg=>rfl);(case hr=>first|(go_simp;done)|(go_simp;rfl));intro gb341 hg w18 hbox hb;have n0_:=mkA (below_step (by repeat (with_reducible first|exact HB.out|apply bwA|apply bwN|apply bwD)) hb);have n1_:=mkA (hbox);have n2_:=mkA ((by rw [hg];exact(bwZ (by repeat (with_reducible first|exact HB.out|apply bwA|apply bwN|apply bwD))) : w.heap.size ≤ gb341));have n3_:=mkA ((by rw [hg];exact(bwZ (by repeat (with_reducible first|exact HB.out|apply bwA|apply bwN|apply bwD))) : w.heap.size ≤ gb341));clear HB;have HB:=n0_;have BK341:=n1_;have GW341:=n2_;have GE341:=n3_;clear n0_ n1_ n2_ n3_;clear hb hbox hg)|((with_reducible refine gate_dst (N:=4) rfl ?_);refine box_event ?hg (N:=4) ?hd (cs:=#[.int .i64 0,.slice none 0 0]) (t:=32) ?hr ?_;(case hd=>rfl);(case hg=>rfl);(case hr=>first|(go_simp;done)|(go_simp;rfl));intro gb342 hg w19 hbox hb;have n0_:=mkA (bkB (g:=gb341) (o:=.cells #[.int .i64 a0_0,.slice A0_1 l0_1.length c0_1] 32 (0,0)) (by(with_reducible repeat first|apply bkN|apply bkD|apply bkA);exact BK341.out) hb);have n1_:=mkA (below_step (by repeat (with_reducible first|exact HB.out|apply bwA|apply bwN|apply bwD|refine bwS ?_ GE341.out)) hb);have n2_:=mkA (hbox);have n3_:=mkA ((by rw [hg];exact(bwZ (by repeat (with_reducible first|exact HB.out|apply bwA|apply bwN|apply bwD|refine bwS ?_ GE341.out))) : w.heap.size ≤ gb342));have n4_:=mkA ((by rw [hg];exact(bwZ (by repeat (with_reducible first|exact HB.out|apply bwA|apply bwN|apply bwD|refine bwS ?_ GE341.out))) : w.heap.size ≤ gb342));have n5_:=mkA ((by rw [hg];exact Nat.ne_of_lt (blk_lt (g:=gb341) (o:=.cells #[.int .i64 a0_0,.slice A0_1 l0_1.length c0_1] 32 (0,0)) (by(with_reducible repeat first|apply bkN|apply bkD|apply bkA);exact BK341.out)) : gb341 ≠ gb342));have n6_:=mkA ((by rw [hg];exact Nat.ne_of_gt (blk_lt (g:=gb341) (o:=.cells #[.int .i64 a0_0,.slice A0_1 l0_1.length c0_1] 32 (0,0)) (by(with_reducible repeat first|apply bkN|apply bkD|apply bkA);exact BK341.out)) : gb342 ≠ gb341));clear BK341;clear HB;have BK341:=n0_;have HB:=n1_;have BK342:=n2_;have GW342:=n3_;have GE342:=n4_;have NB341_342:=n5_;have NB342_341:=n6_;clear n0_ n1_ n2_ n3_ n4_ n5_ n6_;clear hb hbox hg;have hnb20:=NB341_342.out;have hnc20:=NB342_341.out;have hcz21_0 : w19.cell? ⟨gb341,0,none⟩ = some (.int .i64 a0_0):=(bkC BK341.out 0).trans rfl;have hcz21_1 : w19.cell? ⟨gb341,1,none⟩ = some (.slice A0_1 l0_1.length c0_1):=(bkC BK341.out 1).trans rfl;have hfz21_0:=bkF BK341.out 0;have hfz21_1:=bkF BK341.out 1)|((with_reducible refine gate_callee (f:=35) rfl ?_);refine goesL_ (some 10) rfl rfl Try.func35 (by kernel_rfl) rfl #[.agg #[.int .i64 a0_0,.slice A0_1 l0_1.length c0_1],.int .i64 a1] rfl (by(try simp only [List.map_toArray,List.map_cons,List.map_nil]);first|done|rfl) ?_;(with_reducible refine(net_asked.calls a0_0 _ _ l0_1 a1 t343 _ ?side1 ?side2 A3.out).mono ?_);(case side1=>repeat (first|exact(Kd.C_below HR0_1.out HB.out)|(with_reducible refine Kd.C_alloc ?_ _)|(with_reducible refine Kd.C_drewN ?_ _)|(with_reducible refine Kd.C_drew ?_)));(case side2=>exact HC0_1.out);rintro e w22 ⟨rfl,hb⟩;refine⟨_,rfl,?_⟩;have n0_:=mkA (bkB (g:=gb341) (o:=.cells #[.int .i64 a0_0,.slice A0_1 l0_1.length c0_1] 32 (0,0)) (by(with_reducible repeat first|apply bkN|apply bkD|apply bkA);exact BK341.out) hb);have n1_:=mkA (bkB (g:=gb342) (o:=.cells #[.int .i64 0,.slice none 0 0] 32 (0,0)) (by(with_reducible repeat first|apply bkN|apply bkD|apply bkA);exact BK342.out) hb);have n2_:=mkA (below_step (by repeat (with_reducible first|exact HB.out|apply bwA|apply bwN|apply bwD|refine bwS ?_ GE341.out|refine bwS ?_ GE342.out)) hb);clear BK341;clear BK342;clear HB;have BK341:=n0_;have BK342:=n1_;have HB:=n2_;clear n0_ n1_ n2_;(try clear hb);(try clear hb2);(try clear hk);(try clear hi);have hcz23_0 : w22.cell? ⟨gb342,0,none⟩ = some (.int .i64 0):=(bkC BK342.out 0).trans rfl;have hcz23_1 : w22.cell? ⟨gb342,1,none⟩ = some (.slice none 0 0):=(bkC BK342.out 1).trans rfl;have hfz23_0:=bkF BK342.out 0;have hfz23_1:=bkF BK342.out 1))
    refine bodyPost_ret (results_ctt rfl _ _ gb342 32 #[.int .i64 0,.slice none 0 0] (0,0) _ rfl (by(with_reducible repeat first|apply bkN|apply bkD|apply bkA);refine blk_put (cs:=#[.int .i64 0,.slice none 0 0]) ?_ 1 _ rfl;(with_reducible repeat first|apply bkN|apply bkD|apply bkA);refine blk_put (cs:=#[.int .i64 0,.slice none 0 0]) ?_ 0 _ rfl;(with_reducible repeat first|apply bkN|apply bkD|apply bkA);exact BK342.out) Try.underlying32 rfl (by kernel_rfl)) rfl ?_
    exact⟨_,by first|rfl|(simp [errW_none,errW_some] <;> rfl)|(simp [*,errW_none,errW_some] <;> rfl),by first|exact Kd.S_nil _ _ _ _ _|exact Kd.N_nil _ _ _ _ _|exact Kd.V_nil _ _ _ _ _|exact Kd.Q_nil _ _ _ _ _|exact Kd.R_nil _ _ _ _ _,by repeat (with_reducible first|exact HB.out|apply bwA|apply bwN|apply bwD|refine bwS ?_ GE341.out|refine bwS ?_ GE342.out)⟩

-- NOT PRINTED: function 5 (undercroftlaw04_NetCounts)

/-! ### undercroftref04_Drop: function 23 -/
def undercroftref04_Drop.f (k : Nat) (a0_0 : Int) (l0_1 : List (S38)) (a1 : Int) : Option (Int × (List (S38)) × Int):=(undercroftref04_Take.f k a0_0 l0_1 a1).bind fun bt429=>(some (bt429.1,bt429.2.1,bt429.2.2.2.2.2))
theorem undercroftref04_Drop.mono : ∀ a0 a1 a2 k,LeO (undercroftref04_Drop.f k a0 a1 a2) (undercroftref04_Drop.f (k + 1) a0 a1 a2):=by
  intro a0 a1 a2 k
  unfold undercroftref04_Drop.f
  repeat' first
      | (with_reducible exact undercroftref04_Take.mono _ _ _ _)
      | (with_reducible exact LeO.refl _)
      | (with_reducible exact LeO.none _)
      | (with_reducible refine LeO.ite ?_ ?_)
      | (with_reducible refine LeO.bind ?_ (fun _=>?_))
      | exact undercroftref04_Take.mono _ _ _ _
      | exact LeO.none _
      | refine LeO.ite ?_ ?_
      | refine LeO.bind ?_ (fun _=>?_)
set_option maxHeartbeats 8000000 in
set_option maxRecDepth 100000 in
theorem undercroftref04_Drop.calls (k : Nat) (a0_0 : Int) (A0_1 : Option Addr) (c0_1 : Nat) (l0_1 : List (S38)) (a1 : Int) (r1 : Int) (r2 : List (S38)) (r3 : Int) (w : World) (hr0_1 : Kd.C k38 w A0_1 l0_1.length l0_1) (hc0_1 : l0_1.length ≤ c0_1) (h : undercroftref04_Drop.f k a0_0 l0_1 a1 = some (r1,r2,r3)) :
    Calls Try.prog 23 #[.agg #[.int .i64 a0_0,.slice A0_1 l0_1.length c0_1],.int .i64 a1] w fun e w'=>∃ v1_ : Value,e = .returned (.tuple #[.agg #[.int .i64 r1,v1_],.int .i64 r3])∧Kd.S k38 38 w' w.heap.size (fun _=>True) v1_ r2∧Below w.heap.size w w':=by
  have hu24:=Try.underlying24
  have hu38:=Try.underlying38
  have HR0_1:=mkA hr0_1
  have HC0_1:=mkA hc0_1
  clear hr0_1 hc0_1
  have HB:=mkA (Below.refl w.heap.size w)
  have H : ((undercroftref04_Take.f k a0_0 l0_1 a1).bind fun bt429=>(some (bt429.1,bt429.2.1,bt429.2.2.2.2.2))) = some (r1,r2,r3):=h
  clear h
  replace H:=Option.bind_eq_some_iff.mp H
  obtain ⟨⟨t429,t430,t433,t434,t435,t438⟩,A30,H⟩:=H
  replace H : (some (t429,t430,t438)) = some (r1,r2,r3):=H
  have A3:=mkA A30
  clear A30
  simp only [Option.some.injEq,Prod.mk.injEq] at H
  obtain ⟨rfl,rfl,rfl⟩:=H
  go_enter Try.func23,Try.ntmps23
  go_wp2_with (first|((with_reducible refine gate_dst (N:=2) rfl ?_);refine box_event ?hg (N:=2) ?hd (cs:=#[.int .i64 a0_0,.slice A0_1 l0_1.length c0_1]) (t:=24) ?hr ?_;(case hd=>rfl);(case hg=>rfl);(case hr=>first|(go_simp;done)|(go_simp;rfl));intro gb427 hg w4 hbox hb;have n0_:=mkA (below_step (by repeat (with_reducible first|exact HB.out|apply bwA|apply bwN|apply bwD)) hb);have n1_:=mkA (hbox);have n2_:=mkA ((by rw [hg];exact(bwZ (by repeat (with_reducible first|exact HB.out|apply bwA|apply bwN|apply bwD))) : w.heap.size ≤ gb427));have n3_:=mkA ((by rw [hg];exact(bwZ (by repeat (with_reducible first|exact HB.out|apply bwA|apply bwN|apply bwD))) : w.heap.size ≤ gb427));clear HB;have HB:=n0_;have BK427:=n1_;have GW427:=n2_;have GE427:=n3_;clear n0_ n1_ n2_ n3_;clear hb hbox hg)|((with_reducible refine gate_dst (N:=4) rfl ?_);refine box_event ?hg (N:=4) ?hd (cs:=#[.int .i64 0,.slice none 0 0]) (t:=24) ?hr ?_;(case hd=>rfl);(case hg=>rfl);(case hr=>first|(go_simp;done)|(go_simp;rfl));intro gb428 hg w5 hbox hb;have n0_:=mkA (bkB (g:=gb427) (o:=.cells #[.int .i64 a0_0,.slice A0_1 l0_1.length c0_1] 24 (0,0)) (by(with_reducible repeat first|apply bkN|apply bkD|apply bkA);exact BK427.out) hb);have n1_:=mkA (below_step (by repeat (with_reducible first|exact HB.out|apply bwA|apply bwN|apply bwD|refine bwS ?_ GE427.out)) hb);have n2_:=mkA (hbox);have n3_:=mkA ((by rw [hg];exact(bwZ (by repeat (with_reducible first|exact HB.out|apply bwA|apply bwN|apply bwD|refine bwS ?_ GE427.out))) : w.heap.size ≤ gb428));have n4_:=mkA ((by rw [hg];exact(bwZ (by repeat (with_reducible first|exact HB.out|apply bwA|apply bwN|apply bwD|refine bwS ?_ GE427.out))) : w.heap.size ≤ gb428));have n5_:=mkA ((by rw [hg];exact Nat.ne_of_lt (blk_lt (g:=gb427) (o:=.cells #[.int .i64 a0_0,.slice A0_1 l0_1.length c0_1] 24 (0,0)) (by(with_reducible repeat first|apply bkN|apply bkD|apply bkA);exact BK427.out)) : gb427 ≠ gb428));have n6_:=mkA ((by rw [hg];exact Nat.ne_of_gt (blk_lt (g:=gb427) (o:=.cells #[.int .i64 a0_0,.slice A0_1 l0_1.length c0_1] 24 (0,0)) (by(with_reducible repeat first|apply bkN|apply bkD|apply bkA);exact BK427.out)) : gb428 ≠ gb427));clear BK427;clear HB;have BK427:=n0_;have HB:=n1_;have BK428:=n2_;have GW428:=n3_;have GE428:=n4_;have NB427_428:=n5_;have NB428_427:=n6_;clear n0_ n1_ n2_ n3_ n4_ n5_ n6_;clear hb hbox hg;have hnb6:=NB427_428.out;have hnc6:=NB428_427.out;have hcz7_0 : w5.cell? ⟨gb427,0,none⟩ = some (.int .i64 a0_0):=(bkC BK427.out 0).trans rfl;have hcz7_1 : w5.cell? ⟨gb427,1,none⟩ = some (.slice A0_1 l0_1.length c0_1):=(bkC BK427.out 1).trans rfl;have hfz7_0:=bkF BK427.out 0;have hfz7_1:=bkF BK427.out 1)|((with_reducible refine gate_callee (f:=16) rfl ?_);refine goesL_ (some 12) rfl rfl Try.func16 (by kernel_rfl) rfl #[.agg #[.int .i64 a0_0,.slice A0_1 l0_1.length c0_1],.int .i64 a1] rfl (by(try simp only [List.map_toArray,List.map_cons,List.map_nil]);first|done|rfl) ?_;(with_reducible refine(undercroftref04_Take.calls k a0_0 _ _ l0_1 a1 t429 t430 t433 t434 t435 t438 _ ?side1 ?side2 A3.out).mono ?_);(case side1=>repeat (first|exact(Kd.C_below HR0_1.out HB.out)|(with_reducible refine Kd.C_alloc ?_ _)|(with_reducible refine Kd.C_drewN ?_ _)|(with_reducible refine Kd.C_drew ?_)));(case side2=>exact HC0_1.out);rintro e w8 ⟨v431,v436,rfl,ho0,ho1,hb⟩;refine⟨_,rfl,?_⟩;have n0_:=mkA (Kd.S_lower ho0 (bwZ (by repeat (with_reducible first|exact HB.out|apply bwA|apply bwN|apply bwD|refine bwS ?_ GE427.out|refine bwS ?_ GE428.out))));have n1_:=mkA (Kd.R_lower ho1 (bwZ (by repeat (with_reducible first|exact HB.out|apply bwA|apply bwN|apply bwD|refine bwS ?_ GE427.out|refine bwS ?_ GE428.out))));have n2_:=mkA (bkB (g:=gb427) (o:=.cells #[.int .i64 a0_0,.slice A0_1 l0_1.length c0_1] 24 (0,0)) (by(with_reducible repeat first|apply bkN|apply bkD|apply bkA);exact BK427.out) hb);have n3_:=mkA (bkB (g:=gb428) (o:=.cells #[.int .i64 0,.slice none 0 0] 24 (0,0)) (by(with_reducible repeat first|apply bkN|apply bkD|apply bkA);exact BK428.out) hb);have n4_:=mkA (below_step (by repeat (with_reducible first|exact HB.out|apply bwA|apply bwN|apply bwD|refine bwS ?_ GE427.out|refine bwS ?_ GE428.out)) hb);clear BK427;clear BK428;clear HB;have HO432:=n0_;have HO437:=n1_;have BK427:=n2_;have BK428:=n3_;have HB:=n4_;clear n0_ n1_ n2_ n3_ n4_;(try clear hb);(try clear hb2);(try clear hk);(try clear hi);(try clear ho0);(try clear ho1))|((with_reducible refine gate_dst (N:=6) rfl ?_);refine box_event ?hg (N:=6) ?hd (cs:=#[.int .i64 0,.slice none 0 0]) (t:=24) ?hr ?_;(case hd=>rfl);(case hg=>rfl);(case hr=>first|(go_simp;done)|(go_simp;rfl));intro gb439 hg w9 hbox hb;have n0_:=mkA (Kd.S_below (by(with_reducible repeat (first|apply Kd.S_alloc|apply Kd.S_drewN|apply Kd.S_drew));exact HO432.out) hb);have n1_:=mkA (Kd.R_below (by(with_reducible repeat (first|apply Kd.R_alloc|apply Kd.R_drewN|apply Kd.R_drew));exact HO437.out) hb);have n2_:=mkA (bkB (g:=gb427) (o:=.cells #[.int .i64 a0_0,.slice A0_1 l0_1.length c0_1] 24 (0,0)) (by(with_reducible repeat first|apply bkN|apply bkD|apply bkA);exact BK427.out) hb);have n3_:=mkA (bkB (g:=gb428) (o:=.cells #[.int .i64 0,.slice none 0 0] 24 (0,0)) (by(with_reducible repeat first|apply bkN|apply bkD|apply bkA);exact BK428.out) hb);have n4_:=mkA (below_step (by repeat (with_reducible first|exact HB.out|apply bwA|apply bwN|apply bwD|refine bwS ?_ GE427.out|refine bwS ?_ GE428.out)) hb);have n5_:=mkA (hbox);have n6_:=mkA ((by rw [hg];exact(bwZ (by repeat (with_reducible first|exact HB.out|apply bwA|apply bwN|apply bwD|refine bwS ?_ GE427.out|refine bwS ?_ GE428.out))) : w.heap.size ≤ gb439));have n7_:=mkA ((by rw [hg];exact(bwZ (by repeat (with_reducible first|exact HB.out|apply bwA|apply bwN|apply bwD|refine bwS ?_ GE427.out|refine bwS ?_ GE428.out))) : w.heap.size ≤ gb439));have n8_:=mkA ((by rw [hg];exact Nat.ne_of_lt (blk_lt (g:=gb427) (o:=.cells #[.int .i64 a0_0,.slice A0_1 l0_1.length c0_1] 24 (0,0)) (by(with_reducible repeat first|apply bkN|apply bkD|apply bkA);exact BK427.out)) : gb427 ≠ gb439));have n9_:=mkA ((by rw [hg];exact Nat.ne_of_gt (blk_lt (g:=gb427) (o:=.cells #[.int .i64 a0_0,.slice A0_1 l0_1.length c0_1] 24 (0,0)) (by(with_reducible repeat first|apply bkN|apply bkD|apply bkA);exact BK427.out)) : gb439 ≠ gb427));have n10_:=mkA ((by rw [hg];exact Nat.ne_of_lt (blk_lt (g:=gb428) (o:=.cells #[.int .i64 0,.slice none 0 0] 24 (0,0)) (by(with_reducible repeat first|apply bkN|apply bkD|apply bkA);exact BK428.out)) : gb428 ≠ gb439));have n11_:=mkA ((by rw [hg];exact Nat.ne_of_gt (blk_lt (g:=gb428) (o:=.cells #[.int .i64 0,.slice none 0 0] 24 (0,0)) (by(with_reducible repeat first|apply bkN|apply bkD|apply bkA);exact BK428.out)) : gb439 ≠ gb428));clear HO432;clear HO437;clear BK427;clear BK428;clear HB;have HO432:=n0_;have HO437:=n1_;have BK427:=n2_;have BK428:=n3_;have HB:=n4_;have BK439:=n5_;have GW439:=n6_;have GE439:=n7_;have NB427_439:=n8_;have NB439_427:=n9_;have NB428_439:=n10_;have NB439_428:=n11_;clear n0_ n1_ n2_ n3_ n4_ n5_ n6_ n7_ n8_ n9_ n10_ n11_;clear hb hbox hg)|((with_reducible refine gate_dst (N:=7) rfl ?_);refine box_event ?hg (N:=7) ?hd (cs:=#[.int .i64 0,.int .i64 0,.slice none 0 0]) (t:=38) ?hr ?_;(case hd=>rfl);(case hg=>rfl);(case hr=>first|(go_simp;done)|(go_simp;rfl));intro gb440 hg w10 hbox hb;have n0_:=mkA (Kd.S_below (Kd.S_elderB (by(with_reducible repeat (first|apply Kd.S_alloc|apply Kd.S_drewN|apply Kd.S_drew));exact HO432.out) gb440 (Nat.le_of_eq hg.symm)) hb);have n1_:=mkA (Kd.R_below (by(with_reducible repeat (first|apply Kd.R_alloc|apply Kd.R_drewN|apply Kd.R_drew));exact HO437.out) hb);have n2_:=mkA (bkB (g:=gb427) (o:=.cells #[.int .i64 a0_0,.slice A0_1 l0_1.length c0_1] 24 (0,0)) (by(with_reducible repeat first|apply bkN|apply bkD|apply bkA);exact BK427.out) hb);have n3_:=mkA (bkB (g:=gb428) (o:=.cells #[.int .i64 0,.slice none 0 0] 24 (0,0)) (by(with_reducible repeat first|apply bkN|apply bkD|apply bkA);exact BK428.out) hb);have n4_:=mkA (bkB (g:=gb439) (o:=.cells #[.int .i64 0,.slice none 0 0] 24 (0,0)) (by(with_reducible repeat first|apply bkN|apply bkD|apply bkA);exact BK439.out) hb);have n5_:=mkA (below_step (by repeat (with_reducible first|exact HB.out|apply bwA|apply bwN|apply bwD|refine bwS ?_ GE427.out|refine bwS ?_ GE428.out|refine bwS ?_ GE439.out)) hb);have n6_:=mkA (hbox);have n7_:=mkA ((by rw [hg];exact(bwZ (by repeat (with_reducible first|exact HB.out|apply bwA|apply bwN|apply bwD|refine bwS ?_ GE427.out|refine bwS ?_ GE428.out|refine bwS ?_ GE439.out))) : w.heap.size ≤ gb440));have n8_:=mkA ((by rw [hg];exact(bwZ (by repeat (with_reducible first|exact HB.out|apply bwA|apply bwN|apply bwD|refine bwS ?_ GE427.out|refine bwS ?_ GE428.out|refine bwS ?_ GE439.out))) : w.heap.size ≤ gb440));have n9_:=mkA ((by rw [hg];exact Nat.ne_of_lt (blk_lt (g:=gb427) (o:=.cells #[.int .i64 a0_0,.slice A0_1 l0_1.length c0_1] 24 (0,0)) (by(with_reducible repeat first|apply bkN|apply bkD|apply bkA);exact BK427.out)) : gb427 ≠ gb440));have n10_:=mkA ((by rw [hg];exact Nat.ne_of_gt (blk_lt (g:=gb427) (o:=.cells #[.int .i64 a0_0,.slice A0_1 l0_1.length c0_1] 24 (0,0)) (by(with_reducible repeat first|apply bkN|apply bkD|apply bkA);exact BK427.out)) : gb440 ≠ gb427));have n11_:=mkA ((by rw [hg];exact Nat.ne_of_lt (blk_lt (g:=gb428) (o:=.cells #[.int .i64 0,.slice none 0 0] 24 (0,0)) (by(with_reducible repeat first|apply bkN|apply bkD|apply bkA);exact BK428.out)) : gb428 ≠ gb440));have n12_:=mkA ((by rw [hg];exact Nat.ne_of_gt (blk_lt (g:=gb428) (o:=.cells #[.int .i64 0,.slice none 0 0] 24 (0,0)) (by(with_reducible repeat first|apply bkN|apply bkD|apply bkA);exact BK428.out)) : gb440 ≠ gb428));have n13_:=mkA ((by rw [hg];exact Nat.ne_of_lt (blk_lt (g:=gb439) (o:=.cells #[.int .i64 0,.slice none 0 0] 24 (0,0)) (by(with_reducible repeat first|apply bkN|apply bkD|apply bkA);exact BK439.out)) : gb439 ≠ gb440));have n14_:=mkA ((by rw [hg];exact Nat.ne_of_gt (blk_lt (g:=gb439) (o:=.cells #[.int .i64 0,.slice none 0 0] 24 (0,0)) (by(with_reducible repeat first|apply bkN|apply bkD|apply bkA);exact BK439.out)) : gb440 ≠ gb439));clear HO432;clear HO437;clear BK427;clear BK428;clear BK439;clear HB;have HO432:=n0_;have HO437:=n1_;have BK427:=n2_;have BK428:=n3_;have BK439:=n4_;have HB:=n5_;have BK440:=n6_;have GW440:=n7_;have GE440:=n8_;have NB427_440:=n9_;have NB440_427:=n10_;have NB428_440:=n11_;have NB440_428:=n12_;have NB439_440:=n13_;have NB440_439:=n14_;clear n0_ n1_ n2_ n3_ n4_ n5_ n6_ n7_ n8_ n9_ n10_ n11_ n12_ n13_ n14_;clear hb hbox hg;have hnb11:=NB439_427.out;have hnc11:=NB427_439.out;have hnb12:=NB439_428.out;have hnc12:=NB428_439.out;have hnb13:=NB439_440.out;have hnc13:=NB440_439.out;have hcz14_0 : w10.cell? ⟨gb439,0,none⟩ = some (.int .i64 0):=(bkC BK439.out 0).trans rfl;have hcz14_1 : w10.cell? ⟨gb439,1,none⟩ = some (.slice none 0 0):=(bkC BK439.out 1).trans rfl;have hfz14_0:=bkF BK439.out 0;have hfz14_1:=bkF BK439.out 1;obtain ⟨Ao15,co15,eo15⟩:=Kd.S_slice HO432.out;subst eo15;have hnb16:=NB440_427.out;have hnc16:=NB427_440.out;have hnb17:=NB440_428.out;have hnc17:=NB428_440.out;have hcz18_0 : w10.cell? ⟨gb440,0,none⟩ = some (.int .i64 0):=(bkC BK440.out 0).trans rfl;have hcz18_1 : w10.cell? ⟨gb440,1,none⟩ = some (.int .i64 0):=(bkC BK440.out 1).trans rfl;have hcz18_2 : w10.cell? ⟨gb440,2,none⟩ = some (.slice none 0 0):=(bkC BK440.out 2).trans rfl;have hfz18_0:=bkF BK440.out 0;have hfz18_1:=bkF BK440.out 1;have hfz18_2:=bkF BK440.out 2;obtain ⟨Ao19,co19,eo19⟩:=Kd.R_slice HO437.out;subst eo19;have hcz20_0 : w10.cell? ⟨gb428,0,none⟩ = some (.int .i64 0):=(bkC BK428.out 0).trans rfl;have hcz20_1 : w10.cell? ⟨gb428,1,none⟩ = some (.slice none 0 0):=(bkC BK428.out 1).trans rfl;have hfz20_0:=bkF BK428.out 0;have hfz20_1:=bkF BK428.out 1))
  refine bodyPost_ret (results_ct rfl _ _ gb428 24 #[.int .i64 t429,.slice Ao15 t430.length co15] (0,0) _ rfl (by(with_reducible repeat first|apply bkN|apply bkD|apply bkA);refine blk_put (cs:=#[.int .i64 t429,.slice none 0 0]) ?_ 1 _ rfl;(with_reducible repeat first|apply bkN|apply bkD|apply bkA);refine blk_put (cs:=#[.int .i64 0,.slice none 0 0]) ?_ 0 _ rfl;(with_reducible repeat first|apply bkN|apply bkD|apply bkA);refine blk_far ?_ NB428_440.out _;(with_reducible repeat first|apply bkN|apply bkD|apply bkA);refine blk_far ?_ NB428_440.out _;(with_reducible repeat first|apply bkN|apply bkD|apply bkA);refine blk_far ?_ NB428_440.out _;(with_reducible repeat first|apply bkN|apply bkD|apply bkA);refine blk_far ?_ NB428_439.out _;(with_reducible repeat first|apply bkN|apply bkD|apply bkA);refine blk_far ?_ NB428_439.out _;(with_reducible repeat first|apply bkN|apply bkD|apply bkA);exact BK428.out) Try.underlying24 rfl (by kernel_rfl)) rfl ?_
  exact⟨_,by first|rfl|(simp [errW_none,errW_some] <;> rfl)|(simp [*,errW_none,errW_some] <;> rfl),by(with_reducible repeat (first|apply Kd.S_alloc|apply Kd.S_drewN|apply Kd.S_drew));exact Kd.S_mono (Kd.S_far (p:=⟨gb428,1,none⟩) (Kd.S_far (p:=⟨gb428,0,none⟩) (Kd.S_far (p:=⟨gb440,2,none⟩) (Kd.S_far (p:=⟨gb440,1,none⟩) (Kd.S_far (p:=⟨gb440,0,none⟩) (Kd.S_far (p:=⟨gb439,1,none⟩) (Kd.S_far (p:=⟨gb439,0,none⟩) (Kd.S_types (Kd.S_mono (Kd.S_types HO432.out BK439.out (by decide)) (fun k_ hk=>(⟨hk,hk.1.2⟩ : _∧k_ ≠ gb440))) BK428.out (by decide)) (fun _ hk=>hk.1.1.2) (.int .i64 t429)) (fun _ hk=>hk.1.1.2) (.slice Ao15 t430.length co15)) (fun _ hk=>hk.1.2) (.int .i64 t433)) (fun _ hk=>hk.1.2) (.int .i64 t434)) (fun _ hk=>hk.1.2) (.slice Ao19 t435.length co19)) (fun _ hk=>hk.2) (.int .i64 t429)) (fun _ hk=>hk.2) (.slice Ao15 t430.length co15)) (fun _ hk=>trivial),by repeat (with_reducible first|exact HB.out|apply bwA|apply bwN|apply bwD|refine bwS ?_ GE427.out|refine bwS ?_ GE428.out|refine bwS ?_ GE439.out|refine bwS ?_ GE440.out)⟩
end Go.Proofs.Ytgglmibbbjallaa.T
