/- This text tells functions of the seat as plain functions, with their contracts, as the machine's calls meet them. -/
import Derived.Test.YtgglmibbbjallaaTa4
namespace Go.Proofs.Ytgglmibbbjallaa.T
open Go.RowKit Go.Proofs.YtgglmibbbjallaaW.PrintWords Go.Proofs.YtgglmibbbjallaaW.PrintLast Go.Proofs.YtgglmibbbjallaaW.PrintMore
attribute [local go_sem] max2_int min2_int max_two min_two max_three min_three max_four min_four   -- for this text's walks alone
set_option linter.unusedVariables false
set_option linter.unusedSimpArgs false

/-! ### undercroftref04_but: function 33 -/
def undercroftref04_but.l0 : Nat→Int→Int→Int→List (S38)→Int→List (S38)→Option (Int × (List (S38)))
  | 0,_,_,_,_,_,_=>none
  | k + 1,x1,x6,x213000,x213001,x215000,x215001=>if x6 < (x213001.length : Int) then(if x6 = x1 then(undercroftref04_but.l0 k x1 (wrap64 (x6 + 1)) x213000 x213001 x215000 x215001) else(if 0 ≤ x6 then((undercroftref04_copied.f ((rd_T38 x213001 x6).f0) ((rd_T38 x213001 x6).f1) ((rd_T38 x213001 x6).f2)).bind fun bt216=>(if x215001.length < 3518437208883 then(undercroftref04_but.l0 k x1 (wrap64 (x6 + 1)) x213000 x213001 x215000 (x215001 ++ [(⟨bt216.1,bt216.2.1,bt216.2.2⟩ : S38)])) else(none))) else(none))) else(some (x215000,x215001))
def undercroftref04_but.f (k : Nat) (a0_0 : Int) (l0_1 : List (S38)) (a1 : Int) : Option (Int × (List (S38))):=undercroftref04_but.l0 k a1 0 a0_0 l0_1 a0_0 ([] : List (S38))
theorem undercroftref04_but.mono_l : ∀ k,(∀ y0 y1 y2 y3 y4 y5,LeO (undercroftref04_but.l0 k y0 y1 y2 y3 y4 y5) (undercroftref04_but.l0 (k + 1) y0 y1 y2 y3 y4 y5))
  | 0=>fun _ _ _ _ _ _ r h=>by simp [undercroftref04_but.l0] at h
  | k + 1=>by
    have ih0:=undercroftref04_but.mono_l k
    · intro y0 y1 y2 y3 y4 y5
      unfold undercroftref04_but.l0
      repeat' first
      | (with_reducible exact ih0 _ _ _ _ _ _)
      | (with_reducible exact LeO.refl _)
      | (with_reducible exact LeO.none _)
      | (with_reducible refine LeO.ite ?_ ?_)
      | (with_reducible refine LeO.bind ?_ (fun _=>?_))
      | exact ih0 _ _ _ _ _ _
      | exact LeO.none _
      | refine LeO.ite ?_ ?_
      | refine LeO.bind ?_ (fun _=>?_)
theorem undercroftref04_but.mono : ∀ a0 a1 a2 k,LeO (undercroftref04_but.f k a0 a1 a2) (undercroftref04_but.f (k + 1) a0 a1 a2):=by
  intro a0 a1 a2 k
  have ih0:=undercroftref04_but.mono_l k
  unfold undercroftref04_but.f
  repeat' first
      | (with_reducible exact ih0 _ _ _ _ _ _)
      | (with_reducible exact LeO.refl _)
      | (with_reducible exact LeO.none _)
      | (with_reducible refine LeO.ite ?_ ?_)
      | (with_reducible refine LeO.bind ?_ (fun _=>?_))
      | exact ih0 _ _ _ _ _ _
      | exact LeO.none _
      | refine LeO.ite ?_ ?_
      | refine LeO.bind ?_ (fun _=>?_)
def undercroftref04_but.T6 : Bool × List (List Nat × List Nat):=(true,[([],[]),([0],[0]),([],[]),([2],[2]),([],[]),([3,4],[3,4]),([5],[5]),([6],[6]),([7],[7]),([1,8,7],[1,8]),([0,1,2,3,4,5,6,7,8,9],[]),([10,9,9,0,1,2,3,4,5,6,7,8,9],[9,10])])
def undercroftref04_but.B6 : List Nat:=[0,1,0,4,0,28,60,124,252,511,1023,2047]
theorem undercroftref04_but.tab6 : rtab .any (opsOf Try.f33 6) = undercroftref04_but.T6:=by kernel_rfl
theorem undercroftref04_but.bits6 : waitsOk undercroftref04_but.T6.2 undercroftref04_but.B6 = true:=by kernel_rfl
set_option maxHeartbeats 8000000 in
set_option maxRecDepth 100000 in
theorem undercroftref04_but.calls (k : Nat) (a0_0 : Int) (A0_1 : Option Addr) (c0_1 : Nat) (l0_1 : List (S38)) (a1 : Int) (r1 : Int) (r2 : List (S38)) (w : World) (hr0_1 : Kd.C k38 w A0_1 l0_1.length l0_1) (hc0_1 : l0_1.length ≤ c0_1) (h : undercroftref04_but.f k a0_0 l0_1 a1 = some (r1,r2)) :
    Calls Try.prog 33 #[.agg #[.int .i64 a0_0,.slice A0_1 l0_1.length c0_1],.int .i64 a1] w fun e w'=>∃ v1_ : Value,e = .returned (.agg #[.int .i64 r1,v1_])∧Kd.S k38 38 w' w.heap.size (fun _=>True) v1_ r2∧Below w.heap.size w w':=by
  have hu24:=Try.underlying24
  have hu38:=Try.underlying38
  have HR0_1:=mkA hr0_1
  have HC0_1:=mkA hc0_1
  clear hr0_1 hc0_1
  have HB:=mkA (Below.refl w.heap.size w)
  have H : (undercroftref04_but.l0 k a1 0 a0_0 l0_1 a0_0 ([] : List (S38))) = some (r1,r2):=h
  clear h
  have H':=mkA H
  clear H
  go_enter Try.func33,Try.ntmps33
  go_wp2_with (first|((with_reducible refine gate_dst (N:=2) rfl ?_);refine box_event ?hg (N:=2) ?hd (cs:=#[.int .i64 a0_0,.slice A0_1 l0_1.length c0_1]) (t:=24) ?hr ?_;(case hd=>rfl);(case hg=>rfl);(case hr=>first|(go_simp;done)|(go_simp;rfl));intro gb212 hg w3 hbox hb;have n0_:=mkA (below_step (by repeat (with_reducible first|exact HB.out|apply bwA|apply bwN|apply bwD)) hb);have n1_:=mkA (hbox);have n2_:=mkA ((by rw [hg];exact(bwZ (by repeat (with_reducible first|exact HB.out|apply bwA|apply bwN|apply bwD))) : w.heap.size ≤ gb212));have n3_:=mkA ((by rw [hg];exact(bwZ (by repeat (with_reducible first|exact HB.out|apply bwA|apply bwN|apply bwD))) : w.heap.size ≤ gb212));clear HB;have HB:=n0_;have BK212:=n1_;have GW212:=n2_;have GE212:=n3_;clear n0_ n1_ n2_ n3_;clear hb hbox hg)|((with_reducible refine gate_dst (N:=4) rfl ?_);refine box_event ?hg (N:=4) ?hd (cs:=#[.int .i64 0,.slice none 0 0]) (t:=24) ?hr ?_;(case hd=>rfl);(case hg=>rfl);(case hr=>first|(go_simp;done)|(go_simp;rfl));intro gb213 hg w4 hbox hb;have n0_:=mkA (bkB (g:=gb212) (o:=.cells #[.int .i64 a0_0,.slice A0_1 l0_1.length c0_1] 24 (0,0)) (by(with_reducible repeat first|apply bkN|apply bkD|apply bkA);exact BK212.out) hb);have n1_:=mkA (below_step (by repeat (with_reducible first|exact HB.out|apply bwA|apply bwN|apply bwD|refine bwS ?_ GE212.out)) hb);have n2_:=mkA (hbox);have n3_:=mkA ((by rw [hg];exact(bwZ (by repeat (with_reducible first|exact HB.out|apply bwA|apply bwN|apply bwD|refine bwS ?_ GE212.out))) : w.heap.size ≤ gb213));have n4_:=mkA ((by rw [hg];exact(bwZ (by repeat (with_reducible first|exact HB.out|apply bwA|apply bwN|apply bwD|refine bwS ?_ GE212.out))) : w.heap.size ≤ gb213));have n5_:=mkA ((by rw [hg];exact Nat.ne_of_lt (blk_lt (g:=gb212) (o:=.cells #[.int .i64 a0_0,.slice A0_1 l0_1.length c0_1] 24 (0,0)) (by(with_reducible repeat first|apply bkN|apply bkD|apply bkA);exact BK212.out)) : gb212 ≠ gb213));have n6_:=mkA ((by rw [hg];exact Nat.ne_of_gt (blk_lt (g:=gb212) (o:=.cells #[.int .i64 a0_0,.slice A0_1 l0_1.length c0_1] 24 (0,0)) (by(with_reducible repeat first|apply bkN|apply bkD|apply bkA);exact BK212.out)) : gb213 ≠ gb212));clear BK212;clear HB;have BK212:=n0_;have HB:=n1_;have BK213:=n2_;have GW213:=n3_;have GE213:=n4_;have NB212_213:=n5_;have NB213_212:=n6_;clear n0_ n1_ n2_ n3_ n4_ n5_ n6_;clear hb hbox hg;have hnb5:=NB212_213.out;have hnc5:=NB213_212.out;have hcz6_0 : w4.cell? ⟨gb212,0,none⟩ = some (.int .i64 a0_0):=(bkC BK212.out 0).trans rfl;have hcz6_1 : w4.cell? ⟨gb212,1,none⟩ = some (.slice A0_1 l0_1.length c0_1):=(bkC BK212.out 1).trans rfl;have hfz6_0:=bkF BK212.out 0;have hfz6_1:=bkF BK212.out 1)|((with_reducible refine gate_dst (N:=5) rfl ?_);refine box_event ?hg (N:=5) ?hd (cs:=#[.int .i64 0,.slice none 0 0]) (t:=24) ?hr ?_;(case hd=>rfl);(case hg=>rfl);(case hr=>first|(go_simp;done)|(go_simp;rfl));intro gb214 hg w7 hbox hb;have n0_:=mkA (bkB (g:=gb212) (o:=.cells #[.int .i64 a0_0,.slice A0_1 l0_1.length c0_1] 24 (0,0)) (by(with_reducible repeat first|apply bkN|apply bkD|apply bkA);exact BK212.out) hb);have n1_:=mkA (bkB (g:=gb213) (o:=.cells #[.int .i64 0,.slice none 0 0] 24 (0,0)) (by(with_reducible repeat first|apply bkN|apply bkD|apply bkA);exact BK213.out) hb);have n2_:=mkA (below_step (by repeat (with_reducible first|exact HB.out|apply bwA|apply bwN|apply bwD|refine bwS ?_ GE212.out|refine bwS ?_ GE213.out)) hb);have n3_:=mkA (hbox);have n4_:=mkA ((by rw [hg];exact(bwZ (by repeat (with_reducible first|exact HB.out|apply bwA|apply bwN|apply bwD|refine bwS ?_ GE212.out|refine bwS ?_ GE213.out))) : w.heap.size ≤ gb214));have n5_:=mkA ((by rw [hg];exact(bwZ (by repeat (with_reducible first|exact HB.out|apply bwA|apply bwN|apply bwD|refine bwS ?_ GE212.out|refine bwS ?_ GE213.out))) : w.heap.size ≤ gb214));have n6_:=mkA ((by rw [hg];exact Nat.ne_of_lt (blk_lt (g:=gb212) (o:=.cells #[.int .i64 a0_0,.slice A0_1 l0_1.length c0_1] 24 (0,0)) (by(with_reducible repeat first|apply bkN|apply bkD|apply bkA);exact BK212.out)) : gb212 ≠ gb214));have n7_:=mkA ((by rw [hg];exact Nat.ne_of_gt (blk_lt (g:=gb212) (o:=.cells #[.int .i64 a0_0,.slice A0_1 l0_1.length c0_1] 24 (0,0)) (by(with_reducible repeat first|apply bkN|apply bkD|apply bkA);exact BK212.out)) : gb214 ≠ gb212));have n8_:=mkA ((by rw [hg];exact Nat.ne_of_lt (blk_lt (g:=gb213) (o:=.cells #[.int .i64 0,.slice none 0 0] 24 (0,0)) (by(with_reducible repeat first|apply bkN|apply bkD|apply bkA);exact BK213.out)) : gb213 ≠ gb214));have n9_:=mkA ((by rw [hg];exact Nat.ne_of_gt (blk_lt (g:=gb213) (o:=.cells #[.int .i64 0,.slice none 0 0] 24 (0,0)) (by(with_reducible repeat first|apply bkN|apply bkD|apply bkA);exact BK213.out)) : gb214 ≠ gb213));clear BK212;clear BK213;clear HB;have BK212:=n0_;have BK213:=n1_;have HB:=n2_;have BK214:=n3_;have GW214:=n4_;have GE214:=n5_;have NB212_214:=n6_;have NB214_212:=n7_;have NB213_214:=n8_;have NB214_213:=n9_;clear n0_ n1_ n2_ n3_ n4_ n5_ n6_ n7_ n8_ n9_;clear hb hbox hg;have hnb8:=NB214_212.out;have hnc8:=NB212_214.out;have hnb9:=NB214_213.out;have hnc9:=NB213_214.out;have hcz10_0 : w7.cell? ⟨gb214,0,none⟩ = some (.int .i64 0):=(bkC BK214.out 0).trans rfl;have hcz10_1 : w7.cell? ⟨gb214,1,none⟩ = some (.slice none 0 0):=(bkC BK214.out 1).trans rfl;have hfz10_0:=bkF BK214.out 0;have hfz10_1:=bkF BK214.out 1))
  go_loopg [6] k (fun kq v6 w'=>∃ (x6_1 : Int) (x215001_1 : List (S38)) (u215001 : Value),v6 = .int .i64 x6_1∧Aside0 (undercroftref04_but.l0 kq a1 x6_1 a0_0 l0_1 a0_0 x215001_1 = some (r1,r2))∧Aside0 (kq ≤ k)∧Aside0 (Kd.S k38 38 w' w.heap.size (fun _=>True) u215001 x215001_1)∧Aside0 (w'.heap[gb212]? = some (.cells #[.int .i64 a0_0,(.slice A0_1 l0_1.length c0_1)] 24 (0,0)))∧Aside0 (w'.heap[gb213]? = some (.cells #[.int .i64 0,(.slice none 0 0)] 24 (0,0)))∧Aside0 (w'.heap[gb214]? = some (.cells #[.int .i64 a0_0,u215001] 24 (0,0)))∧Aside0 (Below w.heap.size w w'))
  case atStart=>exact⟨(0),(([] : List (S38))),(.slice none 0 0),(by first|rfl|(simp;done)|(simp [*];done)),H',⟨Nat.le_refl _⟩,⟨by first|exact Kd.S_nil _ _ _ _ _|exact Kd.N_nil _ _ _ _ _|exact Kd.V_nil _ _ _ _ _|exact Kd.Q_nil _ _ _ _ _|exact Kd.R_nil _ _ _ _ _⟩,⟨by(with_reducible repeat first|apply bkN|apply bkD|apply bkA);refine blk_far ?_ NB212_214.out _;(with_reducible repeat first|apply bkN|apply bkD|apply bkA);refine blk_far ?_ NB212_214.out _;(with_reducible repeat first|apply bkN|apply bkD|apply bkA);exact BK212.out⟩,⟨by(with_reducible repeat first|apply bkN|apply bkD|apply bkA);refine blk_far ?_ NB213_214.out _;(with_reducible repeat first|apply bkN|apply bkD|apply bkA);refine blk_far ?_ NB213_214.out _;(with_reducible repeat first|apply bkN|apply bkD|apply bkA);exact BK213.out⟩,⟨by(with_reducible repeat first|apply bkN|apply bkD|apply bkA);refine blk_put (cs:=#[.int .i64 a0_0,.slice none 0 0]) ?_ 1 _ rfl;(with_reducible repeat first|apply bkN|apply bkD|apply bkA);refine blk_put (cs:=#[.int .i64 0,.slice none 0 0]) ?_ 0 _ rfl;(with_reducible repeat first|apply bkN|apply bkD|apply bkA);exact BK214.out⟩,⟨by repeat (with_reducible first|exact HB.out|apply bwA|apply bwN|apply bwD|refine bwS ?_ GE212.out|refine bwS ?_ GE213.out|refine bwS ?_ GE214.out)⟩⟩
  case round =>
    clear H'
    try clear p2
    try clear c3
    try clear c5
    try clear c8
    try clear c9
    try clear hcz10_0
    try clear hcz10_1
    try clear hcz6_0
    try clear hcz6_1
    try clear hfz10_0
    try clear hfz10_1
    try clear hfz6_0
    try clear hfz6_1
    obtain ⟨x6_1,x215001_1,u215001,rfl,HA,HK1,HO_215001,BK212,BK213,BK214,HB⟩:=hrel
    cases gk with
    | zero=>exact absurd HA.out (by simp [undercroftref04_but.l0])
    | succ k1 =>
      have H:=HA.out
      clear HA
      simp only [undercroftref04_but.l0] at H
      by_cases c11 : x6_1 < (l0_1.length : Int)
      · rw [if_pos c11] at H
        have c11b0 : decide (x6_1 < (l0_1.length : Int)) = true:=decide_eq_true c11
        clear c11
        by_cases c12 : x6_1 = a1
        · rw [if_pos c12] at H
          have c12b0 : (x6_1 == a1) = true:=beq_iff_eq.mpr c12
          have c12b1 : (x6_1 != a1) = false:=bne_eq_false_iff_eq.mpr c12
          clear c12
          have H':=mkA H
          clear H
          have hnb13:=NB212_213.out
          have hnc13:=NB213_212.out
          have hnb14:=NB212_214.out
          have hnc14:=NB214_212.out
          have hcz15_0 : wr.cell? ⟨gb212,0,none⟩ = some (.int .i64 a0_0):=(bkC BK212.out 0).trans rfl
          have hcz15_1 : wr.cell? ⟨gb212,1,none⟩ = some (.slice A0_1 l0_1.length c0_1):=(bkC BK212.out 1).trans rfl
          have hfz15_0:=bkF BK212.out 0
          have hfz15_1:=bkF BK212.out 1
          go_wp2
          go_roundg k1
          case measure=>have:=HK1.out;omega
          case rel=>exact⟨(wrap64 (x6_1 + 1)),(x215001_1),(u215001),(by first|rfl|(simp;done)|(simp [*];done)),H',⟨by have:=HK1.out;omega⟩,⟨by(with_reducible repeat (first|apply Kd.S_alloc|apply Kd.S_drewN|apply Kd.S_drew));exact HO_215001.out⟩,⟨by(with_reducible repeat first|apply bkN|apply bkD|apply bkA);exact BK212.out⟩,⟨by(with_reducible repeat first|apply bkN|apply bkD|apply bkA);exact BK213.out⟩,⟨by(with_reducible repeat first|apply bkN|apply bkD|apply bkA);exact BK214.out⟩,⟨by repeat (with_reducible first|exact HB.out|apply bwA|apply bwN|apply bwD|refine bwS ?_ GE212.out|refine bwS ?_ GE213.out|refine bwS ?_ GE214.out)⟩⟩
        · rw [if_neg c12] at H
          have c12b0 : (x6_1 == a1) = false:=beq_eq_false_iff_ne.mpr c12
          have c12b1 : (x6_1 != a1) = true:=bne_iff_ne.mpr c12
          by_cases c16 : 0 ≤ x6_1
          · rw [if_pos c16] at H
            have c16b0 : decide (0 ≤ x6_1) = true:=decide_eq_true c16
            clear c16
            replace H:=Option.bind_eq_some_iff.mp H
            obtain ⟨⟨t216,t217,t218⟩,A170,H⟩:=H
            replace H : (if x215001_1.length < 3518437208883 then(undercroftref04_but.l0 k1 a1 (wrap64 (x6_1 + 1)) a0_0 l0_1 a0_0 (x215001_1 ++ [(⟨t216,t217,t218⟩ : S38)])) else(none)) = some (r1,r2):=H
            have A17:=mkA A170
            clear A170
            by_cases c18 : x215001_1.length < 3518437208883
            · rw [if_pos c18] at H
              have LMc18:=mkA c18
              clear c18
              obtain ⟨y221,hy221⟩ : ∃ y_ : List (S38),y_ = (x215001_1 ++ [(⟨t216,t217,t218⟩ : S38)]):=⟨_,rfl⟩
              replace H : (undercroftref04_but.l0 k1 a1 (wrap64 (x6_1 + 1)) a0_0 l0_1 a0_0 y221) = some (r1,r2):=by first|(rw [hy221];with_reducible exact H)|(have H2_:=(Option.bind_some _ _).symm.trans H;rw [hy221];with_reducible exact H2_)|(have H2_:=(Option.bind_some _ _).symm.trans H;with_reducible exact H2_)|with_reducible exact H|(rw [hy221];exact H)|exact H
              have Ny221:=mkA hy221
              clear hy221
              have H':=mkA H
              clear H
              have hnb19:=NB212_213.out
              have hnc19:=NB213_212.out
              have hnb20:=NB212_214.out
              have hnc20:=NB214_212.out
              have hcz21_0 : wr.cell? ⟨gb212,0,none⟩ = some (.int .i64 a0_0):=(bkC BK212.out 0).trans rfl
              have hcz21_1 : wr.cell? ⟨gb212,1,none⟩ = some (.slice A0_1 l0_1.length c0_1):=(bkC BK212.out 1).trans rfl
              have hfz21_0:=bkF BK212.out 0
              have hfz21_1:=bkF BK212.out 1
              try go_wp2
              have n0_:=mkA (Kd.S_drew HO_215001.out)
              have n1_:=mkA (bkD BK212.out)
              have n2_:=mkA (bkD BK213.out)
              have n3_:=mkA (bkD BK214.out)
              have n4_:=mkA (bwD HB.out)
              clear HO_215001
              clear BK212
              clear BK213
              clear BK214
              clear HB
              have HO_215001:=n0_
              have BK212:=n1_
              have BK213:=n2_
              have BK214:=n3_
              have HB:=n4_
              clear n0_ n1_ n2_ n3_ n4_
              have p215 : 0 ≤ (x6_1 : Int):=odt (by first|(with_reducible assumption)|assumption)
              have q215 : x6_1 < (l0_1.length : Int):=odt (by first|(with_reducible assumption)|assumption)
              obtain ⟨ad215,A215_2,c215_2,e215,hx215_0,hx215_1,hx215_2,hl215_2,hi215_2⟩:=at_T38 HR0_1.out x6_1 p215 q215
              have hw215_2:=hx215_2
              have hw215_1:=hx215_1
              have hw215_0:=hx215_0
              cases e215
              replace hx215_0:=(HB.out.cell (blC w _ hx215_0)).trans hx215_0
              replace hx215_1:=(HB.out.cell (blC w _ hx215_1)).trans hx215_1
              replace hx215_2:=(HB.out.cell (blC w _ hx215_2)).trans hx215_2
              have HR215_2:=mkA hi215_2
              have HC215_2:=mkA hl215_2
              clear hi215_2 hl215_2
              replace p215:=eq_true p215
              replace q215:=eq_true q215
              refine start_ (n:=12) (S:=fun w'=>w'.cell? ⟨gb214,0,none⟩ = some (.int .i64 a0_0)∧w'.cell? ⟨gb214,1,none⟩ = some (u215001)∧w'.cell? ⟨gb212,0,none⟩ = some (.int .i64 a0_0)∧w'.cell? ⟨gb212,1,none⟩ = some (.slice (some ad215) l0_1.length c0_1)∧w'.cell? (ad215.add ((x6_1).toNat * 3)) = some (.int .i64 ((rd_T38 l0_1 x6_1).f0))∧w'.cell? ⟨(ad215.add ((x6_1).toNat * 3)).block,(ad215.add ((x6_1).toNat * 3)).off + 1,none⟩ = some (.int .i64 ((rd_T38 l0_1 x6_1).f1))∧w'.cell? ⟨(ad215.add ((x6_1).toNat * 3)).block,(ad215.add ((x6_1).toNat * 3)).off + 2,none⟩ = some (.slice A215_2 ((rd_T38 l0_1 x6_1).f2).length c215_2)) (ds:=[11]) #[false,false,false,false,false,false,false,false,false,false,false,false] (by kernel_rfl) rfl rfl ⟨(bkC BK214.out 0).trans rfl,(bkC BK214.out 1).trans rfl,(bkC BK212.out 0).trans rfl,(bkC BK212.out 1).trans rfl,((HB.out.cell (blC w _ hw215_0)).trans hw215_0),((HB.out.cell (blC w _ hw215_1)).trans hw215_1),((HB.out.cell (blC w _ hw215_2)).trans hw215_2)⟩ (fun hHeld=>?_);refine with_tabW undercroftref04_but.tab6 undercroftref04_but.bits6 (fun HT_ HW_=>?_)
              generalize wr.drew = w22 at HO_215001 BK212 BK213 BK214 HB HR215_2 hx215_0 hx215_1 hx215_2 hHeld ⊢
              refine pure_ (i:=0) (N:=some 20) (v:=?_) (a':=?_) #[true,false,false,false,false,false,false,false,false,false,false,false] rfl rfl (any_of HT_.out (by kernel_rfl)) (fun _ _ _ h=>h) (Or.inl ⟨by rfl,?_⟩) ?_ ?_
              rotate_left
              · intro w'
                go_simp
                with_reducible rfl
              rotate_left
              · simp only [Act.put,lsA,lsZ,lsS,i64_w,i32_w]
                rfl
              refine pure_ (i:=2) (N:=some 22) (v:=?_) (a':=?_) #[true,false,true,false,false,false,false,false,false,false,false,false] rfl rfl (any_of HT_.out (by kernel_rfl)) (fun _ _ _ h=>h) (Or.inl ⟨by rfl,?_⟩) ?_ ?_
              rotate_left
              · intro w'
                go_simp
                with_reducible rfl
              rotate_left
              · simp only [Act.put,lsA,lsZ,lsS,i64_w,i32_w]
                rfl
              refine pure_ (i:=4) (N:=some 24) (v:=?_) (a':=?_) #[true,false,true,false,true,false,false,false,false,false,false,false] rfl rfl (any_of HT_.out (by kernel_rfl)) (fun _ _ _ h=>h) (Or.inl ⟨by rfl,?_⟩) ?_ ?_
              rotate_left
              · intro w'
                go_simp
                with_reducible rfl
              rotate_left
              · simp only [Act.put,lsA,lsZ,lsS,i64_w,i32_w]
                rfl
              refine take_ (i:=1) (N:=some 21) (v:=?_) (a':=?_) #[true,true,true,false,true,false,false,false,false,false,false,false] rfl rfl (take_ofW HT_.out HW_.out (by kernel_rfl)) (fun _ _ _ h=>h) (Or.inl ⟨by rfl,?_⟩) hHeld ?_ ?_
              rotate_left
              · rintro w' ⟨s0,s1,s2,s3,s4,s5,s6⟩
                go_simp
                with_reducible rfl
              rotate_left
              · simp only [Act.put,lsA,lsZ,lsS,i64_w,i32_w]
                rfl
              refine take_ (i:=3) (N:=some 23) (v:=?_) (a':=?_) #[true,true,true,true,true,false,false,false,false,false,false,false] rfl rfl (take_ofW HT_.out HW_.out (by kernel_rfl)) (fun _ _ _ h=>h) (Or.inl ⟨by rfl,?_⟩) hHeld ?_ ?_
              rotate_left
              · rintro w' ⟨s0,s1,s2,s3,s4,s5,s6⟩
                go_simp
                with_reducible rfl
              rotate_left
              · simp only [Act.put,lsA,lsZ,lsS,i64_w,i32_w]
                rfl
              refine pure_ (i:=5) (N:=some 25) (v:=?_) (a':=?_) #[true,true,true,true,true,true,false,false,false,false,false,false] rfl rfl (any_of HT_.out (by kernel_rfl)) (fun _ _ _ h=>h) (Or.inl ⟨by rfl,?_⟩) ?_ ?_
              rotate_left
              · intro w'
                go_simp
                with_reducible rfl
              rotate_left
              · simp only [Act.put,lsA,lsZ,lsS,i64_w,i32_w]
                rfl
              refine take_ (i:=6) (N:=some 26) (v:=?_) (a':=?_) #[true,true,true,true,true,true,true,false,false,false,false,false] rfl rfl (take_ofW HT_.out HW_.out (by kernel_rfl)) (fun _ _ _ h=>h) (Or.inl ⟨by rfl,?_⟩) hHeld ?_ ?_
              rotate_left
              · rintro w' ⟨s0,s1,s2,s3,s4,s5,s6⟩
                go_simp
                with_reducible rfl
              rotate_left
              · simp only [Act.put,lsA,lsZ,lsS,i64_w,i32_w]
                rfl
              refine one_ (i:=7) (N:=some 27) #[true,true,true,true,true,true,true,true,false,false,false,false] rfl rfl (one_of HT_.out (by kernel_rfl)) (by decide) (fun K hK=>?_)
              refine goes_ Try.func34 (by kernel_rfl) rfl #[.agg #[.int .i64 ((rd_T38 l0_1 x6_1).f0),.int .i64 ((rd_T38 l0_1 x6_1).f1),.slice A215_2 ((rd_T38 l0_1 x6_1).f2).length c215_2]] (by rfl) rfl rfl (by(try simp only [List.map_toArray,List.map_cons,List.map_nil]);first|done|rfl) ?_
              with_reducible refine(undercroftref04_copied.calls ((rd_T38 l0_1 x6_1).f0) ((rd_T38 l0_1 x6_1).f1) _ _ ((rd_T38 l0_1 x6_1).f2) t216 t217 t218 _ ?side1 ?side2 A17.out).mono ?_
              (case side1=>repeat (first|exact(Kd.C_below HR215_2.out HB.out)|(with_reducible refine Kd.C_alloc ?_ _)|(with_reducible refine Kd.C_drewN ?_ _)|(with_reducible refine Kd.C_drew ?_)))
              (case side2=>exact HC215_2.out)
              rintro e w23 ⟨v219,rfl,ho0,hb⟩
              refine⟨_,rfl,?_⟩
              have n0_:=mkA (Kd.S_elder' (by(with_reducible repeat (first|apply Kd.S_alloc|apply Kd.S_drewN|apply Kd.S_drew));exact HO_215001.out) (Kd.R_base ho0) hb)
              have n1_:=mkA (Kd.R_lower ho0 (bwZ (by repeat (with_reducible first|exact HB.out|apply bwA|apply bwN|apply bwD|refine bwS ?_ GE212.out|refine bwS ?_ GE213.out|refine bwS ?_ GE214.out))))
              have n2_:=mkA (bkB (g:=gb212) (o:=.cells #[.int .i64 a0_0,.slice (some ad215) l0_1.length c0_1] 24 (0,0)) (by(with_reducible repeat first|apply bkN|apply bkD|apply bkA);exact BK212.out) hb)
              have n3_:=mkA (bkB (g:=gb213) (o:=.cells #[.int .i64 0,.slice none 0 0] 24 (0,0)) (by(with_reducible repeat first|apply bkN|apply bkD|apply bkA);exact BK213.out) hb)
              have n4_:=mkA (bkB (g:=gb214) (o:=.cells #[.int .i64 a0_0,u215001] 24 (0,0)) (by(with_reducible repeat first|apply bkN|apply bkD|apply bkA);exact BK214.out) hb)
              have n5_:=mkA (below_step (by repeat (with_reducible first|exact HB.out|apply bwA|apply bwN|apply bwD|refine bwS ?_ GE212.out|refine bwS ?_ GE213.out|refine bwS ?_ GE214.out)) hb)
              clear HO_215001
              clear BK212
              clear BK213
              clear BK214
              clear HB
              have HO_215001:=n0_
              have HO220:=n1_
              have BK212:=n2_
              have BK213:=n3_
              have BK214:=n4_
              have HB:=n5_
              clear n0_ n1_ n2_ n3_ n4_ n5_
              (try clear hb)
              (try clear hb2)
              (try clear hk)
              (try clear hi)
              (try clear ho0)
              obtain ⟨Ao25,co25,eo25⟩:=Kd.R_slice HO220.out
              (first|subst eo25|(injection eo25 with f1_ f2_ f3_;have f4_:=f1_.symm;have f5_:=f3_.symm;clear f1_ f2_ f3_;subst f4_;subst f5_))
              refine hK.out _ _ ⟨(bkC BK214.out 0).trans rfl,(bkC BK214.out 1).trans rfl,(bkC BK212.out 0).trans rfl,(bkC BK212.out 1).trans rfl,((HB.out.cell (blC w _ hw215_0)).trans hw215_0),((HB.out.cell (blC w _ hw215_1)).trans hw215_1),((HB.out.cell (blC w _ hw215_2)).trans hw215_2)⟩ (fun hHeld=>?_)
              clear hK K
              refine norm_ (a':=?_) ?_ ?_
              rotate_left
              · show Act.put _ (some 27) _ = _
                simp only [Act.put,lsA,lsZ,lsS,i64_w,i32_w]
                rfl
              refine one_ (i:=8) (N:=some 28) #[true,true,true,true,true,true,true,true,true,false,false,false] rfl rfl (one_of HT_.out (by kernel_rfl)) (by decide) (fun K hK=>?_)
              refine value_ (w1:=?_) (v:=?_) (by rfl) rfl ?_ ?_
              rotate_left 2
              · go_simp
                constructor
                · rfl
                · rfl
              refine hK.out _ _ ⟨(bkC (bkA BK214.out _) 0).trans rfl,(bkC (bkA BK214.out _) 1).trans rfl,(bkC (bkA BK212.out _) 0).trans rfl,(bkC (bkA BK212.out _) 1).trans rfl,(World.cell?_alloc_lt _ _ _ (blC _ _ (((HB.out.cell (blC w _ hw215_0)).trans hw215_0)))).trans (((HB.out.cell (blC w _ hw215_0)).trans hw215_0)),(World.cell?_alloc_lt _ _ _ (blC _ _ (((HB.out.cell (blC w _ hw215_1)).trans hw215_1)))).trans (((HB.out.cell (blC w _ hw215_1)).trans hw215_1)),(World.cell?_alloc_lt _ _ _ (blC _ _ (((HB.out.cell (blC w _ hw215_2)).trans hw215_2)))).trans (((HB.out.cell (blC w _ hw215_2)).trans hw215_2))⟩ (fun hHeld=>?_)
              clear hK K
              refine norm_ (a':=?_) ?_ ?_
              rotate_left
              · show Act.put _ (some 28) _ = _
                simp only [Act.put,lsA,lsZ,lsS,i64_w,i32_w]
                rfl
              refine one_ (i:=9) (N:=some 29) #[true,true,true,true,true,true,true,true,true,true,false,false] rfl rfl (one_of HT_.out (by kernel_rfl)) (by decide) (fun K hK=>?_)
              refine Kd.S_append_step k38 (w0:=w) w.heap.size (by rfl) (.tmp 21) (.tmp 28) 22 38 (.agg #[(.int .i64 0),(.int .i64 0),(.slice none 0 0)]) 40 rfl Try.underlying22 info38 rfl (by decide) (by omega) u215001 x215001_1 (⟨t216,t217,t218⟩ : S38) [.int .i64 t216,.int .i64 t217,.slice Ao25 t218.length co25] (fun _=>True) (fun k_=>some k_ = (.slice Ao25 t218.length co25 : Value).ownBlock) rfl rfl ?aP (fun k_ hk_=>((Kd.R_mono (ok':=fun k_=>((fun _=>True)) k_∧some k_ ≠ (u215001 : Value).ownBlock) (Kd.R_apart' (HO220.out) (Kd.S_typed HO_215001.out) (by decide)) (fun k_ hk=>⟨trivial,hk.2⟩))).1 k_ hk_.symm) ?aF ?aO ?aB ?aS ?aL ?_
              (case aP=>exact k38_mkM _ _ _ (⟨t216,t217,t218⟩ : S38) (Kd.R_mono (Kd.R_tight rfl (Kd.R_mono (ok':=fun k_=>((fun _=>True)) k_∧some k_ ≠ (u215001 : Value).ownBlock) (Kd.R_apart' (HO220.out) (Kd.S_typed HO_215001.out) (by decide)) (fun k_ hk=>⟨trivial,hk.2⟩))) (fun _ h_=>h_)))
              (case aB=>exact(by repeat (with_reducible first|exact HB.out|apply bwA|apply bwN|apply bwD|refine bwS ?_ GE212.out|refine bwS ?_ GE213.out|refine bwS ?_ GE214.out)))
              (case aF=>exact(fun _ _=>trivial))
              (case aO=>exact(by(with_reducible repeat (first|apply Kd.S_alloc|apply Kd.S_drewN|apply Kd.S_drew));exact Kd.S_mono HO_215001.out (fun k_ hk=>⟨trivial,fun e_=>hk.2 e_⟩)))
              (case aS=>exact(bwZ (by repeat (with_reducible first|exact HB.out|apply bwA|apply bwN|apply bwD|refine bwS ?_ GE212.out|refine bwS ?_ GE213.out|refine bwS ?_ GE214.out))))
              (case aL=>have:=LMc18.out;omega)
              intro v222 w24 ho hb hg hat
              rw [← Ny221.out] at ho
              have n0_:=mkA (blk_grown (g:=gb212) (o:=.cells #[.int .i64 a0_0,.slice (some ad215) l0_1.length c0_1] 24 (0,0)) (by(with_reducible repeat first|apply bkN|apply bkD|apply bkA);exact BK212.out) hg (Kd.S_ne HO_215001.out BK212.out (by decide)))
              have n1_:=mkA (blk_grown (g:=gb213) (o:=.cells #[.int .i64 0,.slice none 0 0] 24 (0,0)) (by(with_reducible repeat first|apply bkN|apply bkD|apply bkA);exact BK213.out) hg (Kd.S_ne HO_215001.out BK213.out (by decide)))
              have n2_:=mkA (blk_grown (g:=gb214) (o:=.cells #[.int .i64 a0_0,u215001] 24 (0,0)) (by(with_reducible repeat first|apply bkN|apply bkD|apply bkA);exact BK214.out) hg (Kd.S_ne HO_215001.out BK214.out (by decide)))
              have n3_:=mkA (hb)
              have n4_:=mkA (ho)
              clear BK212
              clear BK213
              clear BK214
              clear HB
              clear HO_215001
              clear HO220
              have BK212:=n0_
              have BK213:=n1_
              have BK214:=n2_
              have HB:=n3_
              have HO223:=n4_
              clear n0_ n1_ n2_ n3_ n4_
              clear ho hb hg hat
              obtain ⟨Ao26,co26,eo26⟩:=Kd.S_slice HO223.out
              (first|subst eo26|(injection eo26 with f1_ f2_ f3_;have f4_:=f1_.symm;have f5_:=f3_.symm;clear f1_ f2_ f3_;subst f4_;subst f5_))
              refine hK.out _ _ ⟨(bkC BK214.out 0).trans rfl,(bkC BK214.out 1).trans rfl,(bkC BK212.out 0).trans rfl,(bkC BK212.out 1).trans rfl,((HB.out.cell (blC w _ hw215_0)).trans hw215_0),((HB.out.cell (blC w _ hw215_1)).trans hw215_1),((HB.out.cell (blC w _ hw215_2)).trans hw215_2)⟩ (fun hHeld=>?_)
              clear hK K
              refine norm_ (a':=?_) ?_ ?_
              rotate_left
              · show Act.put _ (some 29) _ = _
                simp only [Act.put,lsA,lsZ,lsS,i64_w,i32_w]
                rfl
              refine pure_ (i:=10) (N:=some 30) (v:=?_) (a':=?_) #[true,true,true,true,true,true,true,true,true,true,true,false] rfl rfl (any_of HT_.out (by kernel_rfl)) (fun _ _ _ h=>h) (Or.inl ⟨by rfl,?_⟩) ?_ ?_
              rotate_left
              · intro w'
                go_simp
                with_reducible rfl
              rotate_left
              · simp only [Act.put,lsA,lsZ,lsS,i64_w,i32_w]
                rfl
              refine last_ (i:=11) (N:=none) #[true,true,true,true,true,true,true,true,true,true,true,true] rfl rfl (one_of HT_.out (by kernel_rfl)) (by decide) (fun K hK=>?_)
              have hs27 : w24.cell? ⟨gb214,1,none⟩ = some (u215001):=(bkC BK214.out 1).trans rfl
              have hfs27:=bkF BK214.out 1
              have hns27_0:=NB212_214.out
              have hns27_1:=NB213_214.out
              have hms27_0:=NB214_212.out
              have hms27_1:=NB214_213.out
              refine skip_ (w1:=?_) (by rfl) rfl ?_ ?_
              rotate_left
              · go_simp
                rfl
              refine hK.out _ _ ?_
              clear hK K
              refine done_ (done_of HT_.out (by kernel_rfl)) ?_
              try go_wp2
              go_roundg k1
              case measure=>have:=HK1.out;omega
              case rel=>exact⟨(wrap64 (x6_1 + 1)),(y221),(.slice Ao26 y221.length co26),(by first|rfl|(simp;done)|(simp [*];done)),H',⟨by have:=HK1.out;omega⟩,⟨by(with_reducible repeat (first|apply Kd.S_alloc|apply Kd.S_drewN|apply Kd.S_drew));exact Kd.S_mono (Kd.S_far (p:=⟨gb214,1,none⟩) (Kd.S_types HO223.out BK214.out (by decide)) (fun _ hk=>hk.2) (.slice Ao26 y221.length co26)) (fun _ hk=>trivial)⟩,⟨by(with_reducible repeat first|apply bkN|apply bkD|apply bkA);refine blk_far ?_ NB212_214.out _;(with_reducible repeat first|apply bkN|apply bkD|apply bkA);exact BK212.out⟩,⟨by(with_reducible repeat first|apply bkN|apply bkD|apply bkA);refine blk_far ?_ NB213_214.out _;(with_reducible repeat first|apply bkN|apply bkD|apply bkA);exact BK213.out⟩,⟨by(with_reducible repeat first|apply bkN|apply bkD|apply bkA);refine blk_put (cs:=#[.int .i64 a0_0,u215001]) ?_ 1 _ rfl;(with_reducible repeat first|apply bkN|apply bkD|apply bkA);exact BK214.out⟩,⟨by repeat (with_reducible first|exact HB.out|apply bwA|apply bwN|apply bwD|refine bwS ?_ GE212.out|refine bwS ?_ GE213.out|refine bwS ?_ GE214.out)⟩⟩
            · rw [if_neg c18] at H
              exact absurd H (by simp)
          · rw [if_neg c16] at H
            exact absurd H (by simp)
      · rw [if_neg c11] at H
        have c11b0 : decide (x6_1 < (l0_1.length : Int)) = false:=decide_eq_false c11
        clear c11
        simp only [Option.some.injEq,Prod.mk.injEq] at H
        obtain ⟨rfl,rfl⟩:=H
        have hnb28:=NB212_213.out
        have hnc28:=NB213_212.out
        have hnb29:=NB212_214.out
        have hnc29:=NB214_212.out
        have hcz30_0 : wr.cell? ⟨gb212,0,none⟩ = some (.int .i64 a0_0):=(bkC BK212.out 0).trans rfl
        have hcz30_1 : wr.cell? ⟨gb212,1,none⟩ = some (.slice A0_1 l0_1.length c0_1):=(bkC BK212.out 1).trans rfl
        have hfz30_0:=bkF BK212.out 0
        have hfz30_1:=bkF BK212.out 1
        have hnb31:=NB214_213.out
        have hnc31:=NB213_214.out
        have hcz32_0 : wr.cell? ⟨gb214,0,none⟩ = some (.int .i64 a0_0):=(bkC BK214.out 0).trans rfl
        have hcz32_1 : wr.cell? ⟨gb214,1,none⟩ = some (u215001):=(bkC BK214.out 1).trans rfl
        have hfz32_0:=bkF BK214.out 0
        have hfz32_1:=bkF BK214.out 1
        have hcz33_0 : wr.cell? ⟨gb213,0,none⟩ = some (.int .i64 0):=(bkC BK213.out 0).trans rfl
        have hcz33_1 : wr.cell? ⟨gb213,1,none⟩ = some (.slice none 0 0):=(bkC BK213.out 1).trans rfl
        have hfz33_0:=bkF BK213.out 0
        have hfz33_1:=bkF BK213.out 1
        obtain ⟨Ao34,co34,eo34⟩:=Kd.S_slice HO_215001.out
        subst eo34
        go_wp2
        refine bodyPost_ret (results_cell_row rfl _ _ gb213 24 #[.int .i64 a0_0,.slice Ao34 x215001_1.length co34] (0,0) _ rfl (by(with_reducible repeat first|apply bkN|apply bkD|apply bkA);refine blk_put (cs:=#[.int .i64 a0_0,.slice none 0 0]) ?_ 1 _ rfl;(with_reducible repeat first|apply bkN|apply bkD|apply bkA);refine blk_put (cs:=#[.int .i64 0,.slice none 0 0]) ?_ 0 _ rfl;(with_reducible repeat first|apply bkN|apply bkD|apply bkA);exact BK213.out) Try.underlying24 rfl (by kernel_rfl)) rfl ?_
        exact⟨_,by first|rfl|(simp [errW_none,errW_some] <;> rfl)|(simp [*,errW_none,errW_some] <;> rfl),by(with_reducible repeat (first|apply Kd.S_alloc|apply Kd.S_drewN|apply Kd.S_drew));exact Kd.S_mono (Kd.S_far (p:=⟨gb213,1,none⟩) (Kd.S_far (p:=⟨gb213,0,none⟩) (Kd.S_types HO_215001.out BK213.out (by decide)) (fun _ hk=>hk.2) (.int .i64 a0_0)) (fun _ hk=>hk.2) (.slice Ao34 x215001_1.length co34)) (fun _ hk=>trivial),by repeat (with_reducible first|exact HB.out|apply bwA|apply bwN|apply bwD|refine bwS ?_ GE212.out|refine bwS ?_ GE213.out|refine bwS ?_ GE214.out)⟩

/-! ### undercroftref04_Send: function 14 -/
def undercroftref04_Send.j0 : Nat→Bool→Int→List (S38)→Int→Int→List Int→Option (Int × (List (S38)) × Bool × Int)
  | 0,_,_,_,_,_,_=>none
  | k + 1,x13,x225000,x225001,x226000,x226001,x226002=>if x13 = true then(some (0,([] : List (S38)),false,4)) else(if(x226002.length : Int) > 4096 then(some (0,([] : List (S38)),false,5)) else((undercroftref04_but.f k x225000 x225001 (-1)).bind fun bt230=>(if(bt230.2.length : Int) ≥ bt230.1 then(some (bt230.1,bt230.2,false,0)) else((undercroftref04_copied.f x226000 x226001 x226002).bind fun bt235=>(if bt230.2.length < 3518437208883 then(some (bt230.1,(bt230.2 ++ [(⟨bt235.1,bt235.2.1,bt235.2.2⟩ : S38)]),true,0)) else(none))))))
def undercroftref04_Send.f (k : Nat) (a0_0 : Int) (l0_1 : List (S38)) (a1_0 : Int) (a1_1 : Int) (l1_2 : List Int) : Option (Int × (List (S38)) × Bool × Int):=(undercroftref04_Check.f k a0_0 l0_1).bind fun t227=>(if t227 = 0 then((undercroftref04_node.f a1_0).bind fun t228=>(if t228 = true then((undercroftref04_node.f a1_1).bind fun t229=>(undercroftref04_Send.j0 k (!t229) a0_0 l0_1 a1_0 a1_1 l1_2)) else(undercroftref04_Send.j0 k true a0_0 l0_1 a1_0 a1_1 l1_2))) else(some (0,([] : List (S38)),false,9)))
theorem undercroftref04_Send.mono_l : ∀ k,(∀ y0 y1 y2 y3 y4 y5,LeO (undercroftref04_Send.j0 k y0 y1 y2 y3 y4 y5) (undercroftref04_Send.j0 (k + 1) y0 y1 y2 y3 y4 y5))
  | 0=>fun _ _ _ _ _ _ r h=>by simp [undercroftref04_Send.j0] at h
  | k + 1=>by
    have ih0:=undercroftref04_Send.mono_l k
    · intro y0 y1 y2 y3 y4 y5
      unfold undercroftref04_Send.j0
      repeat' first
      | (with_reducible exact ih0 _ _ _ _ _ _)
      | (with_reducible exact undercroftref04_Check.mono _ _ _)
      | (with_reducible exact undercroftref04_but.mono _ _ _ _)
      | (with_reducible exact LeO.refl _)
      | (with_reducible exact LeO.none _)
      | (with_reducible refine LeO.ite ?_ ?_)
      | (with_reducible refine LeO.bind ?_ (fun _=>?_))
      | exact ih0 _ _ _ _ _ _
      | exact undercroftref04_Check.mono _ _ _
      | exact undercroftref04_but.mono _ _ _ _
      | exact LeO.none _
      | refine LeO.ite ?_ ?_
      | refine LeO.bind ?_ (fun _=>?_)
theorem undercroftref04_Send.mono : ∀ a0 a1 a2 a3 a4 k,LeO (undercroftref04_Send.f k a0 a1 a2 a3 a4) (undercroftref04_Send.f (k + 1) a0 a1 a2 a3 a4):=by
  intro a0 a1 a2 a3 a4 k
  have ih0:=undercroftref04_Send.mono_l k
  unfold undercroftref04_Send.f
  repeat' first
      | (with_reducible exact ih0 _ _ _ _ _ _)
      | (with_reducible exact undercroftref04_Check.mono _ _ _)
      | (with_reducible exact undercroftref04_but.mono _ _ _ _)
      | (with_reducible exact LeO.refl _)
      | (with_reducible exact LeO.none _)
      | (with_reducible refine LeO.ite ?_ ?_)
      | (with_reducible refine LeO.bind ?_ (fun _=>?_))
      | exact ih0 _ _ _ _ _ _
      | exact undercroftref04_Check.mono _ _ _
      | exact undercroftref04_but.mono _ _ _ _
      | exact LeO.none _
      | refine LeO.ite ?_ ?_
      | refine LeO.bind ?_ (fun _=>?_)
def undercroftref04_Send.T10 : Bool × List (List Nat × List Nat):=(true,[([],[]),([0],[0]),([],[]),([2],[2]),([3],[3]),([1,4,3],[1,4]),([0,1,2,3,4,5],[]),([6,5,5,0,1,2,3,4,5],[5,6])])
def undercroftref04_Send.B10 : List Nat:=[0,1,0,4,12,31,63,127]
theorem undercroftref04_Send.tab10 : rtab .any (opsOf Try.f14 10) = undercroftref04_Send.T10:=by kernel_rfl
theorem undercroftref04_Send.bits10 : waitsOk undercroftref04_Send.T10.2 undercroftref04_Send.B10 = true:=by kernel_rfl
set_option maxHeartbeats 8000000 in
set_option maxRecDepth 100000 in
theorem undercroftref04_Send.calls (k : Nat) (a0_0 : Int) (A0_1 : Option Addr) (c0_1 : Nat) (l0_1 : List (S38)) (a1_0 : Int) (a1_1 : Int) (A1_2 : Option Addr) (c1_2 : Nat) (l1_2 : List Int) (r1 : Int) (r2 : List (S38)) (r3 : Bool) (r4 : Int) (w : World) (hr0_1 : Kd.C k38 w A0_1 l0_1.length l0_1) (hc0_1 : l0_1.length ≤ c0_1) (hr1_2 : Kd.C (Kd.int .u8) w A1_2 l1_2.length l1_2) (hc1_2 : l1_2.length ≤ c1_2) (h : undercroftref04_Send.f k a0_0 l0_1 a1_0 a1_1 l1_2 = some (r1,r2,r3,r4)) :
    Calls Try.prog 14 #[.agg #[.int .i64 a0_0,.slice A0_1 l0_1.length c0_1],.agg #[.int .i64 a1_0,.int .i64 a1_1,.slice A1_2 l1_2.length c1_2]] w fun e w'=>∃ v1_ : Value,e = .returned (.tuple #[.agg #[.int .i64 r1,v1_],.bool r3,.int .i64 r4])∧Kd.S k38 38 w' w.heap.size (fun _=>True) v1_ r2∧Below w.heap.size w w':=by
  have hu24:=Try.underlying24
  have hu38:=Try.underlying38
  have HR0_1:=mkA hr0_1
  have HC0_1:=mkA hc0_1
  clear hr0_1 hc0_1
  have HR1_2:=mkA hr1_2
  have HC1_2:=mkA hc1_2
  clear hr1_2 hc1_2
  have HB:=mkA (Below.refl w.heap.size w)
  have H : ((undercroftref04_Check.f k a0_0 l0_1).bind fun t227=>(if t227 = 0 then((undercroftref04_node.f a1_0).bind fun t228=>(if t228 = true then((undercroftref04_node.f a1_1).bind fun t229=>(undercroftref04_Send.j0 k (!t229) a0_0 l0_1 a1_0 a1_1 l1_2)) else(undercroftref04_Send.j0 k true a0_0 l0_1 a1_0 a1_1 l1_2))) else(some (0,([] : List (S38)),false,9)))) = some (r1,r2,r3,r4):=h
  clear h
  replace H:=Option.bind_eq_some_iff.mp H
  obtain ⟨t227,A30,H⟩:=H
  replace H : (if t227 = 0 then((undercroftref04_node.f a1_0).bind fun t228=>(if t228 = true then((undercroftref04_node.f a1_1).bind fun t229=>(undercroftref04_Send.j0 k (!t229) a0_0 l0_1 a1_0 a1_1 l1_2)) else(undercroftref04_Send.j0 k true a0_0 l0_1 a1_0 a1_1 l1_2))) else(some (0,([] : List (S38)),false,9))) = some (r1,r2,r3,r4):=H
  have A3:=mkA A30
  clear A30
  by_cases c4 : t227 = 0
  · rw [if_pos c4] at H
    have c4b0 : (t227 == 0) = true:=beq_iff_eq.mpr c4
    have c4b1 : (t227 != 0) = false:=bne_eq_false_iff_eq.mpr c4
    clear c4
    have HC5:=mkA H
    clear H
    go_enter Try.func14,Try.ntmps14
    go_upto_region 3 with (first|((with_reducible refine gate_dst (N:=2) rfl ?_);refine box_event ?hg (N:=2) ?hd (cs:=#[.int .i64 a0_0,.slice A0_1 l0_1.length c0_1]) (t:=24) ?hr ?_;(case hd=>rfl);(case hg=>rfl);(case hr=>first|(go_simp;done)|(go_simp;rfl));intro gb224 hg w6 hbox hb;have n0_:=mkA (below_step (by repeat (with_reducible first|exact HB.out|apply bwA|apply bwN|apply bwD)) hb);have n1_:=mkA (hbox);have n2_:=mkA ((by rw [hg];exact(bwZ (by repeat (with_reducible first|exact HB.out|apply bwA|apply bwN|apply bwD))) : w.heap.size ≤ gb224));have n3_:=mkA ((by rw [hg];exact(bwZ (by repeat (with_reducible first|exact HB.out|apply bwA|apply bwN|apply bwD))) : w.heap.size ≤ gb224));clear HB;have HB:=n0_;have BK224:=n1_;have GW224:=n2_;have GE224:=n3_;clear n0_ n1_ n2_ n3_;clear hb hbox hg)|((with_reducible refine gate_dst (N:=3) rfl ?_);refine box_event ?hg (N:=3) ?hd (cs:=#[.int .i64 a1_0,.int .i64 a1_1,.slice A1_2 l1_2.length c1_2]) (t:=38) ?hr ?_;(case hd=>rfl);(case hg=>rfl);(case hr=>first|(go_simp;done)|(go_simp;rfl));intro gb225 hg w7 hbox hb;have n0_:=mkA (bkB (g:=gb224) (o:=.cells #[.int .i64 a0_0,.slice A0_1 l0_1.length c0_1] 24 (0,0)) (by(with_reducible repeat first|apply bkN|apply bkD|apply bkA);exact BK224.out) hb);have n1_:=mkA (below_step (by repeat (with_reducible first|exact HB.out|apply bwA|apply bwN|apply bwD|refine bwS ?_ GE224.out)) hb);have n2_:=mkA (hbox);have n3_:=mkA ((by rw [hg];exact(bwZ (by repeat (with_reducible first|exact HB.out|apply bwA|apply bwN|apply bwD|refine bwS ?_ GE224.out))) : w.heap.size ≤ gb225));have n4_:=mkA ((by rw [hg];exact(bwZ (by repeat (with_reducible first|exact HB.out|apply bwA|apply bwN|apply bwD|refine bwS ?_ GE224.out))) : w.heap.size ≤ gb225));have n5_:=mkA ((by rw [hg];exact Nat.ne_of_lt (blk_lt (g:=gb224) (o:=.cells #[.int .i64 a0_0,.slice A0_1 l0_1.length c0_1] 24 (0,0)) (by(with_reducible repeat first|apply bkN|apply bkD|apply bkA);exact BK224.out)) : gb224 ≠ gb225));have n6_:=mkA ((by rw [hg];exact Nat.ne_of_gt (blk_lt (g:=gb224) (o:=.cells #[.int .i64 a0_0,.slice A0_1 l0_1.length c0_1] 24 (0,0)) (by(with_reducible repeat first|apply bkN|apply bkD|apply bkA);exact BK224.out)) : gb225 ≠ gb224));clear BK224;clear HB;have BK224:=n0_;have HB:=n1_;have BK225:=n2_;have GW225:=n3_;have GE225:=n4_;have NB224_225:=n5_;have NB225_224:=n6_;clear n0_ n1_ n2_ n3_ n4_ n5_ n6_;clear hb hbox hg)|((with_reducible refine gate_dst (N:=4) rfl ?_);refine box_event ?hg (N:=4) ?hd (cs:=#[.int .i64 0,.slice none 0 0]) (t:=24) ?hr ?_;(case hd=>rfl);(case hg=>rfl);(case hr=>first|(go_simp;done)|(go_simp;rfl));intro gb226 hg w8 hbox hb;have n0_:=mkA (bkB (g:=gb224) (o:=.cells #[.int .i64 a0_0,.slice A0_1 l0_1.length c0_1] 24 (0,0)) (by(with_reducible repeat first|apply bkN|apply bkD|apply bkA);exact BK224.out) hb);have n1_:=mkA (bkB (g:=gb225) (o:=.cells #[.int .i64 a1_0,.int .i64 a1_1,.slice A1_2 l1_2.length c1_2] 38 (0,0)) (by(with_reducible repeat first|apply bkN|apply bkD|apply bkA);exact BK225.out) hb);have n2_:=mkA (below_step (by repeat (with_reducible first|exact HB.out|apply bwA|apply bwN|apply bwD|refine bwS ?_ GE224.out|refine bwS ?_ GE225.out)) hb);have n3_:=mkA (hbox);have n4_:=mkA ((by rw [hg];exact(bwZ (by repeat (with_reducible first|exact HB.out|apply bwA|apply bwN|apply bwD|refine bwS ?_ GE224.out|refine bwS ?_ GE225.out))) : w.heap.size ≤ gb226));have n5_:=mkA ((by rw [hg];exact(bwZ (by repeat (with_reducible first|exact HB.out|apply bwA|apply bwN|apply bwD|refine bwS ?_ GE224.out|refine bwS ?_ GE225.out))) : w.heap.size ≤ gb226));have n6_:=mkA ((by rw [hg];exact Nat.ne_of_lt (blk_lt (g:=gb224) (o:=.cells #[.int .i64 a0_0,.slice A0_1 l0_1.length c0_1] 24 (0,0)) (by(with_reducible repeat first|apply bkN|apply bkD|apply bkA);exact BK224.out)) : gb224 ≠ gb226));have n7_:=mkA ((by rw [hg];exact Nat.ne_of_gt (blk_lt (g:=gb224) (o:=.cells #[.int .i64 a0_0,.slice A0_1 l0_1.length c0_1] 24 (0,0)) (by(with_reducible repeat first|apply bkN|apply bkD|apply bkA);exact BK224.out)) : gb226 ≠ gb224));have n8_:=mkA ((by rw [hg];exact Nat.ne_of_lt (blk_lt (g:=gb225) (o:=.cells #[.int .i64 a1_0,.int .i64 a1_1,.slice A1_2 l1_2.length c1_2] 38 (0,0)) (by(with_reducible repeat first|apply bkN|apply bkD|apply bkA);exact BK225.out)) : gb225 ≠ gb226));have n9_:=mkA ((by rw [hg];exact Nat.ne_of_gt (blk_lt (g:=gb225) (o:=.cells #[.int .i64 a1_0,.int .i64 a1_1,.slice A1_2 l1_2.length c1_2] 38 (0,0)) (by(with_reducible repeat first|apply bkN|apply bkD|apply bkA);exact BK225.out)) : gb226 ≠ gb225));clear BK224;clear BK225;clear HB;have BK224:=n0_;have BK225:=n1_;have HB:=n2_;have BK226:=n3_;have GW226:=n4_;have GE226:=n5_;have NB224_226:=n6_;have NB226_224:=n7_;have NB225_226:=n8_;have NB226_225:=n9_;clear n0_ n1_ n2_ n3_ n4_ n5_ n6_ n7_ n8_ n9_;clear hb hbox hg;have hnb9:=NB224_225.out;have hnc9:=NB225_224.out;have hnb10:=NB224_226.out;have hnc10:=NB226_224.out;have hcz11_0 : w8.cell? ⟨gb224,0,none⟩ = some (.int .i64 a0_0):=(bkC BK224.out 0).trans rfl;have hcz11_1 : w8.cell? ⟨gb224,1,none⟩ = some (.slice A0_1 l0_1.length c0_1):=(bkC BK224.out 1).trans rfl;have hfz11_0:=bkF BK224.out 0;have hfz11_1:=bkF BK224.out 1)|((with_reducible refine gate_callee (f:=11) rfl ?_);refine goesL_ (some 10) rfl rfl Try.func11 (by kernel_rfl) rfl #[.agg #[.int .i64 a0_0,.slice A0_1 l0_1.length c0_1]] rfl (by(try simp only [List.map_toArray,List.map_cons,List.map_nil]);first|done|rfl) ?_;(with_reducible refine(undercroftref04_Check.calls k a0_0 _ _ l0_1 t227 _ ?side1 ?side2 A3.out).mono ?_);(case side1=>repeat (first|exact(Kd.C_below HR0_1.out HB.out)|(with_reducible refine Kd.C_alloc ?_ _)|(with_reducible refine Kd.C_drewN ?_ _)|(with_reducible refine Kd.C_drew ?_)));(case side2=>exact HC0_1.out);rintro e w12 ⟨rfl,hb⟩;refine⟨_,rfl,?_⟩;have n0_:=mkA (bkB (g:=gb224) (o:=.cells #[.int .i64 a0_0,.slice A0_1 l0_1.length c0_1] 24 (0,0)) (by(with_reducible repeat first|apply bkN|apply bkD|apply bkA);exact BK224.out) hb);have n1_:=mkA (bkB (g:=gb225) (o:=.cells #[.int .i64 a1_0,.int .i64 a1_1,.slice A1_2 l1_2.length c1_2] 38 (0,0)) (by(with_reducible repeat first|apply bkN|apply bkD|apply bkA);exact BK225.out) hb);have n2_:=mkA (bkB (g:=gb226) (o:=.cells #[.int .i64 0,.slice none 0 0] 24 (0,0)) (by(with_reducible repeat first|apply bkN|apply bkD|apply bkA);exact BK226.out) hb);have n3_:=mkA (below_step (by repeat (with_reducible first|exact HB.out|apply bwA|apply bwN|apply bwD|refine bwS ?_ GE224.out|refine bwS ?_ GE225.out|refine bwS ?_ GE226.out)) hb);clear BK224;clear BK225;clear BK226;clear HB;have BK224:=n0_;have BK225:=n1_;have BK226:=n2_;have HB:=n3_;clear n0_ n1_ n2_ n3_;(try clear hb);(try clear hb2);(try clear hk);(try clear hi)))
    (try simp only [Act.put,lsA,lsZ,lsS])
    go_cut [13] (fun v13 wc=>∃ (kq : Nat) (x13_4 : Bool),v13 = .bool x13_4∧Aside0 (undercroftref04_Send.j0 kq x13_4 a0_0 l0_1 a1_0 a1_1 l1_2 = some (r1,r2,r3,r4))∧Aside0 (kq ≤ k)∧Aside0 (wc.heap[gb224]? = some (.cells #[.int .i64 a0_0,(.slice A0_1 l0_1.length c0_1)] 24 (0,0)))∧Aside0 (wc.heap[gb225]? = some (.cells #[.int .i64 a1_0,.int .i64 a1_1,(.slice A1_2 l1_2.length c1_2)] 38 (0,0)))∧Aside0 (wc.heap[gb226]? = some (.cells #[.int .i64 0,(.slice none 0 0)] 24 (0,0)))∧Aside0 (Below w.heap.size w wc))
    case first =>
      have H:=HC5.out
      clear HC5
      replace H:=Option.bind_eq_some_iff.mp H
      obtain ⟨t228,A130,H⟩:=H
      replace H : (if t228 = true then((undercroftref04_node.f a1_1).bind fun t229=>(undercroftref04_Send.j0 k (!t229) a0_0 l0_1 a1_0 a1_1 l1_2)) else(undercroftref04_Send.j0 k true a0_0 l0_1 a1_0 a1_1 l1_2)) = some (r1,r2,r3,r4):=H
      have A13:=mkA A130
      clear A130
      by_cases c14 : t228 = true
      · subst c14
        have H1 : ((undercroftref04_node.f a1_1).bind fun t229=>(undercroftref04_Send.j0 k (!t229) a0_0 l0_1 a1_0 a1_1 l1_2)) = some (r1,r2,r3,r4):=by rw [if_pos rfl] at H;exact H
        clear H
        have H:=H1
        clear H1
        replace H:=Option.bind_eq_some_iff.mp H
        obtain ⟨t229,A150,H⟩:=H
        replace H : (undercroftref04_Send.j0 k (!t229) a0_0 l0_1 a1_0 a1_1 l1_2) = some (r1,r2,r3,r4):=H
        have A15:=mkA A150
        clear A150
        have H':=mkA H
        clear H
        have hnb16:=NB225_224.out
        have hnc16:=NB224_225.out
        have hnb17:=NB225_226.out
        have hnc17:=NB226_225.out
        have hcz18_0 : w12.cell? ⟨gb225,0,none⟩ = some (.int .i64 a1_0):=(bkC BK225.out 0).trans rfl
        have hcz18_1 : w12.cell? ⟨gb225,1,none⟩ = some (.int .i64 a1_1):=(bkC BK225.out 1).trans rfl
        have hcz18_2 : w12.cell? ⟨gb225,2,none⟩ = some (.slice A1_2 l1_2.length c1_2):=(bkC BK225.out 2).trans rfl
        have hfz18_0:=bkF BK225.out 0
        have hfz18_1:=bkF BK225.out 1
        have hfz18_2:=bkF BK225.out 2
        go_wp2_with (first|((with_reducible refine gate_callee (f:=28) rfl ?_);refine goesL_ (some 16) rfl rfl Try.func28 (by kernel_rfl) rfl #[.int .i64 a1_0] rfl (by(try simp only [List.map_toArray,List.map_cons,List.map_nil]);first|done|rfl) ?_;(with_reducible refine(undercroftref04_node.calls a1_0 true _ A13.out).mono ?_);rintro e w' ⟨rfl,⟨nd,rfl⟩⟩;refine⟨_,rfl,?_⟩)|(go_at_call 28;(with_reducible refine(undercroftref04_node.calls a1_1 t229 _ A15.out).mono ?_);rintro e w' ⟨rfl,⟨nd,rfl⟩⟩))
        go_meet
        case rel=>exact⟨_,(!t229),(by first|rfl|(simp;done)|(simp [*];done)),H',⟨by first|omega|exact Nat.le_refl _⟩,⟨by(with_reducible repeat first|apply bkN|apply bkD|apply bkA);exact BK224.out⟩,⟨by(with_reducible repeat first|apply bkN|apply bkD|apply bkA);exact BK225.out⟩,⟨by(with_reducible repeat first|apply bkN|apply bkD|apply bkA);exact BK226.out⟩,⟨by repeat (with_reducible first|exact HB.out|apply bwA|apply bwN|apply bwD|refine bwS ?_ GE224.out|refine bwS ?_ GE225.out|refine bwS ?_ GE226.out)⟩⟩
      · replace c14:=Bool.eq_false_iff.mpr c14
        subst c14
        have H1 : (undercroftref04_Send.j0 k true a0_0 l0_1 a1_0 a1_1 l1_2) = some (r1,r2,r3,r4):=by rw [if_neg (show ¬ (false = true) by decide)] at H;exact H
        clear H
        have H:=H1
        clear H1
        have H':=mkA H
        clear H
        have hnb19:=NB225_224.out
        have hnc19:=NB224_225.out
        have hnb20:=NB225_226.out
        have hnc20:=NB226_225.out
        have hcz21_0 : w12.cell? ⟨gb225,0,none⟩ = some (.int .i64 a1_0):=(bkC BK225.out 0).trans rfl
        have hcz21_1 : w12.cell? ⟨gb225,1,none⟩ = some (.int .i64 a1_1):=(bkC BK225.out 1).trans rfl
        have hcz21_2 : w12.cell? ⟨gb225,2,none⟩ = some (.slice A1_2 l1_2.length c1_2):=(bkC BK225.out 2).trans rfl
        have hfz21_0:=bkF BK225.out 0
        have hfz21_1:=bkF BK225.out 1
        have hfz21_2:=bkF BK225.out 2
        go_wp2_with (first|((with_reducible refine gate_callee (f:=28) rfl ?_);refine goesL_ (some 16) rfl rfl Try.func28 (by kernel_rfl) rfl #[.int .i64 a1_0] rfl (by(try simp only [List.map_toArray,List.map_cons,List.map_nil]);first|done|rfl) ?_;(with_reducible refine(undercroftref04_node.calls a1_0 false _ A13.out).mono ?_);rintro e w' ⟨rfl,⟨nd,rfl⟩⟩;refine⟨_,rfl,?_⟩))
        go_meet
        case rel=>exact⟨_,(true),(by first|rfl|(simp;done)|(simp [*];done)),H',⟨by first|omega|exact Nat.le_refl _⟩,⟨by(with_reducible repeat first|apply bkN|apply bkD|apply bkA);exact BK224.out⟩,⟨by(with_reducible repeat first|apply bkN|apply bkD|apply bkA);exact BK225.out⟩,⟨by(with_reducible repeat first|apply bkN|apply bkD|apply bkA);exact BK226.out⟩,⟨by repeat (with_reducible first|exact HB.out|apply bwA|apply bwN|apply bwD|refine bwS ?_ GE224.out|refine bwS ?_ GE225.out|refine bwS ?_ GE226.out)⟩⟩
    case rest =>
      clear HC5
      try clear c1
      try clear c2
      try clear p2
      try clear c4
      try clear c4b0
      try clear c4b1
      try clear c9
      try clear c10
      try clear c11
      try clear c14
      try clear c16
      try clear c17
      try clear c19
      try clear c20
      try clear hcz11_0
      try clear hcz11_1
      try clear hcz18_0
      try clear hcz18_1
      try clear hcz18_2
      try clear hcz21_0
      try clear hcz21_1
      try clear hcz21_2
      try clear hfz11_0
      try clear hfz11_1
      try clear hfz18_0
      try clear hfz18_1
      try clear hfz18_2
      try clear hfz21_0
      try clear hfz21_1
      try clear hfz21_2
      obtain ⟨kq,x13_4,rfl,HA,HJ4,BK224,BK225,BK226,HB⟩:=hcut
      cases kq with
      | zero=>exact absurd HA.out (by simp [undercroftref04_Send.j0])
      | succ kj4 =>
        have H:=HA.out
        clear HA
        simp only [undercroftref04_Send.j0] at H
        by_cases c22 : x13_4 = true
        · subst c22
          have H1 : (some (0,([] : List (S38)),false,4)) = some (r1,r2,r3,r4):=by rw [if_pos rfl] at H;exact H
          clear H
          have H:=H1
          clear H1
          simp only [Option.some.injEq,Prod.mk.injEq] at H
          obtain ⟨rfl,rfl,rfl,rfl⟩:=H
          have hnb23:=NB226_224.out
          have hnc23:=NB224_226.out
          have hnb24:=NB226_225.out
          have hnc24:=NB225_226.out
          have hcz25_0 : wc.cell? ⟨gb226,0,none⟩ = some (.int .i64 0):=(bkC BK226.out 0).trans rfl
          have hcz25_1 : wc.cell? ⟨gb226,1,none⟩ = some (.slice none 0 0):=(bkC BK226.out 1).trans rfl
          have hfz25_0:=bkF BK226.out 0
          have hfz25_1:=bkF BK226.out 1
          go_wp2
          refine bodyPost_ret (results_ctt rfl _ _ gb226 24 #[.int .i64 0,.slice none 0 0] (0,0) _ rfl (by(with_reducible repeat first|apply bkN|apply bkD|apply bkA);refine blk_put (cs:=#[.int .i64 0,.slice none 0 0]) ?_ 1 _ rfl;(with_reducible repeat first|apply bkN|apply bkD|apply bkA);refine blk_put (cs:=#[.int .i64 0,.slice none 0 0]) ?_ 0 _ rfl;(with_reducible repeat first|apply bkN|apply bkD|apply bkA);exact BK226.out) Try.underlying24 rfl (by kernel_rfl)) rfl ?_
          exact⟨_,by first|rfl|(simp [errW_none,errW_some] <;> rfl)|(simp [*,errW_none,errW_some] <;> rfl),by first|exact Kd.S_nil _ _ _ _ _|exact Kd.N_nil _ _ _ _ _|exact Kd.V_nil _ _ _ _ _|exact Kd.Q_nil _ _ _ _ _|exact Kd.R_nil _ _ _ _ _,by repeat (with_reducible first|exact HB.out|apply bwA|apply bwN|apply bwD|refine bwS ?_ GE224.out|refine bwS ?_ GE225.out|refine bwS ?_ GE226.out)⟩
        · replace c22:=Bool.eq_false_iff.mpr c22
          subst c22
          have H1 : (if(l1_2.length : Int) > 4096 then(some (0,([] : List (S38)),false,5)) else((undercroftref04_but.f kj4 a0_0 l0_1 (-1)).bind fun bt230=>(if(bt230.2.length : Int) ≥ bt230.1 then(some (bt230.1,bt230.2,false,0)) else((undercroftref04_copied.f a1_0 a1_1 l1_2).bind fun bt235=>(if bt230.2.length < 3518437208883 then(some (bt230.1,(bt230.2 ++ [(⟨bt235.1,bt235.2.1,bt235.2.2⟩ : S38)]),true,0)) else(none)))))) = some (r1,r2,r3,r4):=by rw [if_neg (show ¬ (false = true) by decide)] at H;exact H
          clear H
          have H:=H1
          clear H1
          by_cases c26 : (l1_2.length : Int) > 4096
          · rw [if_pos c26] at H
            have c26b0 : decide (4096 < (l1_2.length : Int)) = true:=decide_eq_true c26
            have c26b1 : decide (4096 < l1_2.length) = true:=decide_eq_true (by omega)
            clear c26
            simp only [Option.some.injEq,Prod.mk.injEq] at H
            obtain ⟨rfl,rfl,rfl,rfl⟩:=H
            have hnb27:=NB225_224.out
            have hnc27:=NB224_225.out
            have hnb28:=NB225_226.out
            have hnc28:=NB226_225.out
            have hcz29_0 : wc.cell? ⟨gb225,0,none⟩ = some (.int .i64 a1_0):=(bkC BK225.out 0).trans rfl
            have hcz29_1 : wc.cell? ⟨gb225,1,none⟩ = some (.int .i64 a1_1):=(bkC BK225.out 1).trans rfl
            have hcz29_2 : wc.cell? ⟨gb225,2,none⟩ = some (.slice A1_2 l1_2.length c1_2):=(bkC BK225.out 2).trans rfl
            have hfz29_0:=bkF BK225.out 0
            have hfz29_1:=bkF BK225.out 1
            have hfz29_2:=bkF BK225.out 2
            have hnb30:=NB226_224.out
            have hnc30:=NB224_226.out
            have hcz31_0 : wc.cell? ⟨gb226,0,none⟩ = some (.int .i64 0):=(bkC BK226.out 0).trans rfl
            have hcz31_1 : wc.cell? ⟨gb226,1,none⟩ = some (.slice none 0 0):=(bkC BK226.out 1).trans rfl
            have hfz31_0:=bkF BK226.out 0
            have hfz31_1:=bkF BK226.out 1
            go_wp2
            refine bodyPost_ret (results_ctt rfl _ _ gb226 24 #[.int .i64 0,.slice none 0 0] (0,0) _ rfl (by(with_reducible repeat first|apply bkN|apply bkD|apply bkA);refine blk_put (cs:=#[.int .i64 0,.slice none 0 0]) ?_ 1 _ rfl;(with_reducible repeat first|apply bkN|apply bkD|apply bkA);refine blk_put (cs:=#[.int .i64 0,.slice none 0 0]) ?_ 0 _ rfl;(with_reducible repeat first|apply bkN|apply bkD|apply bkA);exact BK226.out) Try.underlying24 rfl (by kernel_rfl)) rfl ?_
            exact⟨_,by first|rfl|(simp [errW_none,errW_some] <;> rfl)|(simp [*,errW_none,errW_some] <;> rfl),by first|exact Kd.S_nil _ _ _ _ _|exact Kd.N_nil _ _ _ _ _|exact Kd.V_nil _ _ _ _ _|exact Kd.Q_nil _ _ _ _ _|exact Kd.R_nil _ _ _ _ _,by repeat (with_reducible first|exact HB.out|apply bwA|apply bwN|apply bwD|refine bwS ?_ GE224.out|refine bwS ?_ GE225.out|refine bwS ?_ GE226.out)⟩
          · rw [if_neg c26] at H
            have c26b0 : decide (4096 < (l1_2.length : Int)) = false:=decide_eq_false c26
            have c26b1 : decide (4096 < l1_2.length) = false:=decide_eq_false (by omega)
            clear c26
            replace H:=Option.bind_eq_some_iff.mp H
            obtain ⟨⟨t230,t231⟩,A320,H⟩:=H
            replace H : (if(t231.length : Int) ≥ t230 then(some (t230,t231,false,0)) else((undercroftref04_copied.f a1_0 a1_1 l1_2).bind fun bt235=>(if t231.length < 3518437208883 then(some (t230,(t231 ++ [(⟨bt235.1,bt235.2.1,bt235.2.2⟩ : S38)]),true,0)) else(none)))) = some (r1,r2,r3,r4):=H
            have A32:=mkA A320
            clear A320
            by_cases c33 : (t231.length : Int) ≥ t230
            · rw [if_pos c33] at H
              have c33b0 : decide (t230 ≤ (t231.length : Int)) = true:=decide_eq_true c33
              clear c33
              simp only [Option.some.injEq,Prod.mk.injEq] at H
              obtain ⟨rfl,rfl,rfl,rfl⟩:=H
              have hnb34:=NB225_224.out
              have hnc34:=NB224_225.out
              have hnb35:=NB225_226.out
              have hnc35:=NB226_225.out
              have hcz36_0 : wc.cell? ⟨gb225,0,none⟩ = some (.int .i64 a1_0):=(bkC BK225.out 0).trans rfl
              have hcz36_1 : wc.cell? ⟨gb225,1,none⟩ = some (.int .i64 a1_1):=(bkC BK225.out 1).trans rfl
              have hcz36_2 : wc.cell? ⟨gb225,2,none⟩ = some (.slice A1_2 l1_2.length c1_2):=(bkC BK225.out 2).trans rfl
              have hfz36_0:=bkF BK225.out 0
              have hfz36_1:=bkF BK225.out 1
              have hfz36_2:=bkF BK225.out 2
              have hnb37:=NB224_226.out
              have hnc37:=NB226_224.out
              have hcz38_0 : wc.cell? ⟨gb224,0,none⟩ = some (.int .i64 a0_0):=(bkC BK224.out 0).trans rfl
              have hcz38_1 : wc.cell? ⟨gb224,1,none⟩ = some (.slice A0_1 l0_1.length c0_1):=(bkC BK224.out 1).trans rfl
              have hfz38_0:=bkF BK224.out 0
              have hfz38_1:=bkF BK224.out 1
              go_wp2_with (first|((with_reducible refine gate_callee (f:=33) rfl ?_);refine goesL_ (some 32) rfl rfl Try.func33 (by kernel_rfl) rfl #[.agg #[.int .i64 a0_0,.slice A0_1 l0_1.length c0_1],.int .i64 (-1)] rfl (by(try simp only [List.map_toArray,List.map_cons,List.map_nil]);first|done|rfl) ?_;(with_reducible refine(undercroftref04_but.calls kj4 a0_0 _ _ l0_1 (-1) t230 t231 _ ?side1 ?side2 A32.out).mono ?_);(case side1=>repeat (first|exact(Kd.C_below HR0_1.out HB.out)|(with_reducible refine Kd.C_alloc ?_ _)|(with_reducible refine Kd.C_drewN ?_ _)|(with_reducible refine Kd.C_drew ?_)));(case side2=>exact HC0_1.out);rintro e w39 ⟨v232,rfl,ho0,hb⟩;refine⟨_,rfl,?_⟩;have n0_:=mkA (Kd.S_lower (Kd.S_newB ho0 (g:=gb225) (o:=.cells #[.int .i64 a1_0,.int .i64 a1_1,.slice A1_2 l1_2.length c1_2] 38 (0,0)) (by(with_reducible repeat first|apply bkN|apply bkD|apply bkA);exact BK225.out)) (bwZ (by repeat (with_reducible first|exact HB.out|apply bwA|apply bwN|apply bwD|refine bwS ?_ GE224.out|refine bwS ?_ GE225.out|refine bwS ?_ GE226.out))));have n1_:=mkA (bkB (g:=gb224) (o:=.cells #[.int .i64 a0_0,.slice A0_1 l0_1.length c0_1] 24 (0,0)) (by(with_reducible repeat first|apply bkN|apply bkD|apply bkA);exact BK224.out) hb);have n2_:=mkA (bkB (g:=gb225) (o:=.cells #[.int .i64 a1_0,.int .i64 a1_1,.slice A1_2 l1_2.length c1_2] 38 (0,0)) (by(with_reducible repeat first|apply bkN|apply bkD|apply bkA);exact BK225.out) hb);have n3_:=mkA (bkB (g:=gb226) (o:=.cells #[.int .i64 0,.slice none 0 0] 24 (0,0)) (by(with_reducible repeat first|apply bkN|apply bkD|apply bkA);exact BK226.out) hb);have n4_:=mkA (below_step (by repeat (with_reducible first|exact HB.out|apply bwA|apply bwN|apply bwD|refine bwS ?_ GE224.out|refine bwS ?_ GE225.out|refine bwS ?_ GE226.out)) hb);clear BK224;clear BK225;clear BK226;clear HB;have HO233:=n0_;have BK224:=n1_;have BK225:=n2_;have BK226:=n3_;have HB:=n4_;clear n0_ n1_ n2_ n3_ n4_;(try clear hb);(try clear hb2);(try clear hk);(try clear hi);(try clear ho0))|((with_reducible refine gate_dst (N:=7) rfl ?_);refine box_event ?hg (N:=7) ?hd (cs:=#[.int .i64 0,.slice none 0 0]) (t:=24) ?hr ?_;(case hd=>rfl);(case hg=>rfl);(case hr=>first|(go_simp;done)|(go_simp;rfl));intro gb234 hg w40 hbox hb;have n0_:=mkA (Kd.S_below (by(with_reducible repeat (first|apply Kd.S_alloc|apply Kd.S_drewN|apply Kd.S_drew));exact HO233.out) hb);have n1_:=mkA (bkB (g:=gb224) (o:=.cells #[.int .i64 a0_0,.slice A0_1 l0_1.length c0_1] 24 (0,0)) (by(with_reducible repeat first|apply bkN|apply bkD|apply bkA);exact BK224.out) hb);have n2_:=mkA (bkB (g:=gb225) (o:=.cells #[.int .i64 a1_0,.int .i64 a1_1,.slice A1_2 l1_2.length c1_2] 38 (0,0)) (by(with_reducible repeat first|apply bkN|apply bkD|apply bkA);exact BK225.out) hb);have n3_:=mkA (bkB (g:=gb226) (o:=.cells #[.int .i64 0,.slice none 0 0] 24 (0,0)) (by(with_reducible repeat first|apply bkN|apply bkD|apply bkA);exact BK226.out) hb);have n4_:=mkA (below_step (by repeat (with_reducible first|exact HB.out|apply bwA|apply bwN|apply bwD|refine bwS ?_ GE224.out|refine bwS ?_ GE225.out|refine bwS ?_ GE226.out)) hb);have n5_:=mkA (hbox);have n6_:=mkA ((by rw [hg];exact(bwZ (by repeat (with_reducible first|exact HB.out|apply bwA|apply bwN|apply bwD|refine bwS ?_ GE224.out|refine bwS ?_ GE225.out|refine bwS ?_ GE226.out))) : w.heap.size ≤ gb234));have n7_:=mkA ((by rw [hg];exact(bwZ (by repeat (with_reducible first|exact HB.out|apply bwA|apply bwN|apply bwD|refine bwS ?_ GE224.out|refine bwS ?_ GE225.out|refine bwS ?_ GE226.out))) : w.heap.size ≤ gb234));have n8_:=mkA ((by rw [hg];exact Nat.ne_of_lt (blk_lt (g:=gb224) (o:=.cells #[.int .i64 a0_0,.slice A0_1 l0_1.length c0_1] 24 (0,0)) (by(with_reducible repeat first|apply bkN|apply bkD|apply bkA);exact BK224.out)) : gb224 ≠ gb234));have n9_:=mkA ((by rw [hg];exact Nat.ne_of_gt (blk_lt (g:=gb224) (o:=.cells #[.int .i64 a0_0,.slice A0_1 l0_1.length c0_1] 24 (0,0)) (by(with_reducible repeat first|apply bkN|apply bkD|apply bkA);exact BK224.out)) : gb234 ≠ gb224));have n10_:=mkA ((by rw [hg];exact Nat.ne_of_lt (blk_lt (g:=gb225) (o:=.cells #[.int .i64 a1_0,.int .i64 a1_1,.slice A1_2 l1_2.length c1_2] 38 (0,0)) (by(with_reducible repeat first|apply bkN|apply bkD|apply bkA);exact BK225.out)) : gb225 ≠ gb234));have n11_:=mkA ((by rw [hg];exact Nat.ne_of_gt (blk_lt (g:=gb225) (o:=.cells #[.int .i64 a1_0,.int .i64 a1_1,.slice A1_2 l1_2.length c1_2] 38 (0,0)) (by(with_reducible repeat first|apply bkN|apply bkD|apply bkA);exact BK225.out)) : gb234 ≠ gb225));have n12_:=mkA ((by rw [hg];exact Nat.ne_of_lt (blk_lt (g:=gb226) (o:=.cells #[.int .i64 0,.slice none 0 0] 24 (0,0)) (by(with_reducible repeat first|apply bkN|apply bkD|apply bkA);exact BK226.out)) : gb226 ≠ gb234));have n13_:=mkA ((by rw [hg];exact Nat.ne_of_gt (blk_lt (g:=gb226) (o:=.cells #[.int .i64 0,.slice none 0 0] 24 (0,0)) (by(with_reducible repeat first|apply bkN|apply bkD|apply bkA);exact BK226.out)) : gb234 ≠ gb226));clear HO233;clear BK224;clear BK225;clear BK226;clear HB;have HO233:=n0_;have BK224:=n1_;have BK225:=n2_;have BK226:=n3_;have HB:=n4_;have BK234:=n5_;have GW234:=n6_;have GE234:=n7_;have NB224_234:=n8_;have NB234_224:=n9_;have NB225_234:=n10_;have NB234_225:=n11_;have NB226_234:=n12_;have NB234_226:=n13_;clear n0_ n1_ n2_ n3_ n4_ n5_ n6_ n7_ n8_ n9_ n10_ n11_ n12_ n13_;clear hb hbox hg;have hnb41:=NB234_224.out;have hnc41:=NB224_234.out;have hnb42:=NB234_225.out;have hnc42:=NB225_234.out;have hnb43:=NB234_226.out;have hnc43:=NB226_234.out;have hcz44_0 : w40.cell? ⟨gb234,0,none⟩ = some (.int .i64 0):=(bkC BK234.out 0).trans rfl;have hcz44_1 : w40.cell? ⟨gb234,1,none⟩ = some (.slice none 0 0):=(bkC BK234.out 1).trans rfl;have hfz44_0:=bkF BK234.out 0;have hfz44_1:=bkF BK234.out 1;obtain ⟨Ao45,co45,eo45⟩:=Kd.S_slice HO233.out;subst eo45;have hcz46_0 : w40.cell? ⟨gb226,0,none⟩ = some (.int .i64 0):=(bkC BK226.out 0).trans rfl;have hcz46_1 : w40.cell? ⟨gb226,1,none⟩ = some (.slice none 0 0):=(bkC BK226.out 1).trans rfl;have hfz46_0:=bkF BK226.out 0;have hfz46_1:=bkF BK226.out 1))
              refine bodyPost_ret (results_ctt rfl _ _ gb226 24 #[.int .i64 t230,.slice Ao45 t231.length co45] (0,0) _ rfl (by(with_reducible repeat first|apply bkN|apply bkD|apply bkA);refine blk_put (cs:=#[.int .i64 t230,.slice none 0 0]) ?_ 1 _ rfl;(with_reducible repeat first|apply bkN|apply bkD|apply bkA);refine blk_put (cs:=#[.int .i64 0,.slice none 0 0]) ?_ 0 _ rfl;(with_reducible repeat first|apply bkN|apply bkD|apply bkA);refine blk_far ?_ NB226_234.out _;(with_reducible repeat first|apply bkN|apply bkD|apply bkA);refine blk_far ?_ NB226_234.out _;(with_reducible repeat first|apply bkN|apply bkD|apply bkA);exact BK226.out) Try.underlying24 rfl (by kernel_rfl)) rfl ?_
              exact⟨_,by first|rfl|(simp [errW_none,errW_some] <;> rfl)|(simp [*,errW_none,errW_some] <;> rfl),by(with_reducible repeat (first|apply Kd.S_alloc|apply Kd.S_drewN|apply Kd.S_drew));exact Kd.S_mono (Kd.S_far (p:=⟨gb226,1,none⟩) (Kd.S_far (p:=⟨gb226,0,none⟩) (Kd.S_far (p:=⟨gb234,1,none⟩) (Kd.S_far (p:=⟨gb234,0,none⟩) (Kd.S_types (Kd.S_types HO233.out BK234.out (by decide)) BK226.out (by decide)) (fun _ hk=>hk.1.2) (.int .i64 t230)) (fun _ hk=>hk.1.2) (.slice Ao45 t231.length co45)) (fun _ hk=>hk.2) (.int .i64 t230)) (fun _ hk=>hk.2) (.slice Ao45 t231.length co45)) (fun _ hk=>trivial),by repeat (with_reducible first|exact HB.out|apply bwA|apply bwN|apply bwD|refine bwS ?_ GE224.out|refine bwS ?_ GE225.out|refine bwS ?_ GE226.out|refine bwS ?_ GE234.out)⟩
            · rw [if_neg c33] at H
              have c33b0 : decide (t230 ≤ (t231.length : Int)) = false:=decide_eq_false c33
              clear c33
              replace H:=Option.bind_eq_some_iff.mp H
              obtain ⟨⟨t235,t236,t237⟩,A470,H⟩:=H
              replace H : (if t231.length < 3518437208883 then(some (t230,(t231 ++ [(⟨t235,t236,t237⟩ : S38)]),true,0)) else(none)) = some (r1,r2,r3,r4):=H
              have A47:=mkA A470
              clear A470
              by_cases c48 : t231.length < 3518437208883
              · rw [if_pos c48] at H
                have LMc48:=mkA c48
                clear c48
                obtain ⟨y240,hy240⟩ : ∃ y_ : List (S38),y_ = (t231 ++ [(⟨t235,t236,t237⟩ : S38)]):=⟨_,rfl⟩
                replace H : (some (t230,y240,true,0)) = some (r1,r2,r3,r4):=by first|(rw [hy240];with_reducible exact H)|(have H2_:=(Option.bind_some _ _).symm.trans H;rw [hy240];with_reducible exact H2_)|(have H2_:=(Option.bind_some _ _).symm.trans H;with_reducible exact H2_)|with_reducible exact H|(rw [hy240];exact H)|exact H
                have Ny240:=mkA hy240
                clear hy240
                simp only [Option.some.injEq,Prod.mk.injEq] at H
                obtain ⟨rfl,rfl,rfl,rfl⟩:=H
                have hnb49:=NB225_224.out
                have hnc49:=NB224_225.out
                have hnb50:=NB225_226.out
                have hnc50:=NB226_225.out
                have hcz51_0 : wc.cell? ⟨gb225,0,none⟩ = some (.int .i64 a1_0):=(bkC BK225.out 0).trans rfl
                have hcz51_1 : wc.cell? ⟨gb225,1,none⟩ = some (.int .i64 a1_1):=(bkC BK225.out 1).trans rfl
                have hcz51_2 : wc.cell? ⟨gb225,2,none⟩ = some (.slice A1_2 l1_2.length c1_2):=(bkC BK225.out 2).trans rfl
                have hfz51_0:=bkF BK225.out 0
                have hfz51_1:=bkF BK225.out 1
                have hfz51_2:=bkF BK225.out 2
                have hnb52:=NB224_226.out
                have hnc52:=NB226_224.out
                have hcz53_0 : wc.cell? ⟨gb224,0,none⟩ = some (.int .i64 a0_0):=(bkC BK224.out 0).trans rfl
                have hcz53_1 : wc.cell? ⟨gb224,1,none⟩ = some (.slice A0_1 l0_1.length c0_1):=(bkC BK224.out 1).trans rfl
                have hfz53_0:=bkF BK224.out 0
                have hfz53_1:=bkF BK224.out 1
                try go_wp2_with (first|((with_reducible refine gate_callee (f:=33) rfl ?_);refine goesL_ (some 32) rfl rfl Try.func33 (by kernel_rfl) rfl #[.agg #[.int .i64 a0_0,.slice A0_1 l0_1.length c0_1],.int .i64 (-1)] rfl (by(try simp only [List.map_toArray,List.map_cons,List.map_nil]);first|done|rfl) ?_;(with_reducible refine(undercroftref04_but.calls kj4 a0_0 _ _ l0_1 (-1) t230 t231 _ ?side1 ?side2 A32.out).mono ?_);(case side1=>repeat (first|exact(Kd.C_below HR0_1.out HB.out)|(with_reducible refine Kd.C_alloc ?_ _)|(with_reducible refine Kd.C_drewN ?_ _)|(with_reducible refine Kd.C_drew ?_)));(case side2=>exact HC0_1.out);rintro e w54 ⟨v232,rfl,ho0,hb⟩;refine⟨_,rfl,?_⟩;have n0_:=mkA (Kd.S_lower (Kd.S_newB ho0 (g:=gb225) (o:=.cells #[.int .i64 a1_0,.int .i64 a1_1,.slice A1_2 l1_2.length c1_2] 38 (0,0)) (by(with_reducible repeat first|apply bkN|apply bkD|apply bkA);exact BK225.out)) (bwZ (by repeat (with_reducible first|exact HB.out|apply bwA|apply bwN|apply bwD|refine bwS ?_ GE224.out|refine bwS ?_ GE225.out|refine bwS ?_ GE226.out))));have n1_:=mkA (bkB (g:=gb224) (o:=.cells #[.int .i64 a0_0,.slice A0_1 l0_1.length c0_1] 24 (0,0)) (by(with_reducible repeat first|apply bkN|apply bkD|apply bkA);exact BK224.out) hb);have n2_:=mkA (bkB (g:=gb225) (o:=.cells #[.int .i64 a1_0,.int .i64 a1_1,.slice A1_2 l1_2.length c1_2] 38 (0,0)) (by(with_reducible repeat first|apply bkN|apply bkD|apply bkA);exact BK225.out) hb);have n3_:=mkA (bkB (g:=gb226) (o:=.cells #[.int .i64 0,.slice none 0 0] 24 (0,0)) (by(with_reducible repeat first|apply bkN|apply bkD|apply bkA);exact BK226.out) hb);have n4_:=mkA (below_step (by repeat (with_reducible first|exact HB.out|apply bwA|apply bwN|apply bwD|refine bwS ?_ GE224.out|refine bwS ?_ GE225.out|refine bwS ?_ GE226.out)) hb);clear BK224;clear BK225;clear BK226;clear HB;have HO233:=n0_;have BK224:=n1_;have BK225:=n2_;have BK226:=n3_;have HB:=n4_;clear n0_ n1_ n2_ n3_ n4_;(try clear hb);(try clear hb2);(try clear hk);(try clear hi);(try clear ho0))|((with_reducible refine gate_dst (N:=7) rfl ?_);refine box_event ?hg (N:=7) ?hd (cs:=#[.int .i64 0,.slice none 0 0]) (t:=24) ?hr ?_;(case hd=>rfl);(case hg=>rfl);(case hr=>first|(go_simp;done)|(go_simp;rfl));intro gb234 hg w55 hbox hb;have n0_:=mkA (Kd.S_below (by(with_reducible repeat (first|apply Kd.S_alloc|apply Kd.S_drewN|apply Kd.S_drew));exact HO233.out) hb);have n1_:=mkA (bkB (g:=gb224) (o:=.cells #[.int .i64 a0_0,.slice A0_1 l0_1.length c0_1] 24 (0,0)) (by(with_reducible repeat first|apply bkN|apply bkD|apply bkA);exact BK224.out) hb);have n2_:=mkA (bkB (g:=gb225) (o:=.cells #[.int .i64 a1_0,.int .i64 a1_1,.slice A1_2 l1_2.length c1_2] 38 (0,0)) (by(with_reducible repeat first|apply bkN|apply bkD|apply bkA);exact BK225.out) hb);have n3_:=mkA (bkB (g:=gb226) (o:=.cells #[.int .i64 0,.slice none 0 0] 24 (0,0)) (by(with_reducible repeat first|apply bkN|apply bkD|apply bkA);exact BK226.out) hb);have n4_:=mkA (below_step (by repeat (with_reducible first|exact HB.out|apply bwA|apply bwN|apply bwD|refine bwS ?_ GE224.out|refine bwS ?_ GE225.out|refine bwS ?_ GE226.out)) hb);have n5_:=mkA (hbox);have n6_:=mkA ((by rw [hg];exact(bwZ (by repeat (with_reducible first|exact HB.out|apply bwA|apply bwN|apply bwD|refine bwS ?_ GE224.out|refine bwS ?_ GE225.out|refine bwS ?_ GE226.out))) : w.heap.size ≤ gb234));have n7_:=mkA ((by rw [hg];exact(bwZ (by repeat (with_reducible first|exact HB.out|apply bwA|apply bwN|apply bwD|refine bwS ?_ GE224.out|refine bwS ?_ GE225.out|refine bwS ?_ GE226.out))) : w.heap.size ≤ gb234));have n8_:=mkA ((by rw [hg];exact Nat.ne_of_lt (blk_lt (g:=gb224) (o:=.cells #[.int .i64 a0_0,.slice A0_1 l0_1.length c0_1] 24 (0,0)) (by(with_reducible repeat first|apply bkN|apply bkD|apply bkA);exact BK224.out)) : gb224 ≠ gb234));have n9_:=mkA ((by rw [hg];exact Nat.ne_of_gt (blk_lt (g:=gb224) (o:=.cells #[.int .i64 a0_0,.slice A0_1 l0_1.length c0_1] 24 (0,0)) (by(with_reducible repeat first|apply bkN|apply bkD|apply bkA);exact BK224.out)) : gb234 ≠ gb224));have n10_:=mkA ((by rw [hg];exact Nat.ne_of_lt (blk_lt (g:=gb225) (o:=.cells #[.int .i64 a1_0,.int .i64 a1_1,.slice A1_2 l1_2.length c1_2] 38 (0,0)) (by(with_reducible repeat first|apply bkN|apply bkD|apply bkA);exact BK225.out)) : gb225 ≠ gb234));have n11_:=mkA ((by rw [hg];exact Nat.ne_of_gt (blk_lt (g:=gb225) (o:=.cells #[.int .i64 a1_0,.int .i64 a1_1,.slice A1_2 l1_2.length c1_2] 38 (0,0)) (by(with_reducible repeat first|apply bkN|apply bkD|apply bkA);exact BK225.out)) : gb234 ≠ gb225));have n12_:=mkA ((by rw [hg];exact Nat.ne_of_lt (blk_lt (g:=gb226) (o:=.cells #[.int .i64 0,.slice none 0 0] 24 (0,0)) (by(with_reducible repeat first|apply bkN|apply bkD|apply bkA);exact BK226.out)) : gb226 ≠ gb234));have n13_:=mkA ((by rw [hg];exact Nat.ne_of_gt (blk_lt (g:=gb226) (o:=.cells #[.int .i64 0,.slice none 0 0] 24 (0,0)) (by(with_reducible repeat first|apply bkN|apply bkD|apply bkA);exact BK226.out)) : gb234 ≠ gb226));clear HO233;clear BK224;clear BK225;clear BK226;clear HB;have HO233:=n0_;have BK224:=n1_;have BK225:=n2_;have BK226:=n3_;have HB:=n4_;have BK234:=n5_;have GW234:=n6_;have GE234:=n7_;have NB224_234:=n8_;have NB234_224:=n9_;have NB225_234:=n10_;have NB234_225:=n11_;have NB226_234:=n12_;have NB234_226:=n13_;clear n0_ n1_ n2_ n3_ n4_ n5_ n6_ n7_ n8_ n9_ n10_ n11_ n12_ n13_;clear hb hbox hg;have hnb56:=NB234_224.out;have hnc56:=NB224_234.out;have hnb57:=NB234_225.out;have hnc57:=NB225_234.out;have hnb58:=NB234_226.out;have hnc58:=NB226_234.out;have hcz59_0 : w55.cell? ⟨gb234,0,none⟩ = some (.int .i64 0):=(bkC BK234.out 0).trans rfl;have hcz59_1 : w55.cell? ⟨gb234,1,none⟩ = some (.slice none 0 0):=(bkC BK234.out 1).trans rfl;have hfz59_0:=bkF BK234.out 0;have hfz59_1:=bkF BK234.out 1;obtain ⟨Ao60,co60,eo60⟩:=Kd.S_slice HO233.out;subst eo60))
                have n0_ : Aside0 (Kd.S k38 38 ((w55.setCell ⟨gb234,0,none⟩ (.int .i64 t230)).setCell ⟨gb234,1,none⟩ (.slice Ao60 t231.length co60)) w.heap.size (fun k_=>k_ ≠ gb225) (.slice Ao60 t231.length co60) t231):=⟨by(with_reducible repeat (first|apply Kd.S_alloc|apply Kd.S_drewN|apply Kd.S_drew));exact Kd.S_mono (Kd.S_far (p:=⟨gb234,1,none⟩) (Kd.S_far (p:=⟨gb234,0,none⟩) (Kd.S_types HO233.out BK234.out (by decide)) (fun _ hk=>hk.2) (.int .i64 t230)) (fun _ hk=>hk.2) (.slice Ao60 t231.length co60)) (fun _ hk=>hk.1.2)⟩
                have n1_ : Aside0 (((w55.setCell ⟨gb234,0,none⟩ (.int .i64 t230)).setCell ⟨gb234,1,none⟩ (.slice Ao60 t231.length co60)).heap[gb224]? = some (.cells #[.int .i64 a0_0,.slice A0_1 l0_1.length c0_1] 24 (0,0))):=⟨by(with_reducible repeat first|apply bkN|apply bkD|apply bkA);refine blk_far ?_ NB224_234.out _;(with_reducible repeat first|apply bkN|apply bkD|apply bkA);refine blk_far ?_ NB224_234.out _;(with_reducible repeat first|apply bkN|apply bkD|apply bkA);exact BK224.out⟩
                have n2_ : Aside0 (((w55.setCell ⟨gb234,0,none⟩ (.int .i64 t230)).setCell ⟨gb234,1,none⟩ (.slice Ao60 t231.length co60)).heap[gb225]? = some (.cells #[.int .i64 a1_0,.int .i64 a1_1,.slice A1_2 l1_2.length c1_2] 38 (0,0))):=⟨by(with_reducible repeat first|apply bkN|apply bkD|apply bkA);refine blk_far ?_ NB225_234.out _;(with_reducible repeat first|apply bkN|apply bkD|apply bkA);refine blk_far ?_ NB225_234.out _;(with_reducible repeat first|apply bkN|apply bkD|apply bkA);exact BK225.out⟩
                have n3_ : Aside0 (((w55.setCell ⟨gb234,0,none⟩ (.int .i64 t230)).setCell ⟨gb234,1,none⟩ (.slice Ao60 t231.length co60)).heap[gb226]? = some (.cells #[.int .i64 0,.slice none 0 0] 24 (0,0))):=⟨by(with_reducible repeat first|apply bkN|apply bkD|apply bkA);refine blk_far ?_ NB226_234.out _;(with_reducible repeat first|apply bkN|apply bkD|apply bkA);refine blk_far ?_ NB226_234.out _;(with_reducible repeat first|apply bkN|apply bkD|apply bkA);exact BK226.out⟩
                have n4_ : Aside0 (((w55.setCell ⟨gb234,0,none⟩ (.int .i64 t230)).setCell ⟨gb234,1,none⟩ (.slice Ao60 t231.length co60)).heap[gb234]? = some (.cells #[.int .i64 t230,.slice Ao60 t231.length co60] 24 (0,0))):=⟨by(with_reducible repeat first|apply bkN|apply bkD|apply bkA);refine blk_put (cs:=#[.int .i64 t230,.slice none 0 0]) ?_ 1 _ rfl;(with_reducible repeat first|apply bkN|apply bkD|apply bkA);refine blk_put (cs:=#[.int .i64 0,.slice none 0 0]) ?_ 0 _ rfl;(with_reducible repeat first|apply bkN|apply bkD|apply bkA);exact BK234.out⟩
                have n5_ : Aside0 (Below w.heap.size w ((w55.setCell ⟨gb234,0,none⟩ (.int .i64 t230)).setCell ⟨gb234,1,none⟩ (.slice Ao60 t231.length co60))):=⟨by repeat (with_reducible first|exact HB.out|apply bwA|apply bwN|apply bwD|refine bwS ?_ GE224.out|refine bwS ?_ GE225.out|refine bwS ?_ GE226.out|refine bwS ?_ GE234.out)⟩
                (try clear HO233)
                (try clear BK224)
                (try clear BK225)
                (try clear BK226)
                (try clear BK234)
                (try clear HB)
                generalize ((w55.setCell ⟨gb234,0,none⟩ (.int .i64 t230)).setCell ⟨gb234,1,none⟩ (.slice Ao60 t231.length co60)) = w61 at n0_ n1_ n2_ n3_ n4_ n5_ ⊢
                have HO233:=n0_
                have BK224:=n1_
                have BK225:=n2_
                have BK226:=n3_
                have BK234:=n4_
                have HB:=n5_
                clear n0_ n1_ n2_ n3_ n4_ n5_
                have n0_:=mkA (Kd.S_drew HO233.out)
                have n1_:=mkA (bkD BK224.out)
                have n2_:=mkA (bkD BK225.out)
                have n3_:=mkA (bkD BK226.out)
                have n4_:=mkA (bkD BK234.out)
                have n5_:=mkA (bwD HB.out)
                clear HO233
                clear BK224
                clear BK225
                clear BK226
                clear BK234
                clear HB
                have HO233:=n0_
                have BK224:=n1_
                have BK225:=n2_
                have BK226:=n3_
                have BK234:=n4_
                have HB:=n5_
                clear n0_ n1_ n2_ n3_ n4_ n5_
                refine start_ (n:=8) (S:=fun w'=>w'.cell? ⟨gb234,0,none⟩ = some (.int .i64 t230)∧w'.cell? ⟨gb234,1,none⟩ = some (.slice Ao60 t231.length co60)∧w'.cell? ⟨gb225,0,none⟩ = some (.int .i64 a1_0)∧w'.cell? ⟨gb225,1,none⟩ = some (.int .i64 a1_1)∧w'.cell? ⟨gb225,2,none⟩ = some (.slice A1_2 l1_2.length c1_2)) (ds:=[7]) #[false,false,false,false,false,false,false,false] (by kernel_rfl) rfl rfl ⟨(bkC BK234.out 0).trans rfl,(bkC BK234.out 1).trans rfl,(bkC BK225.out 0).trans rfl,(bkC BK225.out 1).trans rfl,(bkC BK225.out 2).trans rfl⟩ (fun hHeld=>?_);refine with_tabW undercroftref04_Send.tab10 undercroftref04_Send.bits10 (fun HT_ HW_=>?_)
                generalize w61.drew = w62 at HO233 BK224 BK225 BK226 BK234 HB hHeld ⊢
                refine pure_ (i:=0) (N:=some 40) (v:=?_) (a':=?_) #[true,false,false,false,false,false,false,false] rfl rfl (any_of HT_.out (by kernel_rfl)) (fun _ _ _ h=>h) (Or.inl ⟨by rfl,?_⟩) ?_ ?_
                rotate_left
                · intro w'
                  go_simp
                  with_reducible rfl
                rotate_left
                · simp only [Act.put,lsA,lsZ,lsS,i64_w,i32_w]
                  rfl
                refine take_ (i:=1) (N:=some 41) (v:=?_) (a':=?_) #[true,true,false,false,false,false,false,false] rfl rfl (take_ofW HT_.out HW_.out (by kernel_rfl)) (fun _ _ _ h=>h) (Or.inl ⟨by rfl,?_⟩) hHeld ?_ ?_
                rotate_left
                · rintro w' ⟨s0,s1,s2,s3,s4⟩
                  go_simp
                  with_reducible rfl
                rotate_left
                · simp only [Act.put,lsA,lsZ,lsS,i64_w,i32_w]
                  rfl
                refine take_ (i:=2) (N:=some 42) (v:=?_) (a':=?_) #[true,true,true,false,false,false,false,false] rfl rfl (take_ofW HT_.out HW_.out (by kernel_rfl)) (fun _ _ _ h=>h) (Or.inl ⟨by rfl,?_⟩) hHeld ?_ ?_
                rotate_left
                · rintro w' ⟨s0,s1,s2,s3,s4⟩
                  go_simp
                  with_reducible rfl
                rotate_left
                · simp only [Act.put,lsA,lsZ,lsS,i64_w,i32_w]
                  rfl
                refine one_ (i:=3) (N:=some 43) #[true,true,true,true,false,false,false,false] rfl rfl (one_of HT_.out (by kernel_rfl)) (by decide) (fun K hK=>?_)
                refine goes_ Try.func34 (by kernel_rfl) rfl #[.agg #[.int .i64 a1_0,.int .i64 a1_1,.slice A1_2 l1_2.length c1_2]] (by rfl) rfl rfl (by(try simp only [List.map_toArray,List.map_cons,List.map_nil]);first|done|rfl) ?_
                with_reducible refine(undercroftref04_copied.calls a1_0 a1_1 _ _ l1_2 t235 t236 t237 _ ?side1 ?side2 A47.out).mono ?_
                (case side1=>repeat (first|exact(Kd.C_below HR1_2.out HB.out)|(with_reducible refine Kd.C_alloc ?_ _)|(with_reducible refine Kd.C_drewN ?_ _)|(with_reducible refine Kd.C_drew ?_)))
                (case side2=>exact HC1_2.out)
                rintro e w63 ⟨v238,rfl,ho0,hb⟩
                refine⟨_,rfl,?_⟩
                have n0_:=mkA (Kd.S_elder' (by(with_reducible repeat (first|apply Kd.S_alloc|apply Kd.S_drewN|apply Kd.S_drew));exact HO233.out) (Kd.R_base ho0) hb)
                have n1_:=mkA (Kd.R_lower ho0 (bwZ (by repeat (with_reducible first|exact HB.out|apply bwA|apply bwN|apply bwD|refine bwS ?_ GE224.out|refine bwS ?_ GE225.out|refine bwS ?_ GE226.out|refine bwS ?_ GE234.out))))
                have n2_:=mkA (bkB (g:=gb224) (o:=.cells #[.int .i64 a0_0,.slice A0_1 l0_1.length c0_1] 24 (0,0)) (by(with_reducible repeat first|apply bkN|apply bkD|apply bkA);exact BK224.out) hb)
                have n3_:=mkA (bkB (g:=gb225) (o:=.cells #[.int .i64 a1_0,.int .i64 a1_1,.slice A1_2 l1_2.length c1_2] 38 (0,0)) (by(with_reducible repeat first|apply bkN|apply bkD|apply bkA);exact BK225.out) hb)
                have n4_:=mkA (bkB (g:=gb226) (o:=.cells #[.int .i64 0,.slice none 0 0] 24 (0,0)) (by(with_reducible repeat first|apply bkN|apply bkD|apply bkA);exact BK226.out) hb)
                have n5_:=mkA (bkB (g:=gb234) (o:=.cells #[.int .i64 t230,.slice Ao60 t231.length co60] 24 (0,0)) (by(with_reducible repeat first|apply bkN|apply bkD|apply bkA);exact BK234.out) hb)
                have n6_:=mkA (below_step (by repeat (with_reducible first|exact HB.out|apply bwA|apply bwN|apply bwD|refine bwS ?_ GE224.out|refine bwS ?_ GE225.out|refine bwS ?_ GE226.out|refine bwS ?_ GE234.out)) hb)
                clear HO233
                clear BK224
                clear BK225
                clear BK226
                clear BK234
                clear HB
                have HO233:=n0_
                have HO239:=n1_
                have BK224:=n2_
                have BK225:=n3_
                have BK226:=n4_
                have BK234:=n5_
                have HB:=n6_
                clear n0_ n1_ n2_ n3_ n4_ n5_ n6_
                (try clear hb)
                (try clear hb2)
                (try clear hk)
                (try clear hi)
                (try clear ho0)
                obtain ⟨Ao65,co65,eo65⟩:=Kd.R_slice HO239.out
                (first|subst eo65|(injection eo65 with f1_ f2_ f3_;have f4_:=f1_.symm;have f5_:=f3_.symm;clear f1_ f2_ f3_;subst f4_;subst f5_))
                refine hK.out _ _ ⟨(bkC BK234.out 0).trans rfl,(bkC BK234.out 1).trans rfl,(bkC BK225.out 0).trans rfl,(bkC BK225.out 1).trans rfl,(bkC BK225.out 2).trans rfl⟩ (fun hHeld=>?_)
                clear hK K
                refine norm_ (a':=?_) ?_ ?_
                rotate_left
                · show Act.put _ (some 43) _ = _
                  simp only [Act.put,lsA,lsZ,lsS,i64_w,i32_w]
                  rfl
                refine one_ (i:=4) (N:=some 44) #[true,true,true,true,true,false,false,false] rfl rfl (one_of HT_.out (by kernel_rfl)) (by decide) (fun K hK=>?_)
                refine value_ (w1:=?_) (v:=?_) (by rfl) rfl ?_ ?_
                rotate_left 2
                · go_simp
                  constructor
                  · rfl
                  · rfl
                refine hK.out _ _ ⟨(bkC (bkA BK234.out _) 0).trans rfl,(bkC (bkA BK234.out _) 1).trans rfl,(bkC (bkA BK225.out _) 0).trans rfl,(bkC (bkA BK225.out _) 1).trans rfl,(bkC (bkA BK225.out _) 2).trans rfl⟩ (fun hHeld=>?_)
                clear hK K
                refine norm_ (a':=?_) ?_ ?_
                rotate_left
                · show Act.put _ (some 44) _ = _
                  simp only [Act.put,lsA,lsZ,lsS,i64_w,i32_w]
                  rfl
                refine one_ (i:=5) (N:=some 45) #[true,true,true,true,true,true,false,false] rfl rfl (one_of HT_.out (by kernel_rfl)) (by decide) (fun K hK=>?_)
                refine Kd.S_append_step k38 (w0:=w) w.heap.size (by rfl) (.tmp 41) (.tmp 44) 22 38 (.agg #[(.int .i64 0),(.int .i64 0),(.slice none 0 0)]) 40 rfl Try.underlying22 info38 rfl (by decide) (by omega) (.slice Ao60 t231.length co60) t231 (⟨t235,t236,t237⟩ : S38) [.int .i64 t235,.int .i64 t236,.slice Ao65 t237.length co65] (fun k_=>k_ ≠ gb225) (fun k_=>some k_ = (.slice Ao65 t237.length co65 : Value).ownBlock) rfl rfl ?aP (fun k_ hk_=>((Kd.R_mono (ok':=fun k_=>((fun k_=>k_ ≠ gb225)) k_∧some k_ ≠ (.slice Ao60 t231.length co60 : Value).ownBlock) (Kd.R_types (Kd.R_apart' (HO239.out) (Kd.S_typed HO233.out) (by decide)) BK225.out (by decide)) (fun k_ hk=>⟨hk.2,hk.1.2⟩))).1 k_ hk_.symm) ?aF ?aO ?aB ?aS ?aL ?_
                (case aP=>exact k38_mkM _ _ _ (⟨t235,t236,t237⟩ : S38) (Kd.R_mono (Kd.R_tight rfl (Kd.R_mono (ok':=fun k_=>((fun k_=>k_ ≠ gb225)) k_∧some k_ ≠ (.slice Ao60 t231.length co60 : Value).ownBlock) (Kd.R_types (Kd.R_apart' (HO239.out) (Kd.S_typed HO233.out) (by decide)) BK225.out (by decide)) (fun k_ hk=>⟨hk.2,hk.1.2⟩))) (fun _ h_=>h_)))
                (case aB=>exact(by repeat (with_reducible first|exact HB.out|apply bwA|apply bwN|apply bwD|refine bwS ?_ GE224.out|refine bwS ?_ GE225.out|refine bwS ?_ GE226.out|refine bwS ?_ GE234.out)))
                (case aF=>exact(fun k_ hk=>Kd.freshB (g:=gb225) (o:=.cells #[.int .i64 a1_0,.int .i64 a1_1,.slice A1_2 l1_2.length c1_2] 38 (0,0)) (by(with_reducible repeat first|apply bkN|apply bkD|apply bkA);exact BK225.out) k_ hk))
                (case aO=>exact(by(with_reducible repeat (first|apply Kd.S_alloc|apply Kd.S_drewN|apply Kd.S_drew));exact Kd.S_mono HO233.out (fun k_ hk=>⟨hk.1,fun e_=>hk.2 e_⟩)))
                (case aS=>exact(bwZ (by repeat (with_reducible first|exact HB.out|apply bwA|apply bwN|apply bwD|refine bwS ?_ GE224.out|refine bwS ?_ GE225.out|refine bwS ?_ GE226.out|refine bwS ?_ GE234.out))))
                (case aL=>have:=LMc48.out;omega)
                intro v241 w64 ho hb hg hat
                rw [← Ny240.out] at ho
                have n0_:=mkA (blk_grown (g:=gb224) (o:=.cells #[.int .i64 a0_0,.slice A0_1 l0_1.length c0_1] 24 (0,0)) (by(with_reducible repeat first|apply bkN|apply bkD|apply bkA);exact BK224.out) hg (Kd.S_ne HO233.out BK224.out (by decide)))
                have n1_:=mkA (blk_grown (g:=gb225) (o:=.cells #[.int .i64 a1_0,.int .i64 a1_1,.slice A1_2 l1_2.length c1_2] 38 (0,0)) (by(with_reducible repeat first|apply bkN|apply bkD|apply bkA);exact BK225.out) hg (Kd.S_away HO233.out (fun _ hk=>hk.1)))
                have n2_:=mkA (blk_grown (g:=gb226) (o:=.cells #[.int .i64 0,.slice none 0 0] 24 (0,0)) (by(with_reducible repeat first|apply bkN|apply bkD|apply bkA);exact BK226.out) hg (Kd.S_ne HO233.out BK226.out (by decide)))
                have n3_:=mkA (blk_grown (g:=gb234) (o:=.cells #[.int .i64 t230,.slice Ao60 t231.length co60] 24 (0,0)) (by(with_reducible repeat first|apply bkN|apply bkD|apply bkA);exact BK234.out) hg (Kd.S_ne HO233.out BK234.out (by decide)))
                have n4_:=mkA (hb)
                have n5_:=mkA (ho)
                clear BK224
                clear BK225
                clear BK226
                clear BK234
                clear HB
                clear HO233
                clear HO239
                have BK224:=n0_
                have BK225:=n1_
                have BK226:=n2_
                have BK234:=n3_
                have HB:=n4_
                have HO242:=n5_
                clear n0_ n1_ n2_ n3_ n4_ n5_
                clear ho hb hg hat
                obtain ⟨Ao66,co66,eo66⟩:=Kd.S_slice HO242.out
                (first|subst eo66|(injection eo66 with f1_ f2_ f3_;have f4_:=f1_.symm;have f5_:=f3_.symm;clear f1_ f2_ f3_;subst f4_;subst f5_))
                refine hK.out _ _ ⟨(bkC BK234.out 0).trans rfl,(bkC BK234.out 1).trans rfl,(bkC BK225.out 0).trans rfl,(bkC BK225.out 1).trans rfl,(bkC BK225.out 2).trans rfl⟩ (fun hHeld=>?_)
                clear hK K
                refine norm_ (a':=?_) ?_ ?_
                rotate_left
                · show Act.put _ (some 45) _ = _
                  simp only [Act.put,lsA,lsZ,lsS,i64_w,i32_w]
                  rfl
                refine pure_ (i:=6) (N:=some 46) (v:=?_) (a':=?_) #[true,true,true,true,true,true,true,false] rfl rfl (any_of HT_.out (by kernel_rfl)) (fun _ _ _ h=>h) (Or.inl ⟨by rfl,?_⟩) ?_ ?_
                rotate_left
                · intro w'
                  go_simp
                  with_reducible rfl
                rotate_left
                · simp only [Act.put,lsA,lsZ,lsS,i64_w,i32_w]
                  rfl
                refine last_ (i:=7) (N:=none) #[true,true,true,true,true,true,true,true] rfl rfl (one_of HT_.out (by kernel_rfl)) (by decide) (fun K hK=>?_)
                have hs67 : w64.cell? ⟨gb234,1,none⟩ = some (.slice Ao60 t231.length co60):=(bkC BK234.out 1).trans rfl
                have hfs67:=bkF BK234.out 1
                have hns67_0:=NB224_234.out
                have hns67_1:=NB225_234.out
                have hns67_2:=NB226_234.out
                have hms67_0:=NB234_224.out
                have hms67_1:=NB234_225.out
                have hms67_2:=NB234_226.out
                refine skip_ (w1:=?_) (by rfl) rfl ?_ ?_
                rotate_left
                · go_simp
                  rfl
                refine hK.out _ _ ?_
                clear hK K
                refine done_ (done_of HT_.out (by kernel_rfl)) ?_
                have hcz68_0 : w64.cell? ⟨gb234,0,none⟩ = some (.int .i64 t230):=(bkC BK234.out 0).trans rfl
                have hcz68_1 : w64.cell? ⟨gb234,1,none⟩ = some (.slice Ao60 t231.length co60):=(bkC BK234.out 1).trans rfl
                have hfz68_0:=bkF BK234.out 0
                have hfz68_1:=bkF BK234.out 1
                have hcz69_0 : w64.cell? ⟨gb226,0,none⟩ = some (.int .i64 0):=(bkC BK226.out 0).trans rfl
                have hcz69_1 : w64.cell? ⟨gb226,1,none⟩ = some (.slice none 0 0):=(bkC BK226.out 1).trans rfl
                have hfz69_0:=bkF BK226.out 0
                have hfz69_1:=bkF BK226.out 1
                try go_wp2
                refine bodyPost_ret (results_ctt rfl _ _ gb226 24 #[.int .i64 t230,.slice Ao66 y240.length co66] (0,0) _ rfl (by(with_reducible repeat first|apply bkN|apply bkD|apply bkA);refine blk_put (cs:=#[.int .i64 t230,.slice none 0 0]) ?_ 1 _ rfl;(with_reducible repeat first|apply bkN|apply bkD|apply bkA);refine blk_put (cs:=#[.int .i64 0,.slice none 0 0]) ?_ 0 _ rfl;(with_reducible repeat first|apply bkN|apply bkD|apply bkA);refine blk_far ?_ NB226_234.out _;(with_reducible repeat first|apply bkN|apply bkD|apply bkA);exact BK226.out) Try.underlying24 rfl (by kernel_rfl)) rfl ?_
                exact⟨_,by first|rfl|(simp [errW_none,errW_some] <;> rfl)|(simp [*,errW_none,errW_some] <;> rfl),by(with_reducible repeat (first|apply Kd.S_alloc|apply Kd.S_drewN|apply Kd.S_drew));exact Kd.S_mono (Kd.S_far (p:=⟨gb226,1,none⟩) (Kd.S_far (p:=⟨gb226,0,none⟩) (Kd.S_far (p:=⟨gb234,1,none⟩) (Kd.S_types (Kd.S_types HO242.out BK234.out (by decide)) BK226.out (by decide)) (fun _ hk=>hk.1.2) (.slice Ao66 y240.length co66)) (fun _ hk=>hk.2) (.int .i64 t230)) (fun _ hk=>hk.2) (.slice Ao66 y240.length co66)) (fun _ hk=>trivial),by repeat (with_reducible first|exact HB.out|apply bwA|apply bwN|apply bwD|refine bwS ?_ GE224.out|refine bwS ?_ GE225.out|refine bwS ?_ GE226.out|refine bwS ?_ GE234.out)⟩
              · rw [if_neg c48] at H
                exact absurd H (by simp)
  · rw [if_neg c4] at H
    have c4b0 : (t227 == 0) = false:=beq_eq_false_iff_ne.mpr c4
    have c4b1 : (t227 != 0) = true:=bne_iff_ne.mpr c4
    simp only [Option.some.injEq,Prod.mk.injEq] at H
    obtain ⟨rfl,rfl,rfl,rfl⟩:=H
    go_enter Try.func14,Try.ntmps14
    go_wp2_with (first|((with_reducible refine gate_dst (N:=2) rfl ?_);refine box_event ?hg (N:=2) ?hd (cs:=#[.int .i64 a0_0,.slice A0_1 l0_1.length c0_1]) (t:=24) ?hr ?_;(case hd=>rfl);(case hg=>rfl);(case hr=>first|(go_simp;done)|(go_simp;rfl));intro gb224 hg w70 hbox hb;have n0_:=mkA (below_step (by repeat (with_reducible first|exact HB.out|apply bwA|apply bwN|apply bwD)) hb);have n1_:=mkA (hbox);have n2_:=mkA ((by rw [hg];exact(bwZ (by repeat (with_reducible first|exact HB.out|apply bwA|apply bwN|apply bwD))) : w.heap.size ≤ gb224));have n3_:=mkA ((by rw [hg];exact(bwZ (by repeat (with_reducible first|exact HB.out|apply bwA|apply bwN|apply bwD))) : w.heap.size ≤ gb224));clear HB;have HB:=n0_;have BK224:=n1_;have GW224:=n2_;have GE224:=n3_;clear n0_ n1_ n2_ n3_;clear hb hbox hg)|((with_reducible refine gate_dst (N:=3) rfl ?_);refine box_event ?hg (N:=3) ?hd (cs:=#[.int .i64 a1_0,.int .i64 a1_1,.slice A1_2 l1_2.length c1_2]) (t:=38) ?hr ?_;(case hd=>rfl);(case hg=>rfl);(case hr=>first|(go_simp;done)|(go_simp;rfl));intro gb225 hg w71 hbox hb;have n0_:=mkA (bkB (g:=gb224) (o:=.cells #[.int .i64 a0_0,.slice A0_1 l0_1.length c0_1] 24 (0,0)) (by(with_reducible repeat first|apply bkN|apply bkD|apply bkA);exact BK224.out) hb);have n1_:=mkA (below_step (by repeat (with_reducible first|exact HB.out|apply bwA|apply bwN|apply bwD|refine bwS ?_ GE224.out)) hb);have n2_:=mkA (hbox);have n3_:=mkA ((by rw [hg];exact(bwZ (by repeat (with_reducible first|exact HB.out|apply bwA|apply bwN|apply bwD|refine bwS ?_ GE224.out))) : w.heap.size ≤ gb225));have n4_:=mkA ((by rw [hg];exact(bwZ (by repeat (with_reducible first|exact HB.out|apply bwA|apply bwN|apply bwD|refine bwS ?_ GE224.out))) : w.heap.size ≤ gb225));have n5_:=mkA ((by rw [hg];exact Nat.ne_of_lt (blk_lt (g:=gb224) (o:=.cells #[.int .i64 a0_0,.slice A0_1 l0_1.length c0_1] 24 (0,0)) (by(with_reducible repeat first|apply bkN|apply bkD|apply bkA);exact BK224.out)) : gb224 ≠ gb225));have n6_:=mkA ((by rw [hg];exact Nat.ne_of_gt (blk_lt (g:=gb224) (o:=.cells #[.int .i64 a0_0,.slice A0_1 l0_1.length c0_1] 24 (0,0)) (by(with_reducible repeat first|apply bkN|apply bkD|apply bkA);exact BK224.out)) : gb225 ≠ gb224));clear BK224;clear HB;have BK224:=n0_;have HB:=n1_;have BK225:=n2_;have GW225:=n3_;have GE225:=n4_;have NB224_225:=n5_;have NB225_224:=n6_;clear n0_ n1_ n2_ n3_ n4_ n5_ n6_;clear hb hbox hg)|((with_reducible refine gate_dst (N:=4) rfl ?_);refine box_event ?hg (N:=4) ?hd (cs:=#[.int .i64 0,.slice none 0 0]) (t:=24) ?hr ?_;(case hd=>rfl);(case hg=>rfl);(case hr=>first|(go_simp;done)|(go_simp;rfl));intro gb226 hg w72 hbox hb;have n0_:=mkA (bkB (g:=gb224) (o:=.cells #[.int .i64 a0_0,.slice A0_1 l0_1.length c0_1] 24 (0,0)) (by(with_reducible repeat first|apply bkN|apply bkD|apply bkA);exact BK224.out) hb);have n1_:=mkA (bkB (g:=gb225) (o:=.cells #[.int .i64 a1_0,.int .i64 a1_1,.slice A1_2 l1_2.length c1_2] 38 (0,0)) (by(with_reducible repeat first|apply bkN|apply bkD|apply bkA);exact BK225.out) hb);have n2_:=mkA (below_step (by repeat (with_reducible first|exact HB.out|apply bwA|apply bwN|apply bwD|refine bwS ?_ GE224.out|refine bwS ?_ GE225.out)) hb);have n3_:=mkA (hbox);have n4_:=mkA ((by rw [hg];exact(bwZ (by repeat (with_reducible first|exact HB.out|apply bwA|apply bwN|apply bwD|refine bwS ?_ GE224.out|refine bwS ?_ GE225.out))) : w.heap.size ≤ gb226));have n5_:=mkA ((by rw [hg];exact(bwZ (by repeat (with_reducible first|exact HB.out|apply bwA|apply bwN|apply bwD|refine bwS ?_ GE224.out|refine bwS ?_ GE225.out))) : w.heap.size ≤ gb226));have n6_:=mkA ((by rw [hg];exact Nat.ne_of_lt (blk_lt (g:=gb224) (o:=.cells #[.int .i64 a0_0,.slice A0_1 l0_1.length c0_1] 24 (0,0)) (by(with_reducible repeat first|apply bkN|apply bkD|apply bkA);exact BK224.out)) : gb224 ≠ gb226));have n7_:=mkA ((by rw [hg];exact Nat.ne_of_gt (blk_lt (g:=gb224) (o:=.cells #[.int .i64 a0_0,.slice A0_1 l0_1.length c0_1] 24 (0,0)) (by(with_reducible repeat first|apply bkN|apply bkD|apply bkA);exact BK224.out)) : gb226 ≠ gb224));have n8_:=mkA ((by rw [hg];exact Nat.ne_of_lt (blk_lt (g:=gb225) (o:=.cells #[.int .i64 a1_0,.int .i64 a1_1,.slice A1_2 l1_2.length c1_2] 38 (0,0)) (by(with_reducible repeat first|apply bkN|apply bkD|apply bkA);exact BK225.out)) : gb225 ≠ gb226));have n9_:=mkA ((by rw [hg];exact Nat.ne_of_gt (blk_lt (g:=gb225) (o:=.cells #[.int .i64 a1_0,.int .i64 a1_1,.slice A1_2 l1_2.length c1_2] 38 (0,0)) (by(with_reducible repeat first|apply bkN|apply bkD|apply bkA);exact BK225.out)) : gb226 ≠ gb225));clear BK224;clear BK225;clear HB;have BK224:=n0_;have BK225:=n1_;have HB:=n2_;have BK226:=n3_;have GW226:=n4_;have GE226:=n5_;have NB224_226:=n6_;have NB226_224:=n7_;have NB225_226:=n8_;have NB226_225:=n9_;clear n0_ n1_ n2_ n3_ n4_ n5_ n6_ n7_ n8_ n9_;clear hb hbox hg;have hnb73:=NB224_225.out;have hnc73:=NB225_224.out;have hnb74:=NB224_226.out;have hnc74:=NB226_224.out;have hcz75_0 : w72.cell? ⟨gb224,0,none⟩ = some (.int .i64 a0_0):=(bkC BK224.out 0).trans rfl;have hcz75_1 : w72.cell? ⟨gb224,1,none⟩ = some (.slice A0_1 l0_1.length c0_1):=(bkC BK224.out 1).trans rfl;have hfz75_0:=bkF BK224.out 0;have hfz75_1:=bkF BK224.out 1)|((with_reducible refine gate_callee (f:=11) rfl ?_);refine goesL_ (some 10) rfl rfl Try.func11 (by kernel_rfl) rfl #[.agg #[.int .i64 a0_0,.slice A0_1 l0_1.length c0_1]] rfl (by(try simp only [List.map_toArray,List.map_cons,List.map_nil]);first|done|rfl) ?_;(with_reducible refine(undercroftref04_Check.calls k a0_0 _ _ l0_1 t227 _ ?side1 ?side2 A3.out).mono ?_);(case side1=>repeat (first|exact(Kd.C_below HR0_1.out HB.out)|(with_reducible refine Kd.C_alloc ?_ _)|(with_reducible refine Kd.C_drewN ?_ _)|(with_reducible refine Kd.C_drew ?_)));(case side2=>exact HC0_1.out);rintro e w76 ⟨rfl,hb⟩;refine⟨_,rfl,?_⟩;have n0_:=mkA (bkB (g:=gb224) (o:=.cells #[.int .i64 a0_0,.slice A0_1 l0_1.length c0_1] 24 (0,0)) (by(with_reducible repeat first|apply bkN|apply bkD|apply bkA);exact BK224.out) hb);have n1_:=mkA (bkB (g:=gb225) (o:=.cells #[.int .i64 a1_0,.int .i64 a1_1,.slice A1_2 l1_2.length c1_2] 38 (0,0)) (by(with_reducible repeat first|apply bkN|apply bkD|apply bkA);exact BK225.out) hb);have n2_:=mkA (bkB (g:=gb226) (o:=.cells #[.int .i64 0,.slice none 0 0] 24 (0,0)) (by(with_reducible repeat first|apply bkN|apply bkD|apply bkA);exact BK226.out) hb);have n3_:=mkA (below_step (by repeat (with_reducible first|exact HB.out|apply bwA|apply bwN|apply bwD|refine bwS ?_ GE224.out|refine bwS ?_ GE225.out|refine bwS ?_ GE226.out)) hb);clear BK224;clear BK225;clear BK226;clear HB;have BK224:=n0_;have BK225:=n1_;have BK226:=n2_;have HB:=n3_;clear n0_ n1_ n2_ n3_;(try clear hb);(try clear hb2);(try clear hk);(try clear hi);have hnb77:=NB226_225.out;have hnc77:=NB225_226.out;have hcz78_0 : w76.cell? ⟨gb226,0,none⟩ = some (.int .i64 0):=(bkC BK226.out 0).trans rfl;have hcz78_1 : w76.cell? ⟨gb226,1,none⟩ = some (.slice none 0 0):=(bkC BK226.out 1).trans rfl;have hfz78_0:=bkF BK226.out 0;have hfz78_1:=bkF BK226.out 1))
    refine bodyPost_ret (results_ctt rfl _ _ gb226 24 #[.int .i64 0,.slice none 0 0] (0,0) _ rfl (by(with_reducible repeat first|apply bkN|apply bkD|apply bkA);refine blk_put (cs:=#[.int .i64 0,.slice none 0 0]) ?_ 1 _ rfl;(with_reducible repeat first|apply bkN|apply bkD|apply bkA);refine blk_put (cs:=#[.int .i64 0,.slice none 0 0]) ?_ 0 _ rfl;(with_reducible repeat first|apply bkN|apply bkD|apply bkA);exact BK226.out) Try.underlying24 rfl (by kernel_rfl)) rfl ?_
    exact⟨_,by first|rfl|(simp [errW_none,errW_some] <;> rfl)|(simp [*,errW_none,errW_some] <;> rfl),by first|exact Kd.S_nil _ _ _ _ _|exact Kd.N_nil _ _ _ _ _|exact Kd.V_nil _ _ _ _ _|exact Kd.Q_nil _ _ _ _ _|exact Kd.R_nil _ _ _ _ _,by repeat (with_reducible first|exact HB.out|apply bwA|apply bwN|apply bwD|refine bwS ?_ GE224.out|refine bwS ?_ GE225.out|refine bwS ?_ GE226.out)⟩

/-! ### net_asked: function 35 -/
def net_asked.f (a0_0 : Int) (l0_1 : List (S40)) (a1 : Int) : Option (Int):=(net_Check.f a0_0 l0_1).bind fun t244=>(if t244 = 0 then(if a1 < 0 then(some 71) else(if a1 ≥ (l0_1.length : Int) then(some 71) else(some 0))) else(some t244))
set_option maxHeartbeats 8000000 in
set_option maxRecDepth 100000 in
theorem net_asked.calls (a0_0 : Int) (A0_1 : Option Addr) (c0_1 : Nat) (l0_1 : List (S40)) (a1 : Int) (r : Int) (w : World) (hr0_1 : Kd.C k40 w A0_1 l0_1.length l0_1) (hc0_1 : l0_1.length ≤ c0_1) (h : net_asked.f a0_0 l0_1 a1 = some r) :
    Calls Try.prog 35 #[.agg #[.int .i64 a0_0,.slice A0_1 l0_1.length c0_1],.int .i64 a1] w fun e w'=>e = .returned (.int .i64 r)∧Below w.heap.size w w':=by
  have hu32:=Try.underlying32
  have HR0_1:=mkA hr0_1
  have HC0_1:=mkA hc0_1
  clear hr0_1 hc0_1
  have HB:=mkA (Below.refl w.heap.size w)
  have H : ((net_Check.f a0_0 l0_1).bind fun t244=>(if t244 = 0 then(if a1 < 0 then(some 71) else(if a1 ≥ (l0_1.length : Int) then(some 71) else(some 0))) else(some t244))) = some r:=h
  clear h
  replace H:=Option.bind_eq_some_iff.mp H
  obtain ⟨t244,A30,H⟩:=H
  replace H : (if t244 = 0 then(if a1 < 0 then(some 71) else(if a1 ≥ (l0_1.length : Int) then(some 71) else(some 0))) else(some t244)) = some r:=H
  have A3:=mkA A30
  clear A30
  by_cases c4 : t244 = 0
  · rw [if_pos c4] at H
    have c4b0 : (t244 == 0) = true:=beq_iff_eq.mpr c4
    have c4b1 : (t244 != 0) = false:=bne_eq_false_iff_eq.mpr c4
    clear c4
    by_cases c5 : a1 < 0
    · rw [if_pos c5] at H
      have c5b0 : decide (a1 < 0) = true:=decide_eq_true c5
      clear c5
      obtain rfl:=Option.some.inj H
      go_enter Try.func35,Try.ntmps35
      go_wp2_with (first|((with_reducible refine gate_dst (N:=2) rfl ?_);(try (refine gate_guard (by rfl) ?_;dsimp only));refine box_event ?hg (N:=2) ?hd (cs:=#[.int .i64 a0_0,.slice A0_1 l0_1.length c0_1]) (t:=32) ?hr ?_;(case hd=>rfl);(case hg=>rfl);(case hr=>first|(go_simp;done)|(go_simp;rfl));intro gb243 hg w6 hbox hb;have n0_:=mkA (below_step (by repeat (with_reducible first|exact HB.out|apply bwA|apply bwN|apply bwD)) hb);have n1_:=mkA (hbox);have n2_:=mkA ((by rw [hg];exact(bwZ (by repeat (with_reducible first|exact HB.out|apply bwA|apply bwN|apply bwD))) : w.heap.size ≤ gb243));have n3_:=mkA ((by rw [hg];exact(bwZ (by repeat (with_reducible first|exact HB.out|apply bwA|apply bwN|apply bwD))) : w.heap.size ≤ gb243));clear HB;have HB:=n0_;have BK243:=n1_;have GW243:=n2_;have GE243:=n3_;clear n0_ n1_ n2_ n3_;clear hb hbox hg;have hcz7_0 : w6.cell? ⟨gb243,0,none⟩ = some (.int .i64 a0_0):=(bkC BK243.out 0).trans rfl;have hcz7_1 : w6.cell? ⟨gb243,1,none⟩ = some (.slice A0_1 l0_1.length c0_1):=(bkC BK243.out 1).trans rfl;have hfz7_0:=bkF BK243.out 0;have hfz7_1:=bkF BK243.out 1)|((with_reducible refine gate_callee (f:=27) rfl ?_);refine goesL_ (some 7) rfl rfl Try.func27 (by kernel_rfl) rfl #[.agg #[.int .i64 a0_0,.slice A0_1 l0_1.length c0_1]] rfl (by(try simp only [List.map_toArray,List.map_cons,List.map_nil]);first|done|rfl) ?_;(with_reducible refine(net_Check.calls a0_0 _ _ l0_1 t244 _ ?side1 ?side2 A3.out).mono ?_);(case side1=>repeat (first|exact(Kd.C_below HR0_1.out HB.out)|(with_reducible refine Kd.C_alloc ?_ _)|(with_reducible refine Kd.C_drewN ?_ _)|(with_reducible refine Kd.C_drew ?_)));(case side2=>exact HC0_1.out);rintro e w8 ⟨rfl,hb⟩;refine⟨_,rfl,?_⟩;have n0_:=mkA (bkB (g:=gb243) (o:=.cells #[.int .i64 a0_0,.slice A0_1 l0_1.length c0_1] 32 (0,0)) (by(with_reducible repeat first|apply bkN|apply bkD|apply bkA);exact BK243.out) hb);have n1_:=mkA (below_step (by repeat (with_reducible first|exact HB.out|apply bwA|apply bwN|apply bwD|refine bwS ?_ GE243.out)) hb);clear BK243;clear HB;have BK243:=n0_;have HB:=n1_;clear n0_ n1_;(try clear hb);(try clear hb2);(try clear hk);(try clear hi)))
      go_ret
      exact⟨by first|rfl|(simp [errW_none,errW_some] <;> rfl)|(simp [*,errW_none,errW_some] <;> rfl),by repeat (with_reducible first|exact HB.out|apply bwA|apply bwN|apply bwD|refine bwS ?_ GE243.out)⟩
    · rw [if_neg c5] at H
      have c5b0 : decide (a1 < 0) = false:=decide_eq_false c5
      clear c5
      by_cases c9 : a1 ≥ (l0_1.length : Int)
      · rw [if_pos c9] at H
        have c9b0 : decide ((l0_1.length : Int) ≤ a1) = true:=decide_eq_true c9
        clear c9
        obtain rfl:=Option.some.inj H
        go_enter Try.func35,Try.ntmps35
        go_wp2_with (first|((with_reducible refine gate_dst (N:=2) rfl ?_);(try (refine gate_guard (by rfl) ?_;dsimp only));refine box_event ?hg (N:=2) ?hd (cs:=#[.int .i64 a0_0,.slice A0_1 l0_1.length c0_1]) (t:=32) ?hr ?_;(case hd=>rfl);(case hg=>rfl);(case hr=>first|(go_simp;done)|(go_simp;rfl));intro gb243 hg w10 hbox hb;have n0_:=mkA (below_step (by repeat (with_reducible first|exact HB.out|apply bwA|apply bwN|apply bwD)) hb);have n1_:=mkA (hbox);have n2_:=mkA ((by rw [hg];exact(bwZ (by repeat (with_reducible first|exact HB.out|apply bwA|apply bwN|apply bwD))) : w.heap.size ≤ gb243));have n3_:=mkA ((by rw [hg];exact(bwZ (by repeat (with_reducible first|exact HB.out|apply bwA|apply bwN|apply bwD))) : w.heap.size ≤ gb243));clear HB;have HB:=n0_;have BK243:=n1_;have GW243:=n2_;have GE243:=n3_;clear n0_ n1_ n2_ n3_;clear hb hbox hg;have hcz11_0 : w10.cell? ⟨gb243,0,none⟩ = some (.int .i64 a0_0):=(bkC BK243.out 0).trans rfl;have hcz11_1 : w10.cell? ⟨gb243,1,none⟩ = some (.slice A0_1 l0_1.length c0_1):=(bkC BK243.out 1).trans rfl;have hfz11_0:=bkF BK243.out 0;have hfz11_1:=bkF BK243.out 1)|((with_reducible refine gate_callee (f:=27) rfl ?_);refine goesL_ (some 7) rfl rfl Try.func27 (by kernel_rfl) rfl #[.agg #[.int .i64 a0_0,.slice A0_1 l0_1.length c0_1]] rfl (by(try simp only [List.map_toArray,List.map_cons,List.map_nil]);first|done|rfl) ?_;(with_reducible refine(net_Check.calls a0_0 _ _ l0_1 t244 _ ?side1 ?side2 A3.out).mono ?_);(case side1=>repeat (first|exact(Kd.C_below HR0_1.out HB.out)|(with_reducible refine Kd.C_alloc ?_ _)|(with_reducible refine Kd.C_drewN ?_ _)|(with_reducible refine Kd.C_drew ?_)));(case side2=>exact HC0_1.out);rintro e w12 ⟨rfl,hb⟩;refine⟨_,rfl,?_⟩;have n0_:=mkA (bkB (g:=gb243) (o:=.cells #[.int .i64 a0_0,.slice A0_1 l0_1.length c0_1] 32 (0,0)) (by(with_reducible repeat first|apply bkN|apply bkD|apply bkA);exact BK243.out) hb);have n1_:=mkA (below_step (by repeat (with_reducible first|exact HB.out|apply bwA|apply bwN|apply bwD|refine bwS ?_ GE243.out)) hb);clear BK243;clear HB;have BK243:=n0_;have HB:=n1_;clear n0_ n1_;(try clear hb);(try clear hb2);(try clear hk);(try clear hi);have hcz13_0 : w12.cell? ⟨gb243,0,none⟩ = some (.int .i64 a0_0):=(bkC BK243.out 0).trans rfl;have hcz13_1 : w12.cell? ⟨gb243,1,none⟩ = some (.slice A0_1 l0_1.length c0_1):=(bkC BK243.out 1).trans rfl;have hfz13_0:=bkF BK243.out 0;have hfz13_1:=bkF BK243.out 1))
        go_ret
        exact⟨by first|rfl|(simp [errW_none,errW_some] <;> rfl)|(simp [*,errW_none,errW_some] <;> rfl),by repeat (with_reducible first|exact HB.out|apply bwA|apply bwN|apply bwD|refine bwS ?_ GE243.out)⟩
      · rw [if_neg c9] at H
        have c9b0 : decide ((l0_1.length : Int) ≤ a1) = false:=decide_eq_false c9
        clear c9
        obtain rfl:=Option.some.inj H
        go_enter Try.func35,Try.ntmps35
        go_wp2_with (first|((with_reducible refine gate_dst (N:=2) rfl ?_);(try (refine gate_guard (by rfl) ?_;dsimp only));refine box_event ?hg (N:=2) ?hd (cs:=#[.int .i64 a0_0,.slice A0_1 l0_1.length c0_1]) (t:=32) ?hr ?_;(case hd=>rfl);(case hg=>rfl);(case hr=>first|(go_simp;done)|(go_simp;rfl));intro gb243 hg w14 hbox hb;have n0_:=mkA (below_step (by repeat (with_reducible first|exact HB.out|apply bwA|apply bwN|apply bwD)) hb);have n1_:=mkA (hbox);have n2_:=mkA ((by rw [hg];exact(bwZ (by repeat (with_reducible first|exact HB.out|apply bwA|apply bwN|apply bwD))) : w.heap.size ≤ gb243));have n3_:=mkA ((by rw [hg];exact(bwZ (by repeat (with_reducible first|exact HB.out|apply bwA|apply bwN|apply bwD))) : w.heap.size ≤ gb243));clear HB;have HB:=n0_;have BK243:=n1_;have GW243:=n2_;have GE243:=n3_;clear n0_ n1_ n2_ n3_;clear hb hbox hg;have hcz15_0 : w14.cell? ⟨gb243,0,none⟩ = some (.int .i64 a0_0):=(bkC BK243.out 0).trans rfl;have hcz15_1 : w14.cell? ⟨gb243,1,none⟩ = some (.slice A0_1 l0_1.length c0_1):=(bkC BK243.out 1).trans rfl;have hfz15_0:=bkF BK243.out 0;have hfz15_1:=bkF BK243.out 1)|((with_reducible refine gate_callee (f:=27) rfl ?_);refine goesL_ (some 7) rfl rfl Try.func27 (by kernel_rfl) rfl #[.agg #[.int .i64 a0_0,.slice A0_1 l0_1.length c0_1]] rfl (by(try simp only [List.map_toArray,List.map_cons,List.map_nil]);first|done|rfl) ?_;(with_reducible refine(net_Check.calls a0_0 _ _ l0_1 t244 _ ?side1 ?side2 A3.out).mono ?_);(case side1=>repeat (first|exact(Kd.C_below HR0_1.out HB.out)|(with_reducible refine Kd.C_alloc ?_ _)|(with_reducible refine Kd.C_drewN ?_ _)|(with_reducible refine Kd.C_drew ?_)));(case side2=>exact HC0_1.out);rintro e w16 ⟨rfl,hb⟩;refine⟨_,rfl,?_⟩;have n0_:=mkA (bkB (g:=gb243) (o:=.cells #[.int .i64 a0_0,.slice A0_1 l0_1.length c0_1] 32 (0,0)) (by(with_reducible repeat first|apply bkN|apply bkD|apply bkA);exact BK243.out) hb);have n1_:=mkA (below_step (by repeat (with_reducible first|exact HB.out|apply bwA|apply bwN|apply bwD|refine bwS ?_ GE243.out)) hb);clear BK243;clear HB;have BK243:=n0_;have HB:=n1_;clear n0_ n1_;(try clear hb);(try clear hb2);(try clear hk);(try clear hi);have hcz17_0 : w16.cell? ⟨gb243,0,none⟩ = some (.int .i64 a0_0):=(bkC BK243.out 0).trans rfl;have hcz17_1 : w16.cell? ⟨gb243,1,none⟩ = some (.slice A0_1 l0_1.length c0_1):=(bkC BK243.out 1).trans rfl;have hfz17_0:=bkF BK243.out 0;have hfz17_1:=bkF BK243.out 1))
        go_ret
        exact⟨by first|rfl|(simp [errW_none,errW_some] <;> rfl)|(simp [*,errW_none,errW_some] <;> rfl),by repeat (with_reducible first|exact HB.out|apply bwA|apply bwN|apply bwD|refine bwS ?_ GE243.out)⟩
  · rw [if_neg c4] at H
    have c4b0 : (t244 == 0) = false:=beq_eq_false_iff_ne.mpr c4
    have c4b1 : (t244 != 0) = true:=bne_iff_ne.mpr c4
    obtain rfl:=Option.some.inj H
    go_enter Try.func35,Try.ntmps35
    go_wp2_with (first|((with_reducible refine gate_dst (N:=2) rfl ?_);(try (refine gate_guard (by rfl) ?_;dsimp only));refine box_event ?hg (N:=2) ?hd (cs:=#[.int .i64 a0_0,.slice A0_1 l0_1.length c0_1]) (t:=32) ?hr ?_;(case hd=>rfl);(case hg=>rfl);(case hr=>first|(go_simp;done)|(go_simp;rfl));intro gb243 hg w18 hbox hb;have n0_:=mkA (below_step (by repeat (with_reducible first|exact HB.out|apply bwA|apply bwN|apply bwD)) hb);have n1_:=mkA (hbox);have n2_:=mkA ((by rw [hg];exact(bwZ (by repeat (with_reducible first|exact HB.out|apply bwA|apply bwN|apply bwD))) : w.heap.size ≤ gb243));have n3_:=mkA ((by rw [hg];exact(bwZ (by repeat (with_reducible first|exact HB.out|apply bwA|apply bwN|apply bwD))) : w.heap.size ≤ gb243));clear HB;have HB:=n0_;have BK243:=n1_;have GW243:=n2_;have GE243:=n3_;clear n0_ n1_ n2_ n3_;clear hb hbox hg;have hcz19_0 : w18.cell? ⟨gb243,0,none⟩ = some (.int .i64 a0_0):=(bkC BK243.out 0).trans rfl;have hcz19_1 : w18.cell? ⟨gb243,1,none⟩ = some (.slice A0_1 l0_1.length c0_1):=(bkC BK243.out 1).trans rfl;have hfz19_0:=bkF BK243.out 0;have hfz19_1:=bkF BK243.out 1)|((with_reducible refine gate_callee (f:=27) rfl ?_);refine goesL_ (some 7) rfl rfl Try.func27 (by kernel_rfl) rfl #[.agg #[.int .i64 a0_0,.slice A0_1 l0_1.length c0_1]] rfl (by(try simp only [List.map_toArray,List.map_cons,List.map_nil]);first|done|rfl) ?_;(with_reducible refine(net_Check.calls a0_0 _ _ l0_1 t244 _ ?side1 ?side2 A3.out).mono ?_);(case side1=>repeat (first|exact(Kd.C_below HR0_1.out HB.out)|(with_reducible refine Kd.C_alloc ?_ _)|(with_reducible refine Kd.C_drewN ?_ _)|(with_reducible refine Kd.C_drew ?_)));(case side2=>exact HC0_1.out);rintro e w20 ⟨rfl,hb⟩;refine⟨_,rfl,?_⟩;have n0_:=mkA (bkB (g:=gb243) (o:=.cells #[.int .i64 a0_0,.slice A0_1 l0_1.length c0_1] 32 (0,0)) (by(with_reducible repeat first|apply bkN|apply bkD|apply bkA);exact BK243.out) hb);have n1_:=mkA (below_step (by repeat (with_reducible first|exact HB.out|apply bwA|apply bwN|apply bwD|refine bwS ?_ GE243.out)) hb);clear BK243;clear HB;have BK243:=n0_;have HB:=n1_;clear n0_ n1_;(try clear hb);(try clear hb2);(try clear hk);(try clear hi)))
    go_ret
    exact⟨by first|rfl|(simp [errW_none,errW_some] <;> rfl)|(simp [*,errW_none,errW_some] <;> rfl),by repeat (with_reducible first|exact HB.out|apply bwA|apply bwN|apply bwD|refine bwS ?_ GE243.out)⟩

-- NOT PRINTED: function 36 (net_Packet_36)
end Go.Proofs.Ytgglmibbbjallaa.T
