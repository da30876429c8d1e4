/- This text tells functions of the seat as plain functions, with their contracts, as the machine's calls meet them. -/
import Derived.Test.YtgglmibbbjallaaTa7
namespace Go.Proofs.Ytgglmibbbjallaa.T
open Go.RowKit Go.Proofs.YtgglmibbbjallaaW.PrintWords Go.Proofs.YtgglmibbbjallaaW.PrintLast Go.Proofs.YtgglmibbbjallaaW.PrintMore
attribute [local go_sem] max2_int min2_int max_two min_two max_three min_three max_four min_four   -- for this text's walks alone
set_option linter.unusedVariables false
set_option linter.unusedSimpArgs false

/-! ### undercroftref04_Double: function 24 -/
def undercroftref04_Double.f (k : Nat) (a0_0 : Int) (l0_1 : List (S38)) (a1 : Int) : Option (Int × (List (S38)) × Bool × Int):=(undercroftref04_there.f k a0_0 l0_1 a1).bind fun t443=>(if t443 = 0 then(if 0 ≤ a1 then(if a1 < (l0_1.length : Int) then((undercroftref04_Send.f k a0_0 l0_1 ((rd_T38 l0_1 a1).f0) ((rd_T38 l0_1 a1).f1) ((rd_T38 l0_1 a1).f2)).bind fun bt445=>(some (bt445.1,bt445.2.1,bt445.2.2.1,bt445.2.2.2))) else(none)) else(none)) else(some (0,([] : List (S38)),false,t443)))
theorem undercroftref04_Double.mono : ∀ a0 a1 a2 k,LeO (undercroftref04_Double.f k a0 a1 a2) (undercroftref04_Double.f (k + 1) a0 a1 a2):=by
  intro a0 a1 a2 k
  unfold undercroftref04_Double.f
  repeat' first
      | (with_reducible exact undercroftref04_Send.mono _ _ _ _ _ _)
      | (with_reducible exact undercroftref04_there.mono _ _ _ _)
      | (with_reducible exact LeO.refl _)
      | (with_reducible exact LeO.none _)
      | (with_reducible refine LeO.ite ?_ ?_)
      | (with_reducible refine LeO.bind ?_ (fun _=>?_))
      | exact undercroftref04_Send.mono _ _ _ _ _ _
      | exact undercroftref04_there.mono _ _ _ _
      | exact LeO.none _
      | refine LeO.ite ?_ ?_
      | refine LeO.bind ?_ (fun _=>?_)
def undercroftref04_Double.T4 : Bool × List (List Nat × List Nat):=(true,[([],[]),([],[]),([1],[1]),([],[]),([2,3],[2,3]),([4],[4]),([0,5],[0,5]),([6],[6]),([6],[6]),([6],[6]),([7,6,0,1,2,3,4,5,6,7,8,9],[7]),([8,10,0,1,2,3,4,5,6,7,8,9,10],[8]),([9,11,0,1,2,3,4,5,6,7,8,9,10,11],[9])])
def undercroftref04_Double.B4 : List Nat:=[0,0,2,0,14,30,63,127,127,127,1023,2047,4095]
theorem undercroftref04_Double.tab4 : rtab .any (opsOf Try.f24 4) = undercroftref04_Double.T4:=by kernel_rfl
theorem undercroftref04_Double.bits4 : waitsOk undercroftref04_Double.T4.2 undercroftref04_Double.B4 = true:=by kernel_rfl
set_option maxHeartbeats 8000000 in
set_option maxRecDepth 100000 in
theorem undercroftref04_Double.calls (k : Nat) (a0_0 : Int) (A0_1 : Option Addr) (c0_1 : Nat) (l0_1 : List (S38)) (a1 : Int) (r1 : Int) (r2 : List (S38)) (r3 : Bool) (r4 : Int) (w : World) (hr0_1 : Kd.C k38 w A0_1 l0_1.length l0_1) (hc0_1 : l0_1.length ≤ c0_1) (h : undercroftref04_Double.f k a0_0 l0_1 a1 = some (r1,r2,r3,r4)) :
    Calls Try.prog 24 #[.agg #[.int .i64 a0_0,.slice A0_1 l0_1.length c0_1],.int .i64 a1] w fun e w'=>∃ v1_ : Value,e = .returned (.tuple #[.agg #[.int .i64 r1,v1_],.bool r3,.int .i64 r4])∧Kd.S k38 38 w' w.heap.size (fun _=>True) v1_ r2∧Below w.heap.size w w':=by
  have hu24:=Try.underlying24
  have hu38:=Try.underlying38
  have HR0_1:=mkA hr0_1
  have HC0_1:=mkA hc0_1
  clear hr0_1 hc0_1
  have HB:=mkA (Below.refl w.heap.size w)
  have H : ((undercroftref04_there.f k a0_0 l0_1 a1).bind fun t443=>(if t443 = 0 then(if 0 ≤ a1 then(if a1 < (l0_1.length : Int) then((undercroftref04_Send.f k a0_0 l0_1 ((rd_T38 l0_1 a1).f0) ((rd_T38 l0_1 a1).f1) ((rd_T38 l0_1 a1).f2)).bind fun bt445=>(some (bt445.1,bt445.2.1,bt445.2.2.1,bt445.2.2.2))) else(none)) else(none)) else(some (0,([] : List (S38)),false,t443)))) = some (r1,r2,r3,r4):=h
  clear h
  replace H:=Option.bind_eq_some_iff.mp H
  obtain ⟨t443,A30,H⟩:=H
  replace H : (if t443 = 0 then(if 0 ≤ a1 then(if a1 < (l0_1.length : Int) then((undercroftref04_Send.f k a0_0 l0_1 ((rd_T38 l0_1 a1).f0) ((rd_T38 l0_1 a1).f1) ((rd_T38 l0_1 a1).f2)).bind fun bt445=>(some (bt445.1,bt445.2.1,bt445.2.2.1,bt445.2.2.2))) else(none)) else(none)) else(some (0,([] : List (S38)),false,t443))) = some (r1,r2,r3,r4):=H
  have A3:=mkA A30
  clear A30
  by_cases c4 : t443 = 0
  · rw [if_pos c4] at H
    have c4b0 : (t443 == 0) = true:=beq_iff_eq.mpr c4
    have c4b1 : (t443 != 0) = false:=bne_eq_false_iff_eq.mpr c4
    clear c4
    by_cases c5 : 0 ≤ a1
    · rw [if_pos c5] at H
      have c5b0 : decide (0 ≤ a1) = true:=decide_eq_true c5
      clear c5
      by_cases c6 : a1 < (l0_1.length : Int)
      · rw [if_pos c6] at H
        have c6b0 : decide (a1 < (l0_1.length : Int)) = true:=decide_eq_true c6
        clear c6
        replace H:=Option.bind_eq_some_iff.mp H
        obtain ⟨⟨t445,t446,t449,t450⟩,A70,H⟩:=H
        replace H : (some (t445,t446,t449,t450)) = some (r1,r2,r3,r4):=H
        have A7:=mkA A70
        clear A70
        simp only [Option.some.injEq,Prod.mk.injEq] at H
        obtain ⟨rfl,rfl,rfl,rfl⟩:=H
        go_enter Try.func24,Try.ntmps24
        try go_wp2_with (first|((with_reducible refine gate_dst (N:=2) rfl ?_);refine box_event ?hg (N:=2) ?hd (cs:=#[.int .i64 a0_0,.slice A0_1 l0_1.length c0_1]) (t:=24) ?hr ?_;(case hd=>rfl);(case hg=>rfl);(case hr=>first|(go_simp;done)|(go_simp;rfl));intro gb441 hg w8 hbox hb;have n0_:=mkA (below_step (by repeat (with_reducible first|exact HB.out|apply bwA|apply bwN|apply bwD)) hb);have n1_:=mkA (hbox);have n2_:=mkA ((by rw [hg];exact(bwZ (by repeat (with_reducible first|exact HB.out|apply bwA|apply bwN|apply bwD))) : w.heap.size ≤ gb441));have n3_:=mkA ((by rw [hg];exact(bwZ (by repeat (with_reducible first|exact HB.out|apply bwA|apply bwN|apply bwD))) : w.heap.size ≤ gb441));clear HB;have HB:=n0_;have BK441:=n1_;have GW441:=n2_;have GE441:=n3_;clear n0_ n1_ n2_ n3_;clear hb hbox hg)|((with_reducible refine gate_dst (N:=4) rfl ?_);refine box_event ?hg (N:=4) ?hd (cs:=#[.int .i64 0,.slice none 0 0]) (t:=24) ?hr ?_;(case hd=>rfl);(case hg=>rfl);(case hr=>first|(go_simp;done)|(go_simp;rfl));intro gb442 hg w9 hbox hb;have n0_:=mkA (bkB (g:=gb441) (o:=.cells #[.int .i64 a0_0,.slice A0_1 l0_1.length c0_1] 24 (0,0)) (by(with_reducible repeat first|apply bkN|apply bkD|apply bkA);exact BK441.out) hb);have n1_:=mkA (below_step (by repeat (with_reducible first|exact HB.out|apply bwA|apply bwN|apply bwD|refine bwS ?_ GE441.out)) hb);have n2_:=mkA (hbox);have n3_:=mkA ((by rw [hg];exact(bwZ (by repeat (with_reducible first|exact HB.out|apply bwA|apply bwN|apply bwD|refine bwS ?_ GE441.out))) : w.heap.size ≤ gb442));have n4_:=mkA ((by rw [hg];exact(bwZ (by repeat (with_reducible first|exact HB.out|apply bwA|apply bwN|apply bwD|refine bwS ?_ GE441.out))) : w.heap.size ≤ gb442));have n5_:=mkA ((by rw [hg];exact Nat.ne_of_lt (blk_lt (g:=gb441) (o:=.cells #[.int .i64 a0_0,.slice A0_1 l0_1.length c0_1] 24 (0,0)) (by(with_reducible repeat first|apply bkN|apply bkD|apply bkA);exact BK441.out)) : gb441 ≠ gb442));have n6_:=mkA ((by rw [hg];exact Nat.ne_of_gt (blk_lt (g:=gb441) (o:=.cells #[.int .i64 a0_0,.slice A0_1 l0_1.length c0_1] 24 (0,0)) (by(with_reducible repeat first|apply bkN|apply bkD|apply bkA);exact BK441.out)) : gb442 ≠ gb441));clear BK441;clear HB;have BK441:=n0_;have HB:=n1_;have BK442:=n2_;have GW442:=n3_;have GE442:=n4_;have NB441_442:=n5_;have NB442_441:=n6_;clear n0_ n1_ n2_ n3_ n4_ n5_ n6_;clear hb hbox hg;have hnb10:=NB441_442.out;have hnc10:=NB442_441.out;have hcz11_0 : w9.cell? ⟨gb441,0,none⟩ = some (.int .i64 a0_0):=(bkC BK441.out 0).trans rfl;have hcz11_1 : w9.cell? ⟨gb441,1,none⟩ = some (.slice A0_1 l0_1.length c0_1):=(bkC BK441.out 1).trans rfl;have hfz11_0:=bkF BK441.out 0;have hfz11_1:=bkF BK441.out 1)|((with_reducible refine gate_callee (f:=37) rfl ?_);refine goesL_ (some 10) rfl rfl Try.func37 (by kernel_rfl) rfl #[.agg #[.int .i64 a0_0,.slice A0_1 l0_1.length c0_1],.int .i64 a1] rfl (by(try simp only [List.map_toArray,List.map_cons,List.map_nil]);first|done|rfl) ?_;(with_reducible refine(undercroftref04_there.calls k a0_0 _ _ l0_1 a1 t443 _ ?side1 ?side2 A3.out).mono ?_);(case side1=>repeat (first|exact(Kd.C_below HR0_1.out HB.out)|(with_reducible refine Kd.C_alloc ?_ _)|(with_reducible refine Kd.C_drewN ?_ _)|(with_reducible refine Kd.C_drew ?_)));(case side2=>exact HC0_1.out);rintro e w12 ⟨rfl,hb⟩;refine⟨_,rfl,?_⟩;have n0_:=mkA (bkB (g:=gb441) (o:=.cells #[.int .i64 a0_0,.slice A0_1 l0_1.length c0_1] 24 (0,0)) (by(with_reducible repeat first|apply bkN|apply bkD|apply bkA);exact BK441.out) hb);have n1_:=mkA (bkB (g:=gb442) (o:=.cells #[.int .i64 0,.slice none 0 0] 24 (0,0)) (by(with_reducible repeat first|apply bkN|apply bkD|apply bkA);exact BK442.out) hb);have n2_:=mkA (below_step (by repeat (with_reducible first|exact HB.out|apply bwA|apply bwN|apply bwD|refine bwS ?_ GE441.out|refine bwS ?_ GE442.out)) hb);clear BK441;clear BK442;clear HB;have BK441:=n0_;have BK442:=n1_;have HB:=n2_;clear n0_ n1_ n2_;(try clear hb);(try clear hb2);(try clear hk);(try clear hi)))
        have n0_:=mkA (bkD BK441.out)
        have n1_:=mkA (bkD BK442.out)
        have n2_:=mkA (bwD HB.out)
        clear BK441
        clear BK442
        clear HB
        have BK441:=n0_
        have BK442:=n1_
        have HB:=n2_
        clear n0_ n1_ n2_
        have p444 : 0 ≤ (a1 : Int):=odt (by first|(with_reducible assumption)|assumption)
        have q444 : a1 < (l0_1.length : Int):=odt (by first|(with_reducible assumption)|assumption)
        obtain ⟨ad444,A444_2,c444_2,e444,hx444_0,hx444_1,hx444_2,hl444_2,hi444_2⟩:=at_T38 HR0_1.out a1 p444 q444
        have hw444_2:=hx444_2
        have hw444_1:=hx444_1
        have hw444_0:=hx444_0
        cases e444
        replace hx444_0:=(HB.out.cell (blC w _ hx444_0)).trans hx444_0
        replace hx444_1:=(HB.out.cell (blC w _ hx444_1)).trans hx444_1
        replace hx444_2:=(HB.out.cell (blC w _ hx444_2)).trans hx444_2
        have HR444_2:=mkA hi444_2
        have HC444_2:=mkA hl444_2
        clear hi444_2 hl444_2
        replace p444:=eq_true p444
        replace q444:=eq_true q444
        refine start_ (n:=13) (S:=fun w'=>w'.cell? ⟨gb441,0,none⟩ = some (.int .i64 a0_0)∧w'.cell? ⟨gb441,1,none⟩ = some (.slice (some ad444) l0_1.length c0_1)∧w'.cell? (ad444.add ((a1).toNat * 3)) = some (.int .i64 ((rd_T38 l0_1 a1).f0))∧w'.cell? ⟨(ad444.add ((a1).toNat * 3)).block,(ad444.add ((a1).toNat * 3)).off + 1,none⟩ = some (.int .i64 ((rd_T38 l0_1 a1).f1))∧w'.cell? ⟨(ad444.add ((a1).toNat * 3)).block,(ad444.add ((a1).toNat * 3)).off + 2,none⟩ = some (.slice A444_2 ((rd_T38 l0_1 a1).f2).length c444_2)) (ds:=[]) #[false,false,false,false,false,false,false,false,false,false,false,false,false] (by kernel_rfl) rfl rfl ⟨(bkC BK441.out 0).trans rfl,(bkC BK441.out 1).trans rfl,((HB.out.cell (blC w _ hw444_0)).trans hw444_0),((HB.out.cell (blC w _ hw444_1)).trans hw444_1),((HB.out.cell (blC w _ hw444_2)).trans hw444_2)⟩ (fun hHeld=>?_);refine with_tabW undercroftref04_Double.tab4 undercroftref04_Double.bits4 (fun HT_ HW_=>?_)
        generalize w12.drew = w13 at BK441 BK442 HB HR444_2 hx444_0 hx444_1 hx444_2 hHeld ⊢
        refine pure_ (i:=1) (N:=some 16) (v:=?_) (a':=?_) #[false,true,false,false,false,false,false,false,false,false,false,false,false] rfl rfl (any_of HT_.out (by kernel_rfl)) (fun _ _ _ h=>h) (Or.inl ⟨by rfl,?_⟩) ?_ ?_
        rotate_left
        · intro w'
          go_simp
          with_reducible rfl
        rotate_left
        · simp only [Act.put,lsA,lsZ,lsS,i64_w,i32_w]
          rfl
        refine pure_ (i:=3) (N:=some 18) (v:=?_) (a':=?_) #[false,true,false,true,false,false,false,false,false,false,false,false,false] rfl rfl (any_of HT_.out (by kernel_rfl)) (fun _ _ _ h=>h) (Or.inl ⟨by rfl,?_⟩) ?_ ?_
        rotate_left
        · intro w'
          go_simp
          with_reducible rfl
        rotate_left
        · simp only [Act.put,lsA,lsZ,lsS,i64_w,i32_w]
          rfl
        refine take_ (i:=0) (N:=some 15) (v:=?_) (a':=?_) #[true,true,false,true,false,false,false,false,false,false,false,false,false] rfl rfl (take_ofW HT_.out HW_.out (by kernel_rfl)) (fun _ _ _ h=>h) (Or.inl ⟨by rfl,?_⟩) hHeld ?_ ?_
        rotate_left
        · rintro w' ⟨s0,s1,s2,s3,s4⟩
          go_simp
          with_reducible rfl
        rotate_left
        · simp only [Act.put,lsA,lsZ,lsS,i64_w,i32_w]
          rfl
        refine take_ (i:=2) (N:=some 17) (v:=?_) (a':=?_) #[true,true,true,true,false,false,false,false,false,false,false,false,false] rfl rfl (take_ofW HT_.out HW_.out (by kernel_rfl)) (fun _ _ _ h=>h) (Or.inl ⟨by rfl,?_⟩) hHeld ?_ ?_
        rotate_left
        · rintro w' ⟨s0,s1,s2,s3,s4⟩
          go_simp
          with_reducible rfl
        rotate_left
        · simp only [Act.put,lsA,lsZ,lsS,i64_w,i32_w]
          rfl
        refine pure_ (i:=4) (N:=some 19) (v:=?_) (a':=?_) #[true,true,true,true,true,false,false,false,false,false,false,false,false] rfl rfl (any_of HT_.out (by kernel_rfl)) (fun _ _ _ h=>h) (Or.inl ⟨by rfl,?_⟩) ?_ ?_
        rotate_left
        · intro w'
          go_simp
          with_reducible rfl
        rotate_left
        · simp only [Act.put,lsA,lsZ,lsS,i64_w,i32_w]
          rfl
        refine take_ (i:=5) (N:=some 20) (v:=?_) (a':=?_) #[true,true,true,true,true,true,false,false,false,false,false,false,false] rfl rfl (take_ofW HT_.out HW_.out (by kernel_rfl)) (fun _ _ _ h=>h) (Or.inl ⟨by rfl,?_⟩) hHeld ?_ ?_
        rotate_left
        · rintro w' ⟨s0,s1,s2,s3,s4⟩
          go_simp
          with_reducible rfl
        rotate_left
        · simp only [Act.put,lsA,lsZ,lsS,i64_w,i32_w]
          rfl
        refine one_ (i:=6) (N:=some 21) #[true,true,true,true,true,true,true,false,false,false,false,false,false] rfl rfl (one_of HT_.out (by kernel_rfl)) (by decide) (fun K hK=>?_)
        refine goes_ Try.func14 (by kernel_rfl) rfl #[.agg #[.int .i64 a0_0,.slice (some ad444) l0_1.length c0_1],.agg #[.int .i64 ((rd_T38 l0_1 a1).f0),.int .i64 ((rd_T38 l0_1 a1).f1),.slice A444_2 ((rd_T38 l0_1 a1).f2).length c444_2]] (by rfl) rfl rfl (by(try simp only [List.map_toArray,List.map_cons,List.map_nil]);first|done|rfl) ?_
        with_reducible refine(undercroftref04_Send.calls k a0_0 _ _ l0_1 ((rd_T38 l0_1 a1).f0) ((rd_T38 l0_1 a1).f1) _ _ ((rd_T38 l0_1 a1).f2) t445 t446 t449 t450 _ ?side1 ?side2 ?side3 ?side4 A7.out).mono ?_
        (case side1=>repeat (first|exact(Kd.C_below HR0_1.out HB.out)|(with_reducible refine Kd.C_alloc ?_ _)|(with_reducible refine Kd.C_drewN ?_ _)|(with_reducible refine Kd.C_drew ?_)))
        (case side2=>exact HC0_1.out)
        (case side3=>repeat (first|exact(Kd.C_below HR444_2.out HB.out)|(with_reducible refine Kd.C_alloc ?_ _)|(with_reducible refine Kd.C_drewN ?_ _)|(with_reducible refine Kd.C_drew ?_)))
        (case side4=>exact HC444_2.out)
        rintro e w14 ⟨v447,rfl,ho0,hb⟩
        refine⟨_,rfl,?_⟩
        have n0_:=mkA (Kd.S_lower ho0 (bwZ (by repeat (with_reducible first|exact HB.out|apply bwA|apply bwN|apply bwD|refine bwS ?_ GE441.out|refine bwS ?_ GE442.out))))
        have n1_:=mkA (bkB (g:=gb441) (o:=.cells #[.int .i64 a0_0,.slice (some ad444) l0_1.length c0_1] 24 (0,0)) (by(with_reducible repeat first|apply bkN|apply bkD|apply bkA);exact BK441.out) hb)
        have n2_:=mkA (bkB (g:=gb442) (o:=.cells #[.int .i64 0,.slice none 0 0] 24 (0,0)) (by(with_reducible repeat first|apply bkN|apply bkD|apply bkA);exact BK442.out) hb)
        have n3_:=mkA (below_step (by repeat (with_reducible first|exact HB.out|apply bwA|apply bwN|apply bwD|refine bwS ?_ GE441.out|refine bwS ?_ GE442.out)) hb)
        clear BK441
        clear BK442
        clear HB
        have HO448:=n0_
        have BK441:=n1_
        have BK442:=n2_
        have HB:=n3_
        clear n0_ n1_ n2_ n3_
        (try clear hb)
        (try clear hb2)
        (try clear hk)
        (try clear hi)
        (try clear ho0)
        obtain ⟨Ao16,co16,eo16⟩:=Kd.S_slice HO448.out
        (first|subst eo16|(injection eo16 with f1_ f2_ f3_;have f4_:=f1_.symm;have f5_:=f3_.symm;clear f1_ f2_ f3_;subst f4_;subst f5_))
        refine hK.out _ _ ⟨(bkC BK441.out 0).trans rfl,(bkC BK441.out 1).trans rfl,((HB.out.cell (blC w _ hw444_0)).trans hw444_0),((HB.out.cell (blC w _ hw444_1)).trans hw444_1),((HB.out.cell (blC w _ hw444_2)).trans hw444_2)⟩ (fun hHeld=>?_)
        clear hK K
        refine norm_ (a':=?_) ?_ ?_
        rotate_left
        · show Act.put _ (some 21) _ = _
          simp only [Act.put,lsA,lsZ,lsS,i64_w,i32_w]
          rfl
        refine pure_ (i:=7) (N:=some 22) (v:=?_) (a':=?_) #[true,true,true,true,true,true,true,true,false,false,false,false,false] rfl rfl (any_of HT_.out (by kernel_rfl)) (fun _ _ _ h=>h) (Or.inl ⟨by rfl,?_⟩) ?_ ?_
        rotate_left
        · intro w'
          go_simp
          with_reducible rfl
        rotate_left
        · simp only [Act.put,lsA,lsZ,lsS,i64_w,i32_w]
          rfl
        refine pure_ (i:=8) (N:=some 23) (v:=?_) (a':=?_) #[true,true,true,true,true,true,true,true,true,false,false,false,false] rfl rfl (any_of HT_.out (by kernel_rfl)) (fun _ _ _ h=>h) (Or.inl ⟨by rfl,?_⟩) ?_ ?_
        rotate_left
        · intro w'
          go_simp
          with_reducible rfl
        rotate_left
        · simp only [Act.put,lsA,lsZ,lsS,i64_w,i32_w]
          rfl
        refine pure_ (i:=9) (N:=some 24) (v:=?_) (a':=?_) #[true,true,true,true,true,true,true,true,true,true,false,false,false] rfl rfl (any_of HT_.out (by kernel_rfl)) (fun _ _ _ h=>h) (Or.inl ⟨by rfl,?_⟩) ?_ ?_
        rotate_left
        · intro w'
          go_simp
          with_reducible rfl
        rotate_left
        · simp only [Act.put,lsA,lsZ,lsS,i64_w,i32_w]
          rfl
        refine one_ (i:=10) (N:=none) #[true,true,true,true,true,true,true,true,true,true,true,false,false] rfl rfl (one_of HT_.out (by kernel_rfl)) (by decide) (fun K hK=>?_)
        have hs15 : w14.cell? ⟨gb442,0,none⟩ = some (.int .i64 0):=(bkC BK442.out 0).trans rfl
        have hfs15:=bkF BK442.out 0
        have hns15_0:=NB441_442.out
        have hms15_0:=NB442_441.out
        have hs17 : w14.cell? ⟨gb442,1,none⟩ = some (.slice none 0 0):=(bkC BK442.out 1).trans rfl
        have hfs17:=bkF BK442.out 1
        have hns17_0:=NB441_442.out
        have hms17_0:=NB442_441.out
        refine skip_ (w1:=?_) (by rfl) rfl ?_ ?_
        rotate_left
        · go_simp
          rfl
        refine hK.out _ _ ⟨((cell_far (p:=⟨gb442,_,none⟩) NB441_442.out _).trans (((cell_far (p:=⟨gb442,_,none⟩) NB441_442.out _).trans (hHeld.1)))),((cell_far (p:=⟨gb442,_,none⟩) NB441_442.out _).trans (((cell_far (p:=⟨gb442,_,none⟩) NB441_442.out _).trans (hHeld.2.1)))),((cell_far (p:=⟨gb442,_,none⟩) (by first|exact Nat.ne_of_lt (Nat.lt_of_lt_of_le (by have:=blC _ _ hw444_0;first|rwa [add_block] at this|exact this) GW442.out)|(rw [add_block];exact Nat.ne_of_lt (Nat.lt_of_lt_of_le (by have:=blC _ _ hw444_0;first|rwa [add_block] at this|exact this) GW442.out))|(show(Addr.add _ _).block ≠ _;rw [add_block];exact Nat.ne_of_lt (Nat.lt_of_lt_of_le (by have:=blC _ _ hw444_0;first|rwa [add_block] at this|exact this) GW442.out))|(dsimp only;exact Nat.ne_of_lt (Nat.lt_of_lt_of_le (by have:=blC _ _ hw444_0;first|rwa [add_block] at this|exact this) GW442.out))) _).trans (((cell_far (p:=⟨gb442,_,none⟩) (by first|exact Nat.ne_of_lt (Nat.lt_of_lt_of_le (by have:=blC _ _ hw444_0;first|rwa [add_block] at this|exact this) GW442.out)|(rw [add_block];exact Nat.ne_of_lt (Nat.lt_of_lt_of_le (by have:=blC _ _ hw444_0;first|rwa [add_block] at this|exact this) GW442.out))|(show(Addr.add _ _).block ≠ _;rw [add_block];exact Nat.ne_of_lt (Nat.lt_of_lt_of_le (by have:=blC _ _ hw444_0;first|rwa [add_block] at this|exact this) GW442.out))|(dsimp only;exact Nat.ne_of_lt (Nat.lt_of_lt_of_le (by have:=blC _ _ hw444_0;first|rwa [add_block] at this|exact this) GW442.out))) _).trans (hHeld.2.2.1)))),((cell_far (p:=⟨gb442,_,none⟩) (by first|exact Nat.ne_of_lt (Nat.lt_of_lt_of_le (by have:=blC _ _ hw444_1;first|rwa [add_block] at this|exact this) GW442.out)|(rw [add_block];exact Nat.ne_of_lt (Nat.lt_of_lt_of_le (by have:=blC _ _ hw444_1;first|rwa [add_block] at this|exact this) GW442.out))|(show(Addr.add _ _).block ≠ _;rw [add_block];exact Nat.ne_of_lt (Nat.lt_of_lt_of_le (by have:=blC _ _ hw444_1;first|rwa [add_block] at this|exact this) GW442.out))|(dsimp only;exact Nat.ne_of_lt (Nat.lt_of_lt_of_le (by have:=blC _ _ hw444_1;first|rwa [add_block] at this|exact this) GW442.out))) _).trans (((cell_far (p:=⟨gb442,_,none⟩) (by first|exact Nat.ne_of_lt (Nat.lt_of_lt_of_le (by have:=blC _ _ hw444_1;first|rwa [add_block] at this|exact this) GW442.out)|(rw [add_block];exact Nat.ne_of_lt (Nat.lt_of_lt_of_le (by have:=blC _ _ hw444_1;first|rwa [add_block] at this|exact this) GW442.out))|(show(Addr.add _ _).block ≠ _;rw [add_block];exact Nat.ne_of_lt (Nat.lt_of_lt_of_le (by have:=blC _ _ hw444_1;first|rwa [add_block] at this|exact this) GW442.out))|(dsimp only;exact Nat.ne_of_lt (Nat.lt_of_lt_of_le (by have:=blC _ _ hw444_1;first|rwa [add_block] at this|exact this) GW442.out))) _).trans (hHeld.2.2.2.1)))),((cell_far (p:=⟨gb442,_,none⟩) (by first|exact Nat.ne_of_lt (Nat.lt_of_lt_of_le (by have:=blC _ _ hw444_2;first|rwa [add_block] at this|exact this) GW442.out)|(rw [add_block];exact Nat.ne_of_lt (Nat.lt_of_lt_of_le (by have:=blC _ _ hw444_2;first|rwa [add_block] at this|exact this) GW442.out))|(show(Addr.add _ _).block ≠ _;rw [add_block];exact Nat.ne_of_lt (Nat.lt_of_lt_of_le (by have:=blC _ _ hw444_2;first|rwa [add_block] at this|exact this) GW442.out))|(dsimp only;exact Nat.ne_of_lt (Nat.lt_of_lt_of_le (by have:=blC _ _ hw444_2;first|rwa [add_block] at this|exact this) GW442.out))) _).trans (((cell_far (p:=⟨gb442,_,none⟩) (by first|exact Nat.ne_of_lt (Nat.lt_of_lt_of_le (by have:=blC _ _ hw444_2;first|rwa [add_block] at this|exact this) GW442.out)|(rw [add_block];exact Nat.ne_of_lt (Nat.lt_of_lt_of_le (by have:=blC _ _ hw444_2;first|rwa [add_block] at this|exact this) GW442.out))|(show(Addr.add _ _).block ≠ _;rw [add_block];exact Nat.ne_of_lt (Nat.lt_of_lt_of_le (by have:=blC _ _ hw444_2;first|rwa [add_block] at this|exact this) GW442.out))|(dsimp only;exact Nat.ne_of_lt (Nat.lt_of_lt_of_le (by have:=blC _ _ hw444_2;first|rwa [add_block] at this|exact this) GW442.out))) _).trans (hHeld.2.2.2.2))))⟩ (fun hHeld=>?_)
        clear hK K
        refine pure_ (i:=11) (N:=some 5) (v:=?_) (a':=?_) #[true,true,true,true,true,true,true,true,true,true,true,true,false] rfl rfl (any_of HT_.out (by kernel_rfl)) (fun _ _ _ h=>h) (Or.inl ⟨by rfl,?_⟩) ?_ ?_
        rotate_left
        · intro w'
          go_simp
          with_reducible rfl
        rotate_left
        · simp only [Act.put,lsA,lsZ,lsS,i64_w,i32_w]
          rfl
        refine pure_ (i:=12) (N:=some 6) (v:=?_) (a':=?_) #[true,true,true,true,true,true,true,true,true,true,true,true,true] rfl rfl (any_of HT_.out (by kernel_rfl)) (fun _ _ _ h=>h) (Or.inl ⟨by rfl,?_⟩) ?_ ?_
        rotate_left
        · intro w'
          go_simp
          with_reducible rfl
        rotate_left
        · simp only [Act.put,lsA,lsZ,lsS,i64_w,i32_w]
          rfl
        refine done_ (done_of HT_.out (by kernel_rfl)) ?_
        try go_wp2
        refine bodyPost_ret (results_ctt rfl _ _ gb442 24 #[.int .i64 t445,.slice Ao16 t446.length co16] (0,0) _ rfl (by(with_reducible repeat first|apply bkN|apply bkD|apply bkA);refine blk_put (cs:=#[.int .i64 t445,.slice none 0 0]) ?_ 1 _ rfl;(with_reducible repeat first|apply bkN|apply bkD|apply bkA);refine blk_put (cs:=#[.int .i64 0,.slice none 0 0]) ?_ 0 _ rfl;(with_reducible repeat first|apply bkN|apply bkD|apply bkA);exact BK442.out) Try.underlying24 rfl (by kernel_rfl)) rfl ?_
        exact⟨_,by first|rfl|(simp [errW_none,errW_some] <;> rfl)|(simp [*,errW_none,errW_some] <;> rfl),by(with_reducible repeat (first|apply Kd.S_alloc|apply Kd.S_drewN|apply Kd.S_drew));exact Kd.S_mono (Kd.S_far (p:=⟨gb442,1,none⟩) (Kd.S_far (p:=⟨gb442,0,none⟩) (Kd.S_types HO448.out BK442.out (by decide)) (fun _ hk=>hk.2) (.int .i64 t445)) (fun _ hk=>hk.2) (.slice Ao16 t446.length co16)) (fun _ hk=>trivial),by repeat (with_reducible first|exact HB.out|apply bwA|apply bwN|apply bwD|refine bwS ?_ GE441.out|refine bwS ?_ GE442.out)⟩
      · rw [if_neg c6] at H
        exact absurd H (by simp)
    · rw [if_neg c5] at H
      exact absurd H (by simp)
  · rw [if_neg c4] at H
    have c4b0 : (t443 == 0) = false:=beq_eq_false_iff_ne.mpr c4
    have c4b1 : (t443 != 0) = true:=bne_iff_ne.mpr c4
    simp only [Option.some.injEq,Prod.mk.injEq] at H
    obtain ⟨rfl,rfl,rfl,rfl⟩:=H
    go_enter Try.func24,Try.ntmps24
    go_wp2_with (first|((with_reducible refine gate_dst (N:=2) rfl ?_);refine box_event ?hg (N:=2) ?hd (cs:=#[.int .i64 a0_0,.slice A0_1 l0_1.length c0_1]) (t:=24) ?hr ?_;(case hd=>rfl);(case hg=>rfl);(case hr=>first|(go_simp;done)|(go_simp;rfl));intro gb441 hg w18 hbox hb;have n0_:=mkA (below_step (by repeat (with_reducible first|exact HB.out|apply bwA|apply bwN|apply bwD)) hb);have n1_:=mkA (hbox);have n2_:=mkA ((by rw [hg];exact(bwZ (by repeat (with_reducible first|exact HB.out|apply bwA|apply bwN|apply bwD))) : w.heap.size ≤ gb441));have n3_:=mkA ((by rw [hg];exact(bwZ (by repeat (with_reducible first|exact HB.out|apply bwA|apply bwN|apply bwD))) : w.heap.size ≤ gb441));clear HB;have HB:=n0_;have BK441:=n1_;have GW441:=n2_;have GE441:=n3_;clear n0_ n1_ n2_ n3_;clear hb hbox hg)|((with_reducible refine gate_dst (N:=4) rfl ?_);refine box_event ?hg (N:=4) ?hd (cs:=#[.int .i64 0,.slice none 0 0]) (t:=24) ?hr ?_;(case hd=>rfl);(case hg=>rfl);(case hr=>first|(go_simp;done)|(go_simp;rfl));intro gb442 hg w19 hbox hb;have n0_:=mkA (bkB (g:=gb441) (o:=.cells #[.int .i64 a0_0,.slice A0_1 l0_1.length c0_1] 24 (0,0)) (by(with_reducible repeat first|apply bkN|apply bkD|apply bkA);exact BK441.out) hb);have n1_:=mkA (below_step (by repeat (with_reducible first|exact HB.out|apply bwA|apply bwN|apply bwD|refine bwS ?_ GE441.out)) hb);have n2_:=mkA (hbox);have n3_:=mkA ((by rw [hg];exact(bwZ (by repeat (with_reducible first|exact HB.out|apply bwA|apply bwN|apply bwD|refine bwS ?_ GE441.out))) : w.heap.size ≤ gb442));have n4_:=mkA ((by rw [hg];exact(bwZ (by repeat (with_reducible first|exact HB.out|apply bwA|apply bwN|apply bwD|refine bwS ?_ GE441.out))) : w.heap.size ≤ gb442));have n5_:=mkA ((by rw [hg];exact Nat.ne_of_lt (blk_lt (g:=gb441) (o:=.cells #[.int .i64 a0_0,.slice A0_1 l0_1.length c0_1] 24 (0,0)) (by(with_reducible repeat first|apply bkN|apply bkD|apply bkA);exact BK441.out)) : gb441 ≠ gb442));have n6_:=mkA ((by rw [hg];exact Nat.ne_of_gt (blk_lt (g:=gb441) (o:=.cells #[.int .i64 a0_0,.slice A0_1 l0_1.length c0_1] 24 (0,0)) (by(with_reducible repeat first|apply bkN|apply bkD|apply bkA);exact BK441.out)) : gb442 ≠ gb441));clear BK441;clear HB;have BK441:=n0_;have HB:=n1_;have BK442:=n2_;have GW442:=n3_;have GE442:=n4_;have NB441_442:=n5_;have NB442_441:=n6_;clear n0_ n1_ n2_ n3_ n4_ n5_ n6_;clear hb hbox hg;have hnb20:=NB441_442.out;have hnc20:=NB442_441.out;have hcz21_0 : w19.cell? ⟨gb441,0,none⟩ = some (.int .i64 a0_0):=(bkC BK441.out 0).trans rfl;have hcz21_1 : w19.cell? ⟨gb441,1,none⟩ = some (.slice A0_1 l0_1.length c0_1):=(bkC BK441.out 1).trans rfl;have hfz21_0:=bkF BK441.out 0;have hfz21_1:=bkF BK441.out 1)|((with_reducible refine gate_callee (f:=37) rfl ?_);refine goesL_ (some 10) rfl rfl Try.func37 (by kernel_rfl) rfl #[.agg #[.int .i64 a0_0,.slice A0_1 l0_1.length c0_1],.int .i64 a1] rfl (by(try simp only [List.map_toArray,List.map_cons,List.map_nil]);first|done|rfl) ?_;(with_reducible refine(undercroftref04_there.calls k a0_0 _ _ l0_1 a1 t443 _ ?side1 ?side2 A3.out).mono ?_);(case side1=>repeat (first|exact(Kd.C_below HR0_1.out HB.out)|(with_reducible refine Kd.C_alloc ?_ _)|(with_reducible refine Kd.C_drewN ?_ _)|(with_reducible refine Kd.C_drew ?_)));(case side2=>exact HC0_1.out);rintro e w22 ⟨rfl,hb⟩;refine⟨_,rfl,?_⟩;have n0_:=mkA (bkB (g:=gb441) (o:=.cells #[.int .i64 a0_0,.slice A0_1 l0_1.length c0_1] 24 (0,0)) (by(with_reducible repeat first|apply bkN|apply bkD|apply bkA);exact BK441.out) hb);have n1_:=mkA (bkB (g:=gb442) (o:=.cells #[.int .i64 0,.slice none 0 0] 24 (0,0)) (by(with_reducible repeat first|apply bkN|apply bkD|apply bkA);exact BK442.out) hb);have n2_:=mkA (below_step (by repeat (with_reducible first|exact HB.out|apply bwA|apply bwN|apply bwD|refine bwS ?_ GE441.out|refine bwS ?_ GE442.out)) hb);clear BK441;clear BK442;clear HB;have BK441:=n0_;have BK442:=n1_;have HB:=n2_;clear n0_ n1_ n2_;(try clear hb);(try clear hb2);(try clear hk);(try clear hi);have hcz23_0 : w22.cell? ⟨gb442,0,none⟩ = some (.int .i64 0):=(bkC BK442.out 0).trans rfl;have hcz23_1 : w22.cell? ⟨gb442,1,none⟩ = some (.slice none 0 0):=(bkC BK442.out 1).trans rfl;have hfz23_0:=bkF BK442.out 0;have hfz23_1:=bkF BK442.out 1))
    refine bodyPost_ret (results_ctt rfl _ _ gb442 24 #[.int .i64 0,.slice none 0 0] (0,0) _ rfl (by(with_reducible repeat first|apply bkN|apply bkD|apply bkA);refine blk_put (cs:=#[.int .i64 0,.slice none 0 0]) ?_ 1 _ rfl;(with_reducible repeat first|apply bkN|apply bkD|apply bkA);refine blk_put (cs:=#[.int .i64 0,.slice none 0 0]) ?_ 0 _ rfl;(with_reducible repeat first|apply bkN|apply bkD|apply bkA);exact BK442.out) Try.underlying24 rfl (by kernel_rfl)) rfl ?_
    exact⟨_,by first|rfl|(simp [errW_none,errW_some] <;> rfl)|(simp [*,errW_none,errW_some] <;> rfl),by first|exact Kd.S_nil _ _ _ _ _|exact Kd.N_nil _ _ _ _ _|exact Kd.V_nil _ _ _ _ _|exact Kd.Q_nil _ _ _ _ _|exact Kd.R_nil _ _ _ _ _,by repeat (with_reducible first|exact HB.out|apply bwA|apply bwN|apply bwD|refine bwS ?_ GE441.out|refine bwS ?_ GE442.out)⟩

/-! ### undercroftref04_For: function 25 -/
def undercroftref04_For.l0 : Nat→Int→List Int→Int→Int→List (S38)→Option (List Int × Int)
  | 0,_,_,_,_,_=>none
  | k + 1,x1,x6,x7,x452000,x452001=>if x7 < (x452001.length : Int) then(if 0 ≤ x7 then(if((rd_T38 x452001 x7).f1) = x1 then(if x6.length < 17592186044416 then(undercroftref04_For.l0 k x1 (x6 ++ [x7]) (wrap64 (x7 + 1)) x452000 x452001) else(none)) else(undercroftref04_For.l0 k x1 x6 (wrap64 (x7 + 1)) x452000 x452001)) else(none)) else(some (x6,0))
def undercroftref04_For.f (k : Nat) (a0_0 : Int) (l0_1 : List (S38)) (a1 : Int) : Option (List Int × Int):=(undercroftref04_Check.f k a0_0 l0_1).bind fun t452=>(if t452 = 0 then(undercroftref04_For.l0 k a1 ([] : List Int) 0 a0_0 l0_1) else(some (([] : List Int),9)))
theorem undercroftref04_For.mono_l : ∀ k,(∀ y0 y1 y2 y3 y4,LeO (undercroftref04_For.l0 k y0 y1 y2 y3 y4) (undercroftref04_For.l0 (k + 1) y0 y1 y2 y3 y4))
  | 0=>fun _ _ _ _ _ r h=>by simp [undercroftref04_For.l0] at h
  | k + 1=>by
    have ih0:=undercroftref04_For.mono_l k
    · intro y0 y1 y2 y3 y4
      unfold undercroftref04_For.l0
      repeat' first
      | (with_reducible exact ih0 _ _ _ _ _)
      | (with_reducible exact undercroftref04_Check.mono _ _ _)
      | (with_reducible exact LeO.refl _)
      | (with_reducible exact LeO.none _)
      | (with_reducible refine LeO.ite ?_ ?_)
      | (with_reducible refine LeO.bind ?_ (fun _=>?_))
      | exact ih0 _ _ _ _ _
      | exact undercroftref04_Check.mono _ _ _
      | exact LeO.none _
      | refine LeO.ite ?_ ?_
      | refine LeO.bind ?_ (fun _=>?_)
theorem undercroftref04_For.mono : ∀ a0 a1 a2 k,LeO (undercroftref04_For.f k a0 a1 a2) (undercroftref04_For.f (k + 1) a0 a1 a2):=by
  intro a0 a1 a2 k
  have ih0:=undercroftref04_For.mono_l k
  unfold undercroftref04_For.f
  repeat' first
      | (with_reducible exact ih0 _ _ _ _ _)
      | (with_reducible exact undercroftref04_Check.mono _ _ _)
      | (with_reducible exact LeO.refl _)
      | (with_reducible exact LeO.none _)
      | (with_reducible refine LeO.ite ?_ ?_)
      | (with_reducible refine LeO.bind ?_ (fun _=>?_))
      | exact ih0 _ _ _ _ _
      | exact undercroftref04_Check.mono _ _ _
      | exact LeO.none _
      | refine LeO.ite ?_ ?_
      | refine LeO.bind ?_ (fun _=>?_)
set_option maxHeartbeats 8000000 in
set_option maxRecDepth 100000 in
theorem undercroftref04_For.calls (k : Nat) (a0_0 : Int) (A0_1 : Option Addr) (c0_1 : Nat) (l0_1 : List (S38)) (a1 : Int) (r1 : List Int) (r2 : Int) (w : World) (hr0_1 : Kd.C k38 w A0_1 l0_1.length l0_1) (hc0_1 : l0_1.length ≤ c0_1) (h : undercroftref04_For.f k a0_0 l0_1 a1 = some (r1,r2)) :
    Calls Try.prog 25 #[.agg #[.int .i64 a0_0,.slice A0_1 l0_1.length c0_1],.int .i64 a1] w fun e w'=>∃ v0_ : Value,e = .returned (.tuple #[v0_,.int .i64 r2])∧Kd.R (Kd.int .i64) 3 w' w.heap.size (fun _=>True) v0_ r1∧Below w.heap.size w w':=by
  have hu24:=Try.underlying24
  have HR0_1:=mkA hr0_1
  have HC0_1:=mkA hc0_1
  clear hr0_1 hc0_1
  have HB:=mkA (Below.refl w.heap.size w)
  have H : ((undercroftref04_Check.f k a0_0 l0_1).bind fun t452=>(if t452 = 0 then(undercroftref04_For.l0 k a1 ([] : List Int) 0 a0_0 l0_1) else(some (([] : List Int),9)))) = some (r1,r2):=h
  clear h
  replace H:=Option.bind_eq_some_iff.mp H
  obtain ⟨t452,A30,H⟩:=H
  replace H : (if t452 = 0 then(undercroftref04_For.l0 k a1 ([] : List Int) 0 a0_0 l0_1) else(some (([] : List Int),9))) = some (r1,r2):=H
  have A3:=mkA A30
  clear A30
  by_cases c4 : t452 = 0
  · rw [if_pos c4] at H
    have c4b0 : (t452 == 0) = true:=beq_iff_eq.mpr c4
    have c4b1 : (t452 != 0) = false:=bne_eq_false_iff_eq.mpr c4
    clear c4
    have H':=mkA H
    clear H
    go_enter Try.func25,Try.ntmps25
    go_wp2_with (first|((with_reducible refine gate_dst (N:=2) rfl ?_);refine box_event ?hg (N:=2) ?hd (cs:=#[.int .i64 a0_0,.slice A0_1 l0_1.length c0_1]) (t:=24) ?hr ?_;(case hd=>rfl);(case hg=>rfl);(case hr=>first|(go_simp;done)|(go_simp;rfl));intro gb451 hg w5 hbox hb;have n0_:=mkA (below_step (by repeat (with_reducible first|exact HB.out|apply bwA|apply bwN|apply bwD)) hb);have n1_:=mkA (hbox);have n2_:=mkA ((by rw [hg];exact(bwZ (by repeat (with_reducible first|exact HB.out|apply bwA|apply bwN|apply bwD))) : w.heap.size ≤ gb451));have n3_:=mkA ((by rw [hg];exact(bwZ (by repeat (with_reducible first|exact HB.out|apply bwA|apply bwN|apply bwD))) : w.heap.size ≤ gb451));clear HB;have HB:=n0_;have BK451:=n1_;have GW451:=n2_;have GE451:=n3_;clear n0_ n1_ n2_ n3_;clear hb hbox hg;have hcz6_0 : w5.cell? ⟨gb451,0,none⟩ = some (.int .i64 a0_0):=(bkC BK451.out 0).trans rfl;have hcz6_1 : w5.cell? ⟨gb451,1,none⟩ = some (.slice A0_1 l0_1.length c0_1):=(bkC BK451.out 1).trans rfl;have hfz6_0:=bkF BK451.out 0;have hfz6_1:=bkF BK451.out 1)|((with_reducible refine gate_callee (f:=11) rfl ?_);refine goesL_ (some 9) rfl rfl Try.func11 (by kernel_rfl) rfl #[.agg #[.int .i64 a0_0,.slice A0_1 l0_1.length c0_1]] rfl (by(try simp only [List.map_toArray,List.map_cons,List.map_nil]);first|done|rfl) ?_;(with_reducible refine(undercroftref04_Check.calls k a0_0 _ _ l0_1 t452 _ ?side1 ?side2 A3.out).mono ?_);(case side1=>repeat (first|exact(Kd.C_below HR0_1.out HB.out)|(with_reducible refine Kd.C_alloc ?_ _)|(with_reducible refine Kd.C_drewN ?_ _)|(with_reducible refine Kd.C_drew ?_)));(case side2=>exact HC0_1.out);rintro e w7 ⟨rfl,hb⟩;refine⟨_,rfl,?_⟩;have n0_:=mkA (bkB (g:=gb451) (o:=.cells #[.int .i64 a0_0,.slice A0_1 l0_1.length c0_1] 24 (0,0)) (by(with_reducible repeat first|apply bkN|apply bkD|apply bkA);exact BK451.out) hb);have n1_:=mkA (below_step (by repeat (with_reducible first|exact HB.out|apply bwA|apply bwN|apply bwD|refine bwS ?_ GE451.out)) hb);clear BK451;clear HB;have BK451:=n0_;have HB:=n1_;clear n0_ n1_;(try clear hb);(try clear hb2);(try clear hk);(try clear hi)))
    go_loopg [6,7] k (fun kq v6 v7 w'=>∃ (x6_1 : List Int) (x7_1 : Int),v7 = .int .i64 x7_1∧Aside0 (undercroftref04_For.l0 kq a1 x6_1 x7_1 a0_0 l0_1 = some (r1,r2))∧Aside0 (kq ≤ k)∧Aside0 (Kd.R (Kd.int .i64) 3 w' w.heap.size (fun _=>True) v6 x6_1)∧Aside0 (w'.heap[gb451]? = some (.cells #[.int .i64 a0_0,(.slice A0_1 l0_1.length c0_1)] 24 (0,0)))∧Aside0 (Below w.heap.size w w'))
    case atStart=>exact⟨(([] : List Int)),(0),(by first|rfl|(simp;done)|(simp [*];done)),H',⟨Nat.le_refl _⟩,⟨by first|exact Kd.R_nil _ _ _ _ _|exact Kd.N_nil _ _ _ _ _|exact Kd.V_nil _ _ _ _ _|exact Kd.Q_nil _ _ _ _ _|exact Kd.S_nil _ _ _ _ _⟩,⟨by(with_reducible repeat first|apply bkN|apply bkD|apply bkA);exact BK451.out⟩,⟨by repeat (with_reducible first|exact HB.out|apply bwA|apply bwN|apply bwD|refine bwS ?_ GE451.out)⟩⟩
    case round =>
      clear H'
      try clear c1
      try clear c2
      try clear p2
      try clear c4
      try clear c4b0
      try clear c4b1
      try clear hcz6_0
      try clear hcz6_1
      try clear hfz6_0
      try clear hfz6_1
      obtain ⟨x6_1,x7_1,rfl,HA,HK1,HO_6,BK451,HB⟩:=hrel
      cases gk with
      | zero=>exact absurd HA.out (by simp [undercroftref04_For.l0])
      | succ k1 =>
        have H:=HA.out
        clear HA
        simp only [undercroftref04_For.l0] at H
        by_cases c8 : x7_1 < (l0_1.length : Int)
        · rw [if_pos c8] at H
          have c8b0 : decide (x7_1 < (l0_1.length : Int)) = true:=decide_eq_true c8
          clear c8
          by_cases c9 : 0 ≤ x7_1
          · rw [if_pos c9] at H
            have c9b0 : decide (0 ≤ x7_1) = true:=decide_eq_true c9
            clear c9
            by_cases c10 : ((rd_T38 l0_1 x7_1).f1) = a1
            · rw [if_pos c10] at H
              have c10b0 : (((rd_T38 l0_1 x7_1).f1) == a1) = true:=beq_iff_eq.mpr c10
              have c10b1 : (((rd_T38 l0_1 x7_1).f1) != a1) = false:=bne_eq_false_iff_eq.mpr c10
              clear c10
              by_cases c11 : x6_1.length < 17592186044416
              · rw [if_pos c11] at H
                have LMc11:=mkA c11
                clear c11
                obtain ⟨y454,hy454⟩ : ∃ y_ : List Int,y_ = (x6_1 ++ [x7_1]):=⟨_,rfl⟩
                replace H : (undercroftref04_For.l0 k1 a1 y454 (wrap64 (x7_1 + 1)) a0_0 l0_1) = some (r1,r2):=by first|(rw [hy454];with_reducible exact H)|(have H2_:=(Option.bind_some _ _).symm.trans H;rw [hy454];with_reducible exact H2_)|(have H2_:=(Option.bind_some _ _).symm.trans H;with_reducible exact H2_)|with_reducible exact H|(rw [hy454];exact H)|exact H
                have Ny454:=mkA hy454
                clear hy454
                have H':=mkA H
                clear H
                have hcz12_0 : wr.cell? ⟨gb451,0,none⟩ = some (.int .i64 a0_0):=(bkC BK451.out 0).trans rfl
                have hcz12_1 : wr.cell? ⟨gb451,1,none⟩ = some (.slice A0_1 l0_1.length c0_1):=(bkC BK451.out 1).trans rfl
                have hfz12_0:=bkF BK451.out 0
                have hfz12_1:=bkF BK451.out 1
                have p453 : 0 ≤ (x7_1 : Int):=odt (by first|(with_reducible assumption)|assumption)
                have q453 : x7_1 < (l0_1.length : Int):=odt (by first|(with_reducible assumption)|assumption)
                obtain ⟨ad453,A453_2,c453_2,e453,hx453_0,hx453_1,hx453_2,hl453_2,hi453_2⟩:=at_T38 HR0_1.out x7_1 p453 q453
                cases e453
                replace hx453_0:=(HB.out.cell (blC w _ hx453_0)).trans hx453_0
                replace hx453_1:=(HB.out.cell (blC w _ hx453_1)).trans hx453_1
                replace hx453_2:=(HB.out.cell (blC w _ hx453_2)).trans hx453_2
                have HR453_2:=mkA hi453_2
                have HC453_2:=mkA hl453_2
                clear hi453_2 hl453_2
                replace p453:=eq_true p453
                replace q453:=eq_true q453
                go_wp2_with (first|((with_reducible refine gate_builtin (b:=.append) (xs:=#[.tmp 26,.tmp 28]) rfl ?_);at_builtin;refine Kd.R_append (Kd.int .i64) (w0:=w) w.heap.size rfl (.tmp 26) (.tmp 28) 26 3 (.int .i64 0) 8 rfl Try.underlying26 info3 rfl (by decide) (by omega) u6 x6_1 x7_1 [.int .i64 x7_1] (fun _=>True) (fun _=>False) rfl rfl ?aP (fun _ hk=>hk.elim) ?aF ?aO ?aB ?aS ?aL ?_;(case aP=>exact rfl);(case aB=>exact(by repeat (with_reducible first|exact HB.out|apply bwA|apply bwN|apply bwD|refine bwS ?_ GE451.out)));(case aF=>exact(fun _ _=>trivial));(case aO=>exact(by(with_reducible repeat (first|apply Kd.R_alloc|apply Kd.R_drewN|apply Kd.R_drew));exact HO_6.out));(case aS=>exact(bwZ (by repeat (with_reducible first|exact HB.out|apply bwA|apply bwN|apply bwD|refine bwS ?_ GE451.out))));(case aL=>have:=LMc11.out;omega);intro v455 w13 ho hb hg hat;rw [← Ny454.out] at ho;have n0_:=mkA (blk_grown (g:=gb451) (o:=.cells #[.int .i64 a0_0,.slice (some ad453) l0_1.length c0_1] 24 (0,0)) (by(with_reducible repeat first|apply bkN|apply bkD|apply bkA);exact BK451.out) hg (Kd.R_ne HO_6.out BK451.out (by decide)));have n1_:=mkA (hb);have n2_:=mkA (ho);clear BK451;clear HB;clear HO_6;have BK451:=n0_;have HB:=n1_;have HO456:=n2_;clear n0_ n1_ n2_;clear ho hb hg hat))
                go_roundg k1
                case measure=>have:=HK1.out;omega
                case rel=>exact⟨(y454),(wrap64 (x7_1 + 1)),(by first|rfl|(simp;done)|(simp [*];done)),H',⟨by have:=HK1.out;omega⟩,⟨by(with_reducible repeat (first|apply Kd.R_alloc|apply Kd.R_drewN|apply Kd.R_drew));exact HO456.out⟩,⟨by(with_reducible repeat first|apply bkN|apply bkD|apply bkA);exact BK451.out⟩,⟨by repeat (with_reducible first|exact HB.out|apply bwA|apply bwN|apply bwD|refine bwS ?_ GE451.out)⟩⟩
              · rw [if_neg c11] at H
                exact absurd H (by simp)
            · rw [if_neg c10] at H
              have c10b0 : (((rd_T38 l0_1 x7_1).f1) == a1) = false:=beq_eq_false_iff_ne.mpr c10
              have c10b1 : (((rd_T38 l0_1 x7_1).f1) != a1) = true:=bne_iff_ne.mpr c10
              have H':=mkA H
              clear H
              have hcz14_0 : wr.cell? ⟨gb451,0,none⟩ = some (.int .i64 a0_0):=(bkC BK451.out 0).trans rfl
              have hcz14_1 : wr.cell? ⟨gb451,1,none⟩ = some (.slice A0_1 l0_1.length c0_1):=(bkC BK451.out 1).trans rfl
              have hfz14_0:=bkF BK451.out 0
              have hfz14_1:=bkF BK451.out 1
              have p453 : 0 ≤ (x7_1 : Int):=odt (by first|(with_reducible assumption)|assumption)
              have q453 : x7_1 < (l0_1.length : Int):=odt (by first|(with_reducible assumption)|assumption)
              obtain ⟨ad453,A453_2,c453_2,e453,hx453_0,hx453_1,hx453_2,hl453_2,hi453_2⟩:=at_T38 HR0_1.out x7_1 p453 q453
              cases e453
              replace hx453_0:=(HB.out.cell (blC w _ hx453_0)).trans hx453_0
              replace hx453_1:=(HB.out.cell (blC w _ hx453_1)).trans hx453_1
              replace hx453_2:=(HB.out.cell (blC w _ hx453_2)).trans hx453_2
              have HR453_2:=mkA hi453_2
              have HC453_2:=mkA hl453_2
              clear hi453_2 hl453_2
              replace p453:=eq_true p453
              replace q453:=eq_true q453
              go_wp2
              go_roundg k1
              case measure=>have:=HK1.out;omega
              case rel=>exact⟨(x6_1),(wrap64 (x7_1 + 1)),(by first|rfl|(simp;done)|(simp [*];done)),H',⟨by have:=HK1.out;omega⟩,⟨by(with_reducible repeat (first|apply Kd.R_alloc|apply Kd.R_drewN|apply Kd.R_drew));exact HO_6.out⟩,⟨by(with_reducible repeat first|apply bkN|apply bkD|apply bkA);exact BK451.out⟩,⟨by repeat (with_reducible first|exact HB.out|apply bwA|apply bwN|apply bwD|refine bwS ?_ GE451.out)⟩⟩
          · rw [if_neg c9] at H
            exact absurd H (by simp)
        · rw [if_neg c8] at H
          have c8b0 : decide (x7_1 < (l0_1.length : Int)) = false:=decide_eq_false c8
          clear c8
          simp only [Option.some.injEq,Prod.mk.injEq] at H
          obtain ⟨rfl,rfl⟩:=H
          have hcz15_0 : wr.cell? ⟨gb451,0,none⟩ = some (.int .i64 a0_0):=(bkC BK451.out 0).trans rfl
          have hcz15_1 : wr.cell? ⟨gb451,1,none⟩ = some (.slice A0_1 l0_1.length c0_1):=(bkC BK451.out 1).trans rfl
          have hfz15_0:=bkF BK451.out 0
          have hfz15_1:=bkF BK451.out 1
          go_wp2
          go_ret2
          exact⟨_,by first|rfl|(simp [errW_none,errW_some] <;> rfl)|(simp [*,errW_none,errW_some] <;> rfl),by(with_reducible repeat (first|apply Kd.R_alloc|apply Kd.R_drewN|apply Kd.R_drew));exact HO_6.out,by repeat (with_reducible first|exact HB.out|apply bwA|apply bwN|apply bwD|refine bwS ?_ GE451.out)⟩
  · rw [if_neg c4] at H
    have c4b0 : (t452 == 0) = false:=beq_eq_false_iff_ne.mpr c4
    have c4b1 : (t452 != 0) = true:=bne_iff_ne.mpr c4
    simp only [Option.some.injEq,Prod.mk.injEq] at H
    obtain ⟨rfl,rfl⟩:=H
    go_enter Try.func25,Try.ntmps25
    go_wp2_with (first|((with_reducible refine gate_dst (N:=2) rfl ?_);refine box_event ?hg (N:=2) ?hd (cs:=#[.int .i64 a0_0,.slice A0_1 l0_1.length c0_1]) (t:=24) ?hr ?_;(case hd=>rfl);(case hg=>rfl);(case hr=>first|(go_simp;done)|(go_simp;rfl));intro gb451 hg w16 hbox hb;have n0_:=mkA (below_step (by repeat (with_reducible first|exact HB.out|apply bwA|apply bwN|apply bwD)) hb);have n1_:=mkA (hbox);have n2_:=mkA ((by rw [hg];exact(bwZ (by repeat (with_reducible first|exact HB.out|apply bwA|apply bwN|apply bwD))) : w.heap.size ≤ gb451));have n3_:=mkA ((by rw [hg];exact(bwZ (by repeat (with_reducible first|exact HB.out|apply bwA|apply bwN|apply bwD))) : w.heap.size ≤ gb451));clear HB;have HB:=n0_;have BK451:=n1_;have GW451:=n2_;have GE451:=n3_;clear n0_ n1_ n2_ n3_;clear hb hbox hg;have hcz17_0 : w16.cell? ⟨gb451,0,none⟩ = some (.int .i64 a0_0):=(bkC BK451.out 0).trans rfl;have hcz17_1 : w16.cell? ⟨gb451,1,none⟩ = some (.slice A0_1 l0_1.length c0_1):=(bkC BK451.out 1).trans rfl;have hfz17_0:=bkF BK451.out 0;have hfz17_1:=bkF BK451.out 1)|((with_reducible refine gate_callee (f:=11) rfl ?_);refine goesL_ (some 9) rfl rfl Try.func11 (by kernel_rfl) rfl #[.agg #[.int .i64 a0_0,.slice A0_1 l0_1.length c0_1]] rfl (by(try simp only [List.map_toArray,List.map_cons,List.map_nil]);first|done|rfl) ?_;(with_reducible refine(undercroftref04_Check.calls k a0_0 _ _ l0_1 t452 _ ?side1 ?side2 A3.out).mono ?_);(case side1=>repeat (first|exact(Kd.C_below HR0_1.out HB.out)|(with_reducible refine Kd.C_alloc ?_ _)|(with_reducible refine Kd.C_drewN ?_ _)|(with_reducible refine Kd.C_drew ?_)));(case side2=>exact HC0_1.out);rintro e w18 ⟨rfl,hb⟩;refine⟨_,rfl,?_⟩;have n0_:=mkA (bkB (g:=gb451) (o:=.cells #[.int .i64 a0_0,.slice A0_1 l0_1.length c0_1] 24 (0,0)) (by(with_reducible repeat first|apply bkN|apply bkD|apply bkA);exact BK451.out) hb);have n1_:=mkA (below_step (by repeat (with_reducible first|exact HB.out|apply bwA|apply bwN|apply bwD|refine bwS ?_ GE451.out)) hb);clear BK451;clear HB;have BK451:=n0_;have HB:=n1_;clear n0_ n1_;(try clear hb);(try clear hb2);(try clear hk);(try clear hi)))
    go_ret2
    exact⟨_,by first|rfl|(simp [errW_none,errW_some] <;> rfl)|(simp [*,errW_none,errW_some] <;> rfl),by first|exact Kd.R_nil _ _ _ _ _|exact Kd.N_nil _ _ _ _ _|exact Kd.V_nil _ _ _ _ _|exact Kd.Q_nil _ _ _ _ _|exact Kd.S_nil _ _ _ _ _,by repeat (with_reducible first|exact HB.out|apply bwA|apply bwN|apply bwD|refine bwS ?_ GE451.out)⟩

/-! ### undercroftplain_SameInts: function 26 -/
def undercroftplain_SameInts.l0 : Nat→List Int→List Int→Int→Option (Bool)
  | 0,_,_,_=>none
  | k + 1,x0,x1,x5=>if x5 < (x0.length : Int) then(if 0 ≤ x5 then(if x5 < (x1.length : Int) then(if(rd x0 x5) = (rd x1 x5) then(undercroftplain_SameInts.l0 k x0 x1 (wrap64 (x5 + 1))) else(some false)) else(none)) else(none)) else(some true)
def undercroftplain_SameInts.f (k : Nat) (l0 : List Int) (l1 : List Int) : Option (Bool):=if(l0.length : Int) = (l1.length : Int) then(undercroftplain_SameInts.l0 k l0 l1 0) else(some false)
theorem undercroftplain_SameInts.mono_l : ∀ k,(∀ y0 y1 y2,LeO (undercroftplain_SameInts.l0 k y0 y1 y2) (undercroftplain_SameInts.l0 (k + 1) y0 y1 y2))
  | 0=>fun _ _ _ r h=>by simp [undercroftplain_SameInts.l0] at h
  | k + 1=>by
    have ih0:=undercroftplain_SameInts.mono_l k
    · intro y0 y1 y2
      unfold undercroftplain_SameInts.l0
      repeat' first
      | (with_reducible exact ih0 _ _ _)
      | (with_reducible exact LeO.refl _)
      | (with_reducible exact LeO.none _)
      | (with_reducible refine LeO.ite ?_ ?_)
      | (with_reducible refine LeO.bind ?_ (fun _=>?_))
      | exact ih0 _ _ _
      | exact LeO.none _
      | refine LeO.ite ?_ ?_
      | refine LeO.bind ?_ (fun _=>?_)
theorem undercroftplain_SameInts.mono : ∀ a0 a1 k,LeO (undercroftplain_SameInts.f k a0 a1) (undercroftplain_SameInts.f (k + 1) a0 a1):=by
  intro a0 a1 k
  have ih0:=undercroftplain_SameInts.mono_l k
  unfold undercroftplain_SameInts.f
  repeat' first
      | (with_reducible exact ih0 _ _ _)
      | (with_reducible exact LeO.refl _)
      | (with_reducible exact LeO.none _)
      | (with_reducible refine LeO.ite ?_ ?_)
      | (with_reducible refine LeO.bind ?_ (fun _=>?_))
      | exact ih0 _ _ _
      | exact LeO.none _
      | refine LeO.ite ?_ ?_
      | refine LeO.bind ?_ (fun _=>?_)
set_option maxHeartbeats 8000000 in
set_option maxRecDepth 100000 in
theorem undercroftplain_SameInts.calls (k : Nat) (A0 : Option Addr) (c0 : Nat) (l0 : List Int) (A1 : Option Addr) (c1 : Nat) (l1 : List Int) (r : Bool) (w : World) (hr0 : Kd.C (Kd.int .i64) w A0 l0.length l0) (hc0 : l0.length ≤ c0) (hr1 : Kd.C (Kd.int .i64) w A1 l1.length l1) (hc1 : l1.length ≤ c1) (h : undercroftplain_SameInts.f k l0 l1 = some r) :
    Calls Try.prog 26 #[.slice A0 l0.length c0,.slice A1 l1.length c1] w fun e w'=>e = .returned (.bool r)∧Drawn0 w w':=by
  have HR0:=mkA hr0
  have HC0:=mkA hc0
  clear hr0 hc0
  have HR1:=mkA hr1
  have HC1:=mkA hc1
  clear hr1 hc1
  have H : (if(l0.length : Int) = (l1.length : Int) then(undercroftplain_SameInts.l0 k l0 l1 0) else(some false)) = some r:=h
  clear h
  by_cases c3 : (l0.length : Int) = (l1.length : Int)
  · rw [if_pos c3] at H
    have c3b0 : ((l0.length : Int) == (l1.length : Int)) = true:=beq_iff_eq.mpr c3
    have c3b1 : ((l0.length : Int) != (l1.length : Int)) = false:=bne_eq_false_iff_eq.mpr c3
    have c3b2 : (l0.length == l1.length) = true:=by first|simpa using c3|(simp at c3 ⊢;omega)
    clear c3
    have H':=mkA H
    clear H
    go_enter Try.func26,Try.ntmps26
    go_wp2
    repeat (go_quiet (fail);try go_wp2)
    go_loopg [5] k (fun kq v5 w'=>∃ (x5_1 : Int),v5 = .int .i64 x5_1∧Aside0 (undercroftplain_SameInts.l0 kq l0 l1 x5_1 = some r)∧Aside0 (kq ≤ k)∧Drawn0 w w')
    case atStart=>exact⟨(0),(by first|rfl|(simp;done)|(simp [*];done)),H',⟨Nat.le_refl _⟩,by repeat (first|exact Drawn0.refl _|apply Drawn0.step)⟩
    case round =>
      clear H'
      try clear c1
      try clear c2
      try clear p2
      try clear c3
      try clear c3b0
      try clear c3b1
      try clear c3b2
      obtain ⟨x5_1,rfl,HA,HK1,⟨m1,rfl⟩⟩:=hrel
      cases gk with
      | zero=>exact absurd HA.out (by simp [undercroftplain_SameInts.l0])
      | succ k1 =>
        have H:=HA.out
        clear HA
        simp only [undercroftplain_SameInts.l0] at H
        by_cases c4 : x5_1 < (l0.length : Int)
        · rw [if_pos c4] at H
          have c4b0 : decide (x5_1 < (l0.length : Int)) = true:=decide_eq_true c4
          clear c4
          by_cases c5 : 0 ≤ x5_1
          · rw [if_pos c5] at H
            have c5b0 : decide (0 ≤ x5_1) = true:=decide_eq_true c5
            clear c5
            by_cases c6 : x5_1 < (l1.length : Int)
            · rw [if_pos c6] at H
              have c6b0 : decide (x5_1 < (l1.length : Int)) = true:=decide_eq_true c6
              clear c6
              by_cases c7 : (rd l0 x5_1) = (rd l1 x5_1)
              · rw [if_pos c7] at H
                have c7b0 : ((rd l0 x5_1) == (rd l1 x5_1)) = true:=beq_iff_eq.mpr c7
                have c7b1 : ((rd l0 x5_1) != (rd l1 x5_1)) = false:=bne_eq_false_iff_eq.mpr c7
                clear c7
                have H':=mkA H
                clear H
                have p457 : 0 ≤ (x5_1 : Int):=odt (by first|(with_reducible assumption)|assumption)
                have q457 : x5_1 < (l0.length : Int):=odt (by first|(with_reducible assumption)|assumption)
                obtain ⟨ad457,e457,hx457_0⟩:=Kd.at_int HR0.out x5_1 p457 q457
                cases e457
                replace p457:=eq_true p457
                replace q457:=eq_true q457
                have p458 : 0 ≤ (x5_1 : Int):=odt (by first|(with_reducible assumption)|assumption)
                have q458 : x5_1 < (l1.length : Int):=odt (by first|(with_reducible assumption)|assumption)
                obtain ⟨ad458,e458,hx458_0⟩:=Kd.at_int HR1.out x5_1 p458 q458
                cases e458
                replace p458:=eq_true p458
                replace q458:=eq_true q458
                go_wp2
                repeat (go_quiet (fail);try go_wp2)
                go_roundg k1
                case measure=>have:=HK1.out;omega
                case rel=>exact⟨(wrap64 (x5_1 + 1)),(by first|rfl|(simp;done)|(simp [*];done)),H',⟨by have:=HK1.out;omega⟩,by repeat (first|exact Drawn0.refl _|apply Drawn0.step)⟩
              · rw [if_neg c7] at H
                have c7b0 : ((rd l0 x5_1) == (rd l1 x5_1)) = false:=beq_eq_false_iff_ne.mpr c7
                have c7b1 : ((rd l0 x5_1) != (rd l1 x5_1)) = true:=bne_iff_ne.mpr c7
                obtain rfl:=Option.some.inj H
                have p457 : 0 ≤ (x5_1 : Int):=odt (by first|(with_reducible assumption)|assumption)
                have q457 : x5_1 < (l0.length : Int):=odt (by first|(with_reducible assumption)|assumption)
                obtain ⟨ad457,e457,hx457_0⟩:=Kd.at_int HR0.out x5_1 p457 q457
                cases e457
                replace p457:=eq_true p457
                replace q457:=eq_true q457
                have p458 : 0 ≤ (x5_1 : Int):=odt (by first|(with_reducible assumption)|assumption)
                have q458 : x5_1 < (l1.length : Int):=odt (by first|(with_reducible assumption)|assumption)
                obtain ⟨ad458,e458,hx458_0⟩:=Kd.at_int HR1.out x5_1 p458 q458
                cases e458
                replace p458:=eq_true p458
                replace q458:=eq_true q458
                go_wp2
                repeat (go_quiet (fail);try go_wp2)
                go_ret
                exact⟨by first|rfl|(simp;done)|(simp [*];done),by repeat (first|exact Drawn0.refl _|apply Drawn0.step)⟩
            · rw [if_neg c6] at H
              exact absurd H (by simp)
          · rw [if_neg c5] at H
            exact absurd H (by simp)
        · rw [if_neg c4] at H
          have c4b0 : decide (x5_1 < (l0.length : Int)) = false:=decide_eq_false c4
          clear c4
          obtain rfl:=Option.some.inj H
          go_wp2
          repeat (go_quiet (fail);try go_wp2)
          go_ret
          exact⟨by first|rfl|(simp;done)|(simp [*];done),by repeat (first|exact Drawn0.refl _|apply Drawn0.step)⟩
  · rw [if_neg c3] at H
    have c3b0 : ((l0.length : Int) == (l1.length : Int)) = false:=beq_eq_false_iff_ne.mpr c3
    have c3b1 : ((l0.length : Int) != (l1.length : Int)) = true:=bne_iff_ne.mpr c3
    have c3b2 : (l0.length == l1.length) = false:=by first|simpa using c3|(simp at c3 ⊢;omega)
    obtain rfl:=Option.some.inj H
    go_enter Try.func26,Try.ntmps26
    go_wp2
    repeat (go_quiet (fail);try go_wp2)
    go_ret
    exact⟨by first|rfl|(simp;done)|(simp [*];done),by repeat (first|exact Drawn0.refl _|apply Drawn0.step)⟩

-- NOT PRINTED: function 6 (undercroftlaw04_NetTells)
end Go.Proofs.Ytgglmibbbjallaa.T
