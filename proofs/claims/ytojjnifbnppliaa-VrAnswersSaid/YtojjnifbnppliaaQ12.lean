/- This text tells functions of the seat as plain functions, with their contracts, as the machine's calls meet them. -/
import Derived.Test.YtojjnifbnppliaaQ02
import Derived.Test.YtojjnifbnppliaaQ11
namespace Go.Proofs.Ytojjnifbnppliaa.T
open Go.RowKit Go.Proofs.YtojjnifbnppliaaW.PrintWords Go.Proofs.YtojjnifbnppliaaW.PrintLast Go.Proofs.YtojjnifbnppliaaW.PrintMore
attribute [local go_sem] max2_int min2_int max_two min_two max_three min_three max_four min_four   -- for this text's walks alone
set_option linter.unusedVariables false
set_option linter.unusedSimpArgs false
def undercroftlaw19_OfMsg.f (k : Nat) (a0_0 : Int) (a0_1 : Int) (a0_2 : Int) (a0_3 : Int) (a0_4 : Int) (a0_5 : Int) (l0_6 : List (List Int)) (a0_7 : Int) (a0_8 : Int) : Option (Int × Int × Int × Int × Int × Int × (List (List Int)) × Int × Int):=(undercroftplain_CopyLists.f k l0_6).bind fun t192=>(some (a0_0,a0_1,a0_2,a0_3,a0_4,a0_5,t192,a0_7,a0_8))
def undercroftlaw19_OfMsg.T1 : Bool × List (List Nat × List Nat):=(true,[([],[]),([0],[0]),([],[]),([2],[2]),([],[]),([4],[4]),([],[]),([6],[6]),([],[]),([8],[8]),([],[]),([10],[10]),([],[]),([12],[12]),([13],[13]),([],[]),([15],[15]),([],[]),([17],[17]),([1,3,5,7,9,11,14,16,18],[1,3,5,7,9,11,14,16,18]),([19,14,0,1,2,3,4,5,6,7,8,9,10,11,12,13,14,15,16,17,18,19],[19])])
def undercroftlaw19_OfMsg.B1 : List Nat:=[0,1,0,4,0,16,0,64,0,256,0,1024,0,4096,12288,0,32768,0,131072,524287,1048575]
theorem undercroftlaw19_OfMsg.tab1 : rtab .any (opsOf Try.f28 1) = undercroftlaw19_OfMsg.T1:=by kernel_rfl
theorem undercroftlaw19_OfMsg.bits1 : waitsOk undercroftlaw19_OfMsg.T1.2 undercroftlaw19_OfMsg.B1 = true:=by kernel_rfl
set_option maxHeartbeats 8000000 in
set_option maxRecDepth 100000 in
theorem undercroftlaw19_OfMsg.calls (k : Nat) (a0_0 : Int) (a0_1 : Int) (a0_2 : Int) (a0_3 : Int) (a0_4 : Int) (a0_5 : Int) (A0_6 : Option Addr) (c0_6 : Nat) (l0_6 : List (List Int)) (a0_7 : Int) (a0_8 : Int) (r1 : Int) (r2 : Int) (r3 : Int) (r4 : Int) (r5 : Int) (r6 : Int) (r7 : List (List Int)) (r8 : Int) (r9 : Int) (w : World) (hr0_6 : Kd.C (Kd.slice 5 (Kd.int .u8)) w A0_6 l0_6.length l0_6) (hc0_6 : l0_6.length ≤ c0_6) (h : undercroftlaw19_OfMsg.f k a0_0 a0_1 a0_2 a0_3 a0_4 a0_5 l0_6 a0_7 a0_8 = some (r1,r2,r3,r4,r5,r6,r7,r8,r9)) :
    Calls Try.prog 28 #[.agg #[.int .i64 a0_0,.int .i64 a0_1,.int .i64 a0_2,.int .i64 a0_3,.int .i64 a0_4,.int .i64 a0_5,.slice A0_6 l0_6.length c0_6,.int .i64 a0_7,.int .i64 a0_8]] w fun e w'=>∃ v6_ : Value,e = .returned (.agg #[.int .i64 r1,.int .i64 r2,.int .i64 r3,.int .i64 r4,.int .i64 r5,.int .i64 r6,v6_,.int .i64 r8,.int .i64 r9])∧Kd.S (Kd.slice 5 (Kd.int .u8)) 22 w' w.heap.size (fun _=>True) v6_ r7∧Below w.heap.size w w':=by
  have hu45:=Try.underlying45
  have hu37:=Try.underlying37
  have HR0_6:=Aside0.mk hr0_6
  have HC0_6:=Aside0.mk hc0_6
  clear hr0_6 hc0_6
  have HB:=Aside0.mk (Below.refl w.heap.size w)
  have H : ((undercroftplain_CopyLists.f k l0_6).bind fun t192=>(some (a0_0,a0_1,a0_2,a0_3,a0_4,a0_5,t192,a0_7,a0_8))) = some (r1,r2,r3,r4,r5,r6,r7,r8,r9):=h
  clear h
  replace H:=Option.bind_eq_some_iff.mp H
  obtain ⟨t192,A20,H⟩:=H
  replace H : (some (a0_0,a0_1,a0_2,a0_3,a0_4,a0_5,t192,a0_7,a0_8)) = some (r1,r2,r3,r4,r5,r6,r7,r8,r9):=H
  have A2:=Aside0.mk A20
  clear A20
  simp only [Option.some.injEq,Prod.mk.injEq] at H
  obtain ⟨rfl,rfl,rfl,rfl,rfl,rfl,rfl,rfl,rfl⟩:=H
  go_enter Try.func28,Try.ntmps28
  try go_wp2_with (first|((with_reducible refine gate_dst (N:=1) rfl ?_);refine box_event ?hg (N:=1) ?hd (cs:=#[.int .i64 a0_0,.int .i64 a0_1,.int .i64 a0_2,.int .i64 a0_3,.int .i64 a0_4,.int .i64 a0_5,.slice A0_6 l0_6.length c0_6,.int .i64 a0_7,.int .i64 a0_8]) (t:=45) ?hr ?_;(case hd=>rfl);(case hg=>rfl);(case hr=>first|(go_simp;done)|(go_simp;rfl));intro gb190 hg w3 hbox hb;have n0_:=Aside0.mk (below_step (by repeat (first|(with_reducible first|exact HB.out|apply below_alloc|apply pw_below_drewN|apply below_drew1)|exact HB.out)) hb);have n1_:=Aside0.mk (hbox);have n2_:=Aside0.mk ((by rw [hg];exact(below_size (by repeat (first|(with_reducible first|exact HB.out|apply below_alloc|apply pw_below_drewN|apply below_drew1)|exact HB.out))) : w.heap.size ≤ gb190));have n3_:=Aside0.mk ((by rw [hg];exact(below_size (by repeat (first|(with_reducible first|exact HB.out|apply below_alloc|apply pw_below_drewN|apply below_drew1)|exact HB.out))) : w.heap.size ≤ gb190));clear HB;have HB:=n0_;have BK190:=n1_;have GW190:=n2_;have GE190:=n3_;clear n0_ n1_ n2_ n3_;clear hb hbox hg)|((with_reducible refine gate_dst (N:=2) rfl ?_);refine box_event ?hg (N:=2) ?hd (cs:=#[.int .i64 0,.int .i64 0,.int .i64 0,.int .i64 0,.int .i64 0,.int .i64 0,.slice none 0 0,.int .i64 0,.int .i64 0]) (t:=37) ?hr ?_;(case hd=>rfl);(case hg=>rfl);(case hr=>first|(go_simp;done)|(go_simp;rfl));intro gb191 hg w4 hbox hb;have n0_:=Aside0.mk (blk_below (g:=gb190) (o:=.cells #[.int .i64 a0_0,.int .i64 a0_1,.int .i64 a0_2,.int .i64 a0_3,.int .i64 a0_4,.int .i64 a0_5,.slice A0_6 l0_6.length c0_6,.int .i64 a0_7,.int .i64 a0_8] 45 (0,0)) (by(with_reducible repeat (first|refine blk_drewN ?_ _|refine blk_drew ?_|refine blk_alloc ?_ _));exact BK190.out) hb);have n1_:=Aside0.mk (below_step (by repeat (first|(with_reducible first|exact HB.out|apply below_alloc|apply pw_below_drewN|apply below_drew1|refine below_set ?_ GE190.out)|exact HB.out)) hb);have n2_:=Aside0.mk (hbox);have n3_:=Aside0.mk ((by rw [hg];exact(below_size (by repeat (first|(with_reducible first|exact HB.out|apply below_alloc|apply pw_below_drewN|apply below_drew1|refine below_set ?_ GE190.out)|exact HB.out))) : w.heap.size ≤ gb191));have n4_:=Aside0.mk ((by rw [hg];exact(below_size (by repeat (first|(with_reducible first|exact HB.out|apply below_alloc|apply pw_below_drewN|apply below_drew1|refine below_set ?_ GE190.out)|exact HB.out))) : w.heap.size ≤ gb191));have n5_:=Aside0.mk ((by rw [hg];exact Nat.ne_of_lt (blk_lt (g:=gb190) (o:=.cells #[.int .i64 a0_0,.int .i64 a0_1,.int .i64 a0_2,.int .i64 a0_3,.int .i64 a0_4,.int .i64 a0_5,.slice A0_6 l0_6.length c0_6,.int .i64 a0_7,.int .i64 a0_8] 45 (0,0)) (by(with_reducible repeat (first|refine blk_drewN ?_ _|refine blk_drew ?_|refine blk_alloc ?_ _));exact BK190.out)) : gb190 ≠ gb191));have n6_:=Aside0.mk ((by rw [hg];exact Nat.ne_of_gt (blk_lt (g:=gb190) (o:=.cells #[.int .i64 a0_0,.int .i64 a0_1,.int .i64 a0_2,.int .i64 a0_3,.int .i64 a0_4,.int .i64 a0_5,.slice A0_6 l0_6.length c0_6,.int .i64 a0_7,.int .i64 a0_8] 45 (0,0)) (by(with_reducible repeat (first|refine blk_drewN ?_ _|refine blk_drew ?_|refine blk_alloc ?_ _));exact BK190.out)) : gb191 ≠ gb190));clear BK190;clear HB;have BK190:=n0_;have HB:=n1_;have BK191:=n2_;have GW191:=n3_;have GE191:=n4_;have NB190_191:=n5_;have NB191_190:=n6_;clear n0_ n1_ n2_ n3_ n4_ n5_ n6_;clear hb hbox hg))
  have n0_:=Aside0.mk (blk_drew BK190.out)
  have n1_:=Aside0.mk (blk_drew BK191.out)
  have n2_:=Aside0.mk (below_drew1 HB.out)
  clear BK190
  clear BK191
  clear HB
  have BK190:=n0_
  have BK191:=n1_
  have HB:=n2_
  clear n0_ n1_ n2_
  refine start_ (n:=21) (S:=fun w'=>w'.cell? ⟨gb190,0,none⟩ = some (.int .i64 a0_0)∧w'.cell? ⟨gb190,1,none⟩ = some (.int .i64 a0_1)∧w'.cell? ⟨gb190,2,none⟩ = some (.int .i64 a0_2)∧w'.cell? ⟨gb190,3,none⟩ = some (.int .i64 a0_3)∧w'.cell? ⟨gb190,4,none⟩ = some (.int .i64 a0_4)∧w'.cell? ⟨gb190,5,none⟩ = some (.int .i64 a0_5)∧w'.cell? ⟨gb190,6,none⟩ = some (.slice A0_6 l0_6.length c0_6)∧w'.cell? ⟨gb190,7,none⟩ = some (.int .i64 a0_7)∧w'.cell? ⟨gb190,8,none⟩ = some (.int .i64 a0_8)) (ds:=[]) #[false,false,false,false,false,false,false,false,false,false,false,false,false,false,false,false,false,false,false,false,false] (by kernel_rfl) rfl rfl ⟨(blk_cell BK190.out 0).trans rfl,(blk_cell BK190.out 1).trans rfl,(blk_cell BK190.out 2).trans rfl,(blk_cell BK190.out 3).trans rfl,(blk_cell BK190.out 4).trans rfl,(blk_cell BK190.out 5).trans rfl,(blk_cell BK190.out 6).trans rfl,(blk_cell BK190.out 7).trans rfl,(blk_cell BK190.out 8).trans rfl⟩ (fun hHeld=>?_);refine with_tabW undercroftlaw19_OfMsg.tab1 undercroftlaw19_OfMsg.bits1 (fun HT_ HW_=>?_)
  generalize w4.drew = w5 at BK190 BK191 HB hHeld ⊢
  refine pure_ (i:=0) (N:=some 3) (v:=?_) (a':=?_) #[true,false,false,false,false,false,false,false,false,false,false,false,false,false,false,false,false,false,false,false,false] rfl rfl (any_of HT_.out (by kernel_rfl)) (fun _ _ _ h=>h) (Or.inl ⟨by rfl,?_⟩) ?_ ?_
  rotate_left
  · intro w'
    go_simp
    with_reducible rfl
  rotate_left
  · simp only [Act.put,List.setIfInBounds_toArray,List.set_cons_zero,List.set_cons_succ,i64_w,i32_w]
    rfl
  refine pure_ (i:=2) (N:=some 5) (v:=?_) (a':=?_) #[true,false,true,false,false,false,false,false,false,false,false,false,false,false,false,false,false,false,false,false,false] rfl rfl (any_of HT_.out (by kernel_rfl)) (fun _ _ _ h=>h) (Or.inl ⟨by rfl,?_⟩) ?_ ?_
  rotate_left
  · intro w'
    go_simp
    with_reducible rfl
  rotate_left
  · simp only [Act.put,List.setIfInBounds_toArray,List.set_cons_zero,List.set_cons_succ,i64_w,i32_w]
    rfl
  refine pure_ (i:=4) (N:=some 7) (v:=?_) (a':=?_) #[true,false,true,false,true,false,false,false,false,false,false,false,false,false,false,false,false,false,false,false,false] rfl rfl (any_of HT_.out (by kernel_rfl)) (fun _ _ _ h=>h) (Or.inl ⟨by rfl,?_⟩) ?_ ?_
  rotate_left
  · intro w'
    go_simp
    with_reducible rfl
  rotate_left
  · simp only [Act.put,List.setIfInBounds_toArray,List.set_cons_zero,List.set_cons_succ,i64_w,i32_w]
    rfl
  refine pure_ (i:=6) (N:=some 9) (v:=?_) (a':=?_) #[true,false,true,false,true,false,true,false,false,false,false,false,false,false,false,false,false,false,false,false,false] rfl rfl (any_of HT_.out (by kernel_rfl)) (fun _ _ _ h=>h) (Or.inl ⟨by rfl,?_⟩) ?_ ?_
  rotate_left
  · intro w'
    go_simp
    with_reducible rfl
  rotate_left
  · simp only [Act.put,List.setIfInBounds_toArray,List.set_cons_zero,List.set_cons_succ,i64_w,i32_w]
    rfl
  refine pure_ (i:=8) (N:=some 11) (v:=?_) (a':=?_) #[true,false,true,false,true,false,true,false,true,false,false,false,false,false,false,false,false,false,false,false,false] rfl rfl (any_of HT_.out (by kernel_rfl)) (fun _ _ _ h=>h) (Or.inl ⟨by rfl,?_⟩) ?_ ?_
  rotate_left
  · intro w'
    go_simp
    with_reducible rfl
  rotate_left
  · simp only [Act.put,List.setIfInBounds_toArray,List.set_cons_zero,List.set_cons_succ,i64_w,i32_w]
    rfl
  refine pure_ (i:=10) (N:=some 13) (v:=?_) (a':=?_) #[true,false,true,false,true,false,true,false,true,false,true,false,false,false,false,false,false,false,false,false,false] rfl rfl (any_of HT_.out (by kernel_rfl)) (fun _ _ _ h=>h) (Or.inl ⟨by rfl,?_⟩) ?_ ?_
  rotate_left
  · intro w'
    go_simp
    with_reducible rfl
  rotate_left
  · simp only [Act.put,List.setIfInBounds_toArray,List.set_cons_zero,List.set_cons_succ,i64_w,i32_w]
    rfl
  refine pure_ (i:=12) (N:=some 15) (v:=?_) (a':=?_) #[true,false,true,false,true,false,true,false,true,false,true,false,true,false,false,false,false,false,false,false,false] rfl rfl (any_of HT_.out (by kernel_rfl)) (fun _ _ _ h=>h) (Or.inl ⟨by rfl,?_⟩) ?_ ?_
  rotate_left
  · intro w'
    go_simp
    with_reducible rfl
  rotate_left
  · simp only [Act.put,List.setIfInBounds_toArray,List.set_cons_zero,List.set_cons_succ,i64_w,i32_w]
    rfl
  refine pure_ (i:=15) (N:=some 18) (v:=?_) (a':=?_) #[true,false,true,false,true,false,true,false,true,false,true,false,true,false,false,true,false,false,false,false,false] rfl rfl (any_of HT_.out (by kernel_rfl)) (fun _ _ _ h=>h) (Or.inl ⟨by rfl,?_⟩) ?_ ?_
  rotate_left
  · intro w'
    go_simp
    with_reducible rfl
  rotate_left
  · simp only [Act.put,List.setIfInBounds_toArray,List.set_cons_zero,List.set_cons_succ,i64_w,i32_w]
    rfl
  refine pure_ (i:=17) (N:=some 20) (v:=?_) (a':=?_) #[true,false,true,false,true,false,true,false,true,false,true,false,true,false,false,true,false,true,false,false,false] rfl rfl (any_of HT_.out (by kernel_rfl)) (fun _ _ _ h=>h) (Or.inl ⟨by rfl,?_⟩) ?_ ?_
  rotate_left
  · intro w'
    go_simp
    with_reducible rfl
  rotate_left
  · simp only [Act.put,List.setIfInBounds_toArray,List.set_cons_zero,List.set_cons_succ,i64_w,i32_w]
    rfl
  refine take_ (i:=1) (N:=some 4) (v:=?_) (a':=?_) #[true,true,true,false,true,false,true,false,true,false,true,false,true,false,false,true,false,true,false,false,false] rfl rfl (take_ofW HT_.out HW_.out (by kernel_rfl)) (fun _ _ _ h=>h) (Or.inl ⟨by rfl,?_⟩) hHeld ?_ ?_
  rotate_left
  · rintro w' ⟨s0,s1,s2,s3,s4,s5,s6,s7,s8⟩
    go_simp
    with_reducible rfl
  rotate_left
  · simp only [Act.put,List.setIfInBounds_toArray,List.set_cons_zero,List.set_cons_succ,i64_w,i32_w]
    rfl
  refine take_ (i:=3) (N:=some 6) (v:=?_) (a':=?_) #[true,true,true,true,true,false,true,false,true,false,true,false,true,false,false,true,false,true,false,false,false] rfl rfl (take_ofW HT_.out HW_.out (by kernel_rfl)) (fun _ _ _ h=>h) (Or.inl ⟨by rfl,?_⟩) hHeld ?_ ?_
  rotate_left
  · rintro w' ⟨s0,s1,s2,s3,s4,s5,s6,s7,s8⟩
    go_simp
    with_reducible rfl
  rotate_left
  · simp only [Act.put,List.setIfInBounds_toArray,List.set_cons_zero,List.set_cons_succ,i64_w,i32_w]
    rfl
  refine take_ (i:=5) (N:=some 8) (v:=?_) (a':=?_) #[true,true,true,true,true,true,true,false,true,false,true,false,true,false,false,true,false,true,false,false,false] rfl rfl (take_ofW HT_.out HW_.out (by kernel_rfl)) (fun _ _ _ h=>h) (Or.inl ⟨by rfl,?_⟩) hHeld ?_ ?_
  rotate_left
  · rintro w' ⟨s0,s1,s2,s3,s4,s5,s6,s7,s8⟩
    go_simp
    with_reducible rfl
  rotate_left
  · simp only [Act.put,List.setIfInBounds_toArray,List.set_cons_zero,List.set_cons_succ,i64_w,i32_w]
    rfl
  refine take_ (i:=7) (N:=some 10) (v:=?_) (a':=?_) #[true,true,true,true,true,true,true,true,true,false,true,false,true,false,false,true,false,true,false,false,false] rfl rfl (take_ofW HT_.out HW_.out (by kernel_rfl)) (fun _ _ _ h=>h) (Or.inl ⟨by rfl,?_⟩) hHeld ?_ ?_
  rotate_left
  · rintro w' ⟨s0,s1,s2,s3,s4,s5,s6,s7,s8⟩
    go_simp
    with_reducible rfl
  rotate_left
  · simp only [Act.put,List.setIfInBounds_toArray,List.set_cons_zero,List.set_cons_succ,i64_w,i32_w]
    rfl
  refine take_ (i:=9) (N:=some 12) (v:=?_) (a':=?_) #[true,true,true,true,true,true,true,true,true,true,true,false,true,false,false,true,false,true,false,false,false] rfl rfl (take_ofW HT_.out HW_.out (by kernel_rfl)) (fun _ _ _ h=>h) (Or.inl ⟨by rfl,?_⟩) hHeld ?_ ?_
  rotate_left
  · rintro w' ⟨s0,s1,s2,s3,s4,s5,s6,s7,s8⟩
    go_simp
    with_reducible rfl
  rotate_left
  · simp only [Act.put,List.setIfInBounds_toArray,List.set_cons_zero,List.set_cons_succ,i64_w,i32_w]
    rfl
  refine take_ (i:=11) (N:=some 14) (v:=?_) (a':=?_) #[true,true,true,true,true,true,true,true,true,true,true,true,true,false,false,true,false,true,false,false,false] rfl rfl (take_ofW HT_.out HW_.out (by kernel_rfl)) (fun _ _ _ h=>h) (Or.inl ⟨by rfl,?_⟩) hHeld ?_ ?_
  rotate_left
  · rintro w' ⟨s0,s1,s2,s3,s4,s5,s6,s7,s8⟩
    go_simp
    with_reducible rfl
  rotate_left
  · simp only [Act.put,List.setIfInBounds_toArray,List.set_cons_zero,List.set_cons_succ,i64_w,i32_w]
    rfl
  refine take_ (i:=13) (N:=some 16) (v:=?_) (a':=?_) #[true,true,true,true,true,true,true,true,true,true,true,true,true,true,false,true,false,true,false,false,false] rfl rfl (take_ofW HT_.out HW_.out (by kernel_rfl)) (fun _ _ _ h=>h) (Or.inl ⟨by rfl,?_⟩) hHeld ?_ ?_
  rotate_left
  · rintro w' ⟨s0,s1,s2,s3,s4,s5,s6,s7,s8⟩
    go_simp
    with_reducible rfl
  rotate_left
  · simp only [Act.put,List.setIfInBounds_toArray,List.set_cons_zero,List.set_cons_succ,i64_w,i32_w]
    rfl
  refine take_ (i:=16) (N:=some 19) (v:=?_) (a':=?_) #[true,true,true,true,true,true,true,true,true,true,true,true,true,true,false,true,true,true,false,false,false] rfl rfl (take_ofW HT_.out HW_.out (by kernel_rfl)) (fun _ _ _ h=>h) (Or.inl ⟨by rfl,?_⟩) hHeld ?_ ?_
  rotate_left
  · rintro w' ⟨s0,s1,s2,s3,s4,s5,s6,s7,s8⟩
    go_simp
    with_reducible rfl
  rotate_left
  · simp only [Act.put,List.setIfInBounds_toArray,List.set_cons_zero,List.set_cons_succ,i64_w,i32_w]
    rfl
  refine take_ (i:=18) (N:=some 21) (v:=?_) (a':=?_) #[true,true,true,true,true,true,true,true,true,true,true,true,true,true,false,true,true,true,true,false,false] rfl rfl (take_ofW HT_.out HW_.out (by kernel_rfl)) (fun _ _ _ h=>h) (Or.inl ⟨by rfl,?_⟩) hHeld ?_ ?_
  rotate_left
  · rintro w' ⟨s0,s1,s2,s3,s4,s5,s6,s7,s8⟩
    go_simp
    with_reducible rfl
  rotate_left
  · simp only [Act.put,List.setIfInBounds_toArray,List.set_cons_zero,List.set_cons_succ,i64_w,i32_w]
    rfl
  refine one_ (i:=14) (N:=some 17) #[true,true,true,true,true,true,true,true,true,true,true,true,true,true,true,true,true,true,true,false,false] rfl rfl (one_of HT_.out (by kernel_rfl)) (by decide) (fun K hK=>?_)
  refine goes_ Try.func25 (by kernel_rfl) rfl #[.slice A0_6 l0_6.length c0_6] (by rfl) rfl rfl (by(try simp only [List.map_toArray,List.map_cons,List.map_nil]);first|done|rfl|(simp only [List.length_drop,List.length_take];rfl)) ?_
  with_reducible refine(undercroftplain_CopyLists.calls k _ _ l0_6 t192 _ ?side1 ?side2 A2.out).mono ?_
  (case side1=>repeat (first|exact(Kd.C_below HR0_6.out HB.out)|(with_reducible refine Kd.C_alloc ?_ _)|(with_reducible refine Kd.C_drewN ?_ _)|(with_reducible refine Kd.C_drew ?_)))
  (case side2=>exact HC0_6.out)
  rintro e w6 ⟨v193,rfl,ho0,hb⟩
  refine⟨_,rfl,?_⟩
  have n0_:=Aside0.mk (Kd.S_lower ho0 (below_size (by repeat (first|(with_reducible first|exact HB.out|apply below_alloc|apply pw_below_drewN|apply below_drew1|refine below_set ?_ GE190.out|refine below_set ?_ GE191.out)|exact HB.out))))
  have n1_:=Aside0.mk (blk_below (g:=gb190) (o:=.cells #[.int .i64 a0_0,.int .i64 a0_1,.int .i64 a0_2,.int .i64 a0_3,.int .i64 a0_4,.int .i64 a0_5,.slice A0_6 l0_6.length c0_6,.int .i64 a0_7,.int .i64 a0_8] 45 (0,0)) (by(with_reducible repeat (first|refine blk_drewN ?_ _|refine blk_drew ?_|refine blk_alloc ?_ _));exact BK190.out) hb)
  have n2_:=Aside0.mk (blk_below (g:=gb191) (o:=.cells #[.int .i64 0,.int .i64 0,.int .i64 0,.int .i64 0,.int .i64 0,.int .i64 0,.slice none 0 0,.int .i64 0,.int .i64 0] 37 (0,0)) (by(with_reducible repeat (first|refine blk_drewN ?_ _|refine blk_drew ?_|refine blk_alloc ?_ _));exact BK191.out) hb)
  have n3_:=Aside0.mk (below_step (by repeat (first|(with_reducible first|exact HB.out|apply below_alloc|apply pw_below_drewN|apply below_drew1|refine below_set ?_ GE190.out|refine below_set ?_ GE191.out)|exact HB.out)) hb)
  clear BK190
  clear BK191
  clear HB
  have HO194:=n0_
  have BK190:=n1_
  have BK191:=n2_
  have HB:=n3_
  clear n0_ n1_ n2_ n3_
  (try clear hb)
  (try clear hb2)
  (try clear hk)
  (try clear hi)
  (try clear ho0)
  obtain ⟨Ao7,co7,eo7⟩:=Kd.S_slice HO194.out
  (first|subst eo7|(injection eo7 with f1_ f2_ f3_;have f4_:=f1_.symm;have f5_:=f3_.symm;clear f1_ f2_ f3_;subst f4_;subst f5_))
  refine hK.out _ _ ⟨(blk_cell BK190.out 0).trans rfl,(blk_cell BK190.out 1).trans rfl,(blk_cell BK190.out 2).trans rfl,(blk_cell BK190.out 3).trans rfl,(blk_cell BK190.out 4).trans rfl,(blk_cell BK190.out 5).trans rfl,(blk_cell BK190.out 6).trans rfl,(blk_cell BK190.out 7).trans rfl,(blk_cell BK190.out 8).trans rfl⟩ (fun hHeld=>?_)
  clear hK K
  refine norm_ (a':=?_) ?_ ?_
  rotate_left
  · show Act.put _ (some 17) _ = _
    simp only [Act.put,List.setIfInBounds_toArray,List.set_cons_zero,List.set_cons_succ,i64_w,i32_w]
    rfl
  refine pure_ (i:=19) (N:=some 22) (v:=?_) (a':=?_) #[true,true,true,true,true,true,true,true,true,true,true,true,true,true,true,true,true,true,true,true,false] rfl rfl (any_of HT_.out (by kernel_rfl)) (fun _ _ _ h=>h) (Or.inl ⟨by rfl,?_⟩) ?_ ?_
  rotate_left
  · intro w'
    go_simp
    with_reducible rfl
  rotate_left
  · simp only [Act.put,List.setIfInBounds_toArray,List.set_cons_zero,List.set_cons_succ,i64_w,i32_w]
    rfl
  refine one_ (i:=20) (N:=none) #[true,true,true,true,true,true,true,true,true,true,true,true,true,true,true,true,true,true,true,true,true] rfl rfl (one_of HT_.out (by kernel_rfl)) (by decide) (fun K hK=>?_)
  have hs8 : w6.cell? ⟨gb191,0,none⟩ = some (.int .i64 0):=(blk_cell BK191.out 0).trans rfl
  have hfs8:=blk_frozen BK191.out 0
  have hns8_0:=NB190_191.out
  have hms8_0:=NB191_190.out
  have hs9 : w6.cell? ⟨gb191,1,none⟩ = some (.int .i64 0):=(blk_cell BK191.out 1).trans rfl
  have hfs9:=blk_frozen BK191.out 1
  have hns9_0:=NB190_191.out
  have hms9_0:=NB191_190.out
  have hs10 : w6.cell? ⟨gb191,2,none⟩ = some (.int .i64 0):=(blk_cell BK191.out 2).trans rfl
  have hfs10:=blk_frozen BK191.out 2
  have hns10_0:=NB190_191.out
  have hms10_0:=NB191_190.out
  have hs11 : w6.cell? ⟨gb191,3,none⟩ = some (.int .i64 0):=(blk_cell BK191.out 3).trans rfl
  have hfs11:=blk_frozen BK191.out 3
  have hns11_0:=NB190_191.out
  have hms11_0:=NB191_190.out
  have hs12 : w6.cell? ⟨gb191,4,none⟩ = some (.int .i64 0):=(blk_cell BK191.out 4).trans rfl
  have hfs12:=blk_frozen BK191.out 4
  have hns12_0:=NB190_191.out
  have hms12_0:=NB191_190.out
  have hs13 : w6.cell? ⟨gb191,5,none⟩ = some (.int .i64 0):=(blk_cell BK191.out 5).trans rfl
  have hfs13:=blk_frozen BK191.out 5
  have hns13_0:=NB190_191.out
  have hms13_0:=NB191_190.out
  have hs14 : w6.cell? ⟨gb191,6,none⟩ = some (.slice none 0 0):=(blk_cell BK191.out 6).trans rfl
  have hfs14:=blk_frozen BK191.out 6
  have hns14_0:=NB190_191.out
  have hms14_0:=NB191_190.out
  have hs15 : w6.cell? ⟨gb191,7,none⟩ = some (.int .i64 0):=(blk_cell BK191.out 7).trans rfl
  have hfs15:=blk_frozen BK191.out 7
  have hns15_0:=NB190_191.out
  have hms15_0:=NB191_190.out
  have hs16 : w6.cell? ⟨gb191,8,none⟩ = some (.int .i64 0):=(blk_cell BK191.out 8).trans rfl
  have hfs16:=blk_frozen BK191.out 8
  have hns16_0:=NB190_191.out
  have hms16_0:=NB191_190.out
  refine skip_ (w1:=?_) (by rfl) rfl ?_ ?_
  rotate_left
  · go_simp
    rfl
  refine hK.out _ _ ⟨((cell_far (p:=⟨gb191,_,none⟩) NB190_191.out _).trans (((cell_far (p:=⟨gb191,_,none⟩) NB190_191.out _).trans (((cell_far (p:=⟨gb191,_,none⟩) NB190_191.out _).trans (((cell_far (p:=⟨gb191,_,none⟩) NB190_191.out _).trans (((cell_far (p:=⟨gb191,_,none⟩) NB190_191.out _).trans (((cell_far (p:=⟨gb191,_,none⟩) NB190_191.out _).trans (((cell_far (p:=⟨gb191,_,none⟩) NB190_191.out _).trans (((cell_far (p:=⟨gb191,_,none⟩) NB190_191.out _).trans (((cell_far (p:=⟨gb191,_,none⟩) NB190_191.out _).trans (hHeld.1)))))))))))))))))),((cell_far (p:=⟨gb191,_,none⟩) NB190_191.out _).trans (((cell_far (p:=⟨gb191,_,none⟩) NB190_191.out _).trans (((cell_far (p:=⟨gb191,_,none⟩) NB190_191.out _).trans (((cell_far (p:=⟨gb191,_,none⟩) NB190_191.out _).trans (((cell_far (p:=⟨gb191,_,none⟩) NB190_191.out _).trans (((cell_far (p:=⟨gb191,_,none⟩) NB190_191.out _).trans (((cell_far (p:=⟨gb191,_,none⟩) NB190_191.out _).trans (((cell_far (p:=⟨gb191,_,none⟩) NB190_191.out _).trans (((cell_far (p:=⟨gb191,_,none⟩) NB190_191.out _).trans (hHeld.2.1)))))))))))))))))),((cell_far (p:=⟨gb191,_,none⟩) NB190_191.out _).trans (((cell_far (p:=⟨gb191,_,none⟩) NB190_191.out _).trans (((cell_far (p:=⟨gb191,_,none⟩) NB190_191.out _).trans (((cell_far (p:=⟨gb191,_,none⟩) NB190_191.out _).trans (((cell_far (p:=⟨gb191,_,none⟩) NB190_191.out _).trans (((cell_far (p:=⟨gb191,_,none⟩) NB190_191.out _).trans (((cell_far (p:=⟨gb191,_,none⟩) NB190_191.out _).trans (((cell_far (p:=⟨gb191,_,none⟩) NB190_191.out _).trans (((cell_far (p:=⟨gb191,_,none⟩) NB190_191.out _).trans (hHeld.2.2.1)))))))))))))))))),((cell_far (p:=⟨gb191,_,none⟩) NB190_191.out _).trans (((cell_far (p:=⟨gb191,_,none⟩) NB190_191.out _).trans (((cell_far (p:=⟨gb191,_,none⟩) NB190_191.out _).trans (((cell_far (p:=⟨gb191,_,none⟩) NB190_191.out _).trans (((cell_far (p:=⟨gb191,_,none⟩) NB190_191.out _).trans (((cell_far (p:=⟨gb191,_,none⟩) NB190_191.out _).trans (((cell_far (p:=⟨gb191,_,none⟩) NB190_191.out _).trans (((cell_far (p:=⟨gb191,_,none⟩) NB190_191.out _).trans (((cell_far (p:=⟨gb191,_,none⟩) NB190_191.out _).trans (hHeld.2.2.2.1)))))))))))))))))),((cell_far (p:=⟨gb191,_,none⟩) NB190_191.out _).trans (((cell_far (p:=⟨gb191,_,none⟩) NB190_191.out _).trans (((cell_far (p:=⟨gb191,_,none⟩) NB190_191.out _).trans (((cell_far (p:=⟨gb191,_,none⟩) NB190_191.out _).trans (((cell_far (p:=⟨gb191,_,none⟩) NB190_191.out _).trans (((cell_far (p:=⟨gb191,_,none⟩) NB190_191.out _).trans (((cell_far (p:=⟨gb191,_,none⟩) NB190_191.out _).trans (((cell_far (p:=⟨gb191,_,none⟩) NB190_191.out _).trans (((cell_far (p:=⟨gb191,_,none⟩) NB190_191.out _).trans (hHeld.2.2.2.2.1)))))))))))))))))),((cell_far (p:=⟨gb191,_,none⟩) NB190_191.out _).trans (((cell_far (p:=⟨gb191,_,none⟩) NB190_191.out _).trans (((cell_far (p:=⟨gb191,_,none⟩) NB190_191.out _).trans (((cell_far (p:=⟨gb191,_,none⟩) NB190_191.out _).trans (((cell_far (p:=⟨gb191,_,none⟩) NB190_191.out _).trans (((cell_far (p:=⟨gb191,_,none⟩) NB190_191.out _).trans (((cell_far (p:=⟨gb191,_,none⟩) NB190_191.out _).trans (((cell_far (p:=⟨gb191,_,none⟩) NB190_191.out _).trans (((cell_far (p:=⟨gb191,_,none⟩) NB190_191.out _).trans (hHeld.2.2.2.2.2.1)))))))))))))))))),((cell_far (p:=⟨gb191,_,none⟩) NB190_191.out _).trans (((cell_far (p:=⟨gb191,_,none⟩) NB190_191.out _).trans (((cell_far (p:=⟨gb191,_,none⟩) NB190_191.out _).trans (((cell_far (p:=⟨gb191,_,none⟩) NB190_191.out _).trans (((cell_far (p:=⟨gb191,_,none⟩) NB190_191.out _).trans (((cell_far (p:=⟨gb191,_,none⟩) NB190_191.out _).trans (((cell_far (p:=⟨gb191,_,none⟩) NB190_191.out _).trans (((cell_far (p:=⟨gb191,_,none⟩) NB190_191.out _).trans (((cell_far (p:=⟨gb191,_,none⟩) NB190_191.out _).trans (hHeld.2.2.2.2.2.2.1)))))))))))))))))),((cell_far (p:=⟨gb191,_,none⟩) NB190_191.out _).trans (((cell_far (p:=⟨gb191,_,none⟩) NB190_191.out _).trans (((cell_far (p:=⟨gb191,_,none⟩) NB190_191.out _).trans (((cell_far (p:=⟨gb191,_,none⟩) NB190_191.out _).trans (((cell_far (p:=⟨gb191,_,none⟩) NB190_191.out _).trans (((cell_far (p:=⟨gb191,_,none⟩) NB190_191.out _).trans (((cell_far (p:=⟨gb191,_,none⟩) NB190_191.out _).trans (((cell_far (p:=⟨gb191,_,none⟩) NB190_191.out _).trans (((cell_far (p:=⟨gb191,_,none⟩) NB190_191.out _).trans (hHeld.2.2.2.2.2.2.2.1)))))))))))))))))),((cell_far (p:=⟨gb191,_,none⟩) NB190_191.out _).trans (((cell_far (p:=⟨gb191,_,none⟩) NB190_191.out _).trans (((cell_far (p:=⟨gb191,_,none⟩) NB190_191.out _).trans (((cell_far (p:=⟨gb191,_,none⟩) NB190_191.out _).trans (((cell_far (p:=⟨gb191,_,none⟩) NB190_191.out _).trans (((cell_far (p:=⟨gb191,_,none⟩) NB190_191.out _).trans (((cell_far (p:=⟨gb191,_,none⟩) NB190_191.out _).trans (((cell_far (p:=⟨gb191,_,none⟩) NB190_191.out _).trans (((cell_far (p:=⟨gb191,_,none⟩) NB190_191.out _).trans (hHeld.2.2.2.2.2.2.2.2))))))))))))))))))⟩ (fun hHeld=>?_)
  clear hK K
  refine done_ (done_of HT_.out (by kernel_rfl)) ?_
  try go_wp2
  refine bodyPost_ret (results_cell_row rfl _ _ gb191 37 #[.int .i64 a0_0,.int .i64 a0_1,.int .i64 a0_2,.int .i64 a0_3,.int .i64 a0_4,.int .i64 a0_5,.slice Ao7 t192.length co7,.int .i64 a0_7,.int .i64 a0_8] (0,0) _ rfl (by(with_reducible repeat (first|refine blk_drewN ?_ _|refine blk_drew ?_|refine blk_alloc ?_ _));refine blk_put (cs:=#[.int .i64 a0_0,.int .i64 a0_1,.int .i64 a0_2,.int .i64 a0_3,.int .i64 a0_4,.int .i64 a0_5,.slice Ao7 t192.length co7,.int .i64 a0_7,.int .i64 0]) ?_ 8 _ rfl;(with_reducible repeat (first|refine blk_drewN ?_ _|refine blk_drew ?_|refine blk_alloc ?_ _));refine blk_put (cs:=#[.int .i64 a0_0,.int .i64 a0_1,.int .i64 a0_2,.int .i64 a0_3,.int .i64 a0_4,.int .i64 a0_5,.slice Ao7 t192.length co7,.int .i64 0,.int .i64 0]) ?_ 7 _ rfl;(with_reducible repeat (first|refine blk_drewN ?_ _|refine blk_drew ?_|refine blk_alloc ?_ _));refine blk_put (cs:=#[.int .i64 a0_0,.int .i64 a0_1,.int .i64 a0_2,.int .i64 a0_3,.int .i64 a0_4,.int .i64 a0_5,.slice none 0 0,.int .i64 0,.int .i64 0]) ?_ 6 _ rfl;(with_reducible repeat (first|refine blk_drewN ?_ _|refine blk_drew ?_|refine blk_alloc ?_ _));refine blk_put (cs:=#[.int .i64 a0_0,.int .i64 a0_1,.int .i64 a0_2,.int .i64 a0_3,.int .i64 a0_4,.int .i64 0,.slice none 0 0,.int .i64 0,.int .i64 0]) ?_ 5 _ rfl;(with_reducible repeat (first|refine blk_drewN ?_ _|refine blk_drew ?_|refine blk_alloc ?_ _));refine blk_put (cs:=#[.int .i64 a0_0,.int .i64 a0_1,.int .i64 a0_2,.int .i64 a0_3,.int .i64 0,.int .i64 0,.slice none 0 0,.int .i64 0,.int .i64 0]) ?_ 4 _ rfl;(with_reducible repeat (first|refine blk_drewN ?_ _|refine blk_drew ?_|refine blk_alloc ?_ _));refine blk_put (cs:=#[.int .i64 a0_0,.int .i64 a0_1,.int .i64 a0_2,.int .i64 0,.int .i64 0,.int .i64 0,.slice none 0 0,.int .i64 0,.int .i64 0]) ?_ 3 _ rfl;(with_reducible repeat (first|refine blk_drewN ?_ _|refine blk_drew ?_|refine blk_alloc ?_ _));refine blk_put (cs:=#[.int .i64 a0_0,.int .i64 a0_1,.int .i64 0,.int .i64 0,.int .i64 0,.int .i64 0,.slice none 0 0,.int .i64 0,.int .i64 0]) ?_ 2 _ rfl;(with_reducible repeat (first|refine blk_drewN ?_ _|refine blk_drew ?_|refine blk_alloc ?_ _));refine blk_put (cs:=#[.int .i64 a0_0,.int .i64 0,.int .i64 0,.int .i64 0,.int .i64 0,.int .i64 0,.slice none 0 0,.int .i64 0,.int .i64 0]) ?_ 1 _ rfl;(with_reducible repeat (first|refine blk_drewN ?_ _|refine blk_drew ?_|refine blk_alloc ?_ _));refine blk_put (cs:=#[.int .i64 0,.int .i64 0,.int .i64 0,.int .i64 0,.int .i64 0,.int .i64 0,.slice none 0 0,.int .i64 0,.int .i64 0]) ?_ 0 _ rfl;(with_reducible repeat (first|refine blk_drewN ?_ _|refine blk_drew ?_|refine blk_alloc ?_ _));exact BK191.out) Try.underlying37 rfl (by kernel_rfl)) rfl ?_
  exact⟨_,by first|rfl|(simp [errW_none,errW_some] <;> rfl)|(simp [*,errW_none,errW_some] <;> rfl),by(with_reducible repeat (first|apply Kd.S_alloc|apply Kd.S_drewN|apply Kd.S_drew));exact Kd.S_mono (Kd.S_far (p:=⟨gb191,8,none⟩) (Kd.S_far (p:=⟨gb191,7,none⟩) (Kd.S_far (p:=⟨gb191,6,none⟩) (Kd.S_far (p:=⟨gb191,5,none⟩) (Kd.S_far (p:=⟨gb191,4,none⟩) (Kd.S_far (p:=⟨gb191,3,none⟩) (Kd.S_far (p:=⟨gb191,2,none⟩) (Kd.S_far (p:=⟨gb191,1,none⟩) (Kd.S_far (p:=⟨gb191,0,none⟩) (Kd.S_types HO194.out BK191.out (by decide)) (fun _ hk=>hk.2) (.int .i64 a0_0)) (fun _ hk=>hk.2) (.int .i64 a0_1)) (fun _ hk=>hk.2) (.int .i64 a0_2)) (fun _ hk=>hk.2) (.int .i64 a0_3)) (fun _ hk=>hk.2) (.int .i64 a0_4)) (fun _ hk=>hk.2) (.int .i64 a0_5)) (fun _ hk=>hk.2) (.slice Ao7 t192.length co7)) (fun _ hk=>hk.2) (.int .i64 a0_7)) (fun _ hk=>hk.2) (.int .i64 a0_8)) (fun _ hk=>trivial),by repeat (first|(with_reducible first|exact HB.out|apply below_alloc|apply pw_below_drewN|apply below_drew1|refine below_set ?_ GE190.out|refine below_set ?_ GE191.out)|exact HB.out)⟩
def undercroftlaw19_OfEvent.f (k : Nat) (a0_0 : Int) (a0_1 : Int) (a0_2 : Int) (a0_3 : Int) (a0_4 : Int) (a0_5 : Int) (a0_6 : Int) (l0_7 : List (List Int)) (a0_8 : Int) (a0_9 : Int) (l0_10 : List Int) : Option (Int × Int × Int × Int × Int × Int × Int × (List (List Int)) × Int × Int × List Int):=(undercroftlaw19_OfMsg.f k a0_1 a0_2 a0_3 a0_4 a0_5 a0_6 l0_7 a0_8 a0_9).bind fun bt197=>((undercroftplain_CopyBytes.f l0_10).bind fun t208=>(some (a0_0,bt197.1,bt197.2.1,bt197.2.2.1,bt197.2.2.2.1,bt197.2.2.2.2.1,bt197.2.2.2.2.2.1,bt197.2.2.2.2.2.2.1,bt197.2.2.2.2.2.2.2.1,bt197.2.2.2.2.2.2.2.2,t208)))
def undercroftlaw19_OfEvent.T1 : Bool × List (List Nat × List Nat):=(true,[([],[]),([0],[0]),([],[]),([2],[2]),([3],[3]),([],[]),([5],[5]),([6,4],[6]),([1,4,7],[1,4,7]),([8,7,0,1,2,3,4,5,6,7,8],[8])])
def undercroftlaw19_OfEvent.B1 : List Nat:=[0,1,0,4,12,0,32,124,255,511]
theorem undercroftlaw19_OfEvent.tab1 : rtab .any (opsOf Try.f11 1) = undercroftlaw19_OfEvent.T1:=by kernel_rfl
theorem undercroftlaw19_OfEvent.bits1 : waitsOk undercroftlaw19_OfEvent.T1.2 undercroftlaw19_OfEvent.B1 = true:=by kernel_rfl
set_option maxHeartbeats 8000000 in
set_option maxRecDepth 100000 in
theorem undercroftlaw19_OfEvent.calls (k : Nat) (a0_0 : Int) (a0_1 : Int) (a0_2 : Int) (a0_3 : Int) (a0_4 : Int) (a0_5 : Int) (a0_6 : Int) (A0_7 : Option Addr) (c0_7 : Nat) (l0_7 : List (List Int)) (a0_8 : Int) (a0_9 : Int) (A0_10 : Option Addr) (c0_10 : Nat) (l0_10 : List Int) (r1 : Int) (r2 : Int) (r3 : Int) (r4 : Int) (r5 : Int) (r6 : Int) (r7 : Int) (r8 : List (List Int)) (r9 : Int) (r10 : Int) (r11 : List Int) (w : World) (hr0_7 : Kd.C (Kd.slice 5 (Kd.int .u8)) w A0_7 l0_7.length l0_7) (hc0_7 : l0_7.length ≤ c0_7) (hr0_10 : Kd.C (Kd.int .u8) w A0_10 l0_10.length l0_10) (hc0_10 : l0_10.length ≤ c0_10) (h : undercroftlaw19_OfEvent.f k a0_0 a0_1 a0_2 a0_3 a0_4 a0_5 a0_6 l0_7 a0_8 a0_9 l0_10 = some (r1,r2,r3,r4,r5,r6,r7,r8,r9,r10,r11)) :
    Calls Try.prog 11 #[.agg #[.int .i64 a0_0,.int .i64 a0_1,.int .i64 a0_2,.int .i64 a0_3,.int .i64 a0_4,.int .i64 a0_5,.int .i64 a0_6,.slice A0_7 l0_7.length c0_7,.int .i64 a0_8,.int .i64 a0_9,.slice A0_10 l0_10.length c0_10]] w fun e w'=>∃ v7_ v10_ : Value,e = .returned (.agg #[.int .i64 r1,.int .i64 r2,.int .i64 r3,.int .i64 r4,.int .i64 r5,.int .i64 r6,.int .i64 r7,v7_,.int .i64 r9,.int .i64 r10,v10_])∧Kd.S (Kd.slice 5 (Kd.int .u8)) 22 w' w.heap.size (fun k_=>some k_ ≠ (v10_ : Value).ownBlock) v7_ r8∧Kd.R (Kd.int .u8) 5 w' w.heap.size (fun _=>True) v10_ r11∧Below w.heap.size w w':=by
  have hu47:=Try.underlying47
  have hu39:=Try.underlying39
  have hu45:=Try.underlying45
  have HR0_7:=Aside0.mk hr0_7
  have HC0_7:=Aside0.mk hc0_7
  clear hr0_7 hc0_7
  have HR0_10:=Aside0.mk hr0_10
  have HC0_10:=Aside0.mk hc0_10
  clear hr0_10 hc0_10
  have HB:=Aside0.mk (Below.refl w.heap.size w)
  have H : ((undercroftlaw19_OfMsg.f k a0_1 a0_2 a0_3 a0_4 a0_5 a0_6 l0_7 a0_8 a0_9).bind fun bt197=>((undercroftplain_CopyBytes.f l0_10).bind fun t208=>(some (a0_0,bt197.1,bt197.2.1,bt197.2.2.1,bt197.2.2.2.1,bt197.2.2.2.2.1,bt197.2.2.2.2.2.1,bt197.2.2.2.2.2.2.1,bt197.2.2.2.2.2.2.2.1,bt197.2.2.2.2.2.2.2.2,t208)))) = some (r1,r2,r3,r4,r5,r6,r7,r8,r9,r10,r11):=h
  clear h
  replace H:=Option.bind_eq_some_iff.mp H
  obtain ⟨⟨t197,t198,t199,t200,t201,t202,t203,t206,t207⟩,A20,H⟩:=H
  replace H : ((undercroftplain_CopyBytes.f l0_10).bind fun t208=>(some (a0_0,t197,t198,t199,t200,t201,t202,t203,t206,t207,t208))) = some (r1,r2,r3,r4,r5,r6,r7,r8,r9,r10,r11):=H
  have A2:=Aside0.mk A20
  clear A20
  replace H:=Option.bind_eq_some_iff.mp H
  obtain ⟨t208,A30,H⟩:=H
  replace H : (some (a0_0,t197,t198,t199,t200,t201,t202,t203,t206,t207,t208)) = some (r1,r2,r3,r4,r5,r6,r7,r8,r9,r10,r11):=H
  have A3:=Aside0.mk A30
  clear A30
  simp only [Option.some.injEq,Prod.mk.injEq] at H
  obtain ⟨rfl,rfl,rfl,rfl,rfl,rfl,rfl,rfl,rfl,rfl,rfl⟩:=H
  go_enter Try.func11,Try.ntmps11
  try go_wp2_with (first|((with_reducible refine gate_dst (N:=1) rfl ?_);refine box_event ?hg (N:=1) ?hd (cs:=#[.int .i64 a0_0,.int .i64 a0_1,.int .i64 a0_2,.int .i64 a0_3,.int .i64 a0_4,.int .i64 a0_5,.int .i64 a0_6,.slice A0_7 l0_7.length c0_7,.int .i64 a0_8,.int .i64 a0_9,.slice A0_10 l0_10.length c0_10]) (t:=47) ?hr ?_;(case hd=>rfl);(case hg=>rfl);(case hr=>first|(go_simp;done)|(go_simp;rfl));intro gb195 hg w4 hbox hb;have n0_:=Aside0.mk (below_step (by repeat (first|(with_reducible first|exact HB.out|apply below_alloc|apply pw_below_drewN|apply below_drew1)|exact HB.out)) hb);have n1_:=Aside0.mk (hbox);have n2_:=Aside0.mk ((by rw [hg];exact(below_size (by repeat (first|(with_reducible first|exact HB.out|apply below_alloc|apply pw_below_drewN|apply below_drew1)|exact HB.out))) : w.heap.size ≤ gb195));have n3_:=Aside0.mk ((by rw [hg];exact(below_size (by repeat (first|(with_reducible first|exact HB.out|apply below_alloc|apply pw_below_drewN|apply below_drew1)|exact HB.out))) : w.heap.size ≤ gb195));clear HB;have HB:=n0_;have BK195:=n1_;have GW195:=n2_;have GE195:=n3_;clear n0_ n1_ n2_ n3_;clear hb hbox hg)|((with_reducible refine gate_dst (N:=2) rfl ?_);refine box_event ?hg (N:=2) ?hd (cs:=#[.int .i64 0,.int .i64 0,.int .i64 0,.int .i64 0,.int .i64 0,.int .i64 0,.int .i64 0,.slice none 0 0,.int .i64 0,.int .i64 0,.slice none 0 0]) (t:=39) ?hr ?_;(case hd=>rfl);(case hg=>rfl);(case hr=>first|(go_simp;done)|(go_simp;rfl));intro gb196 hg w5 hbox hb;have n0_:=Aside0.mk (blk_below (g:=gb195) (o:=.cells #[.int .i64 a0_0,.int .i64 a0_1,.int .i64 a0_2,.int .i64 a0_3,.int .i64 a0_4,.int .i64 a0_5,.int .i64 a0_6,.slice A0_7 l0_7.length c0_7,.int .i64 a0_8,.int .i64 a0_9,.slice A0_10 l0_10.length c0_10] 47 (0,0)) (by(with_reducible repeat (first|refine blk_drewN ?_ _|refine blk_drew ?_|refine blk_alloc ?_ _));exact BK195.out) hb);have n1_:=Aside0.mk (below_step (by repeat (first|(with_reducible first|exact HB.out|apply below_alloc|apply pw_below_drewN|apply below_drew1|refine below_set ?_ GE195.out)|exact HB.out)) hb);have n2_:=Aside0.mk (hbox);have n3_:=Aside0.mk ((by rw [hg];exact(below_size (by repeat (first|(with_reducible first|exact HB.out|apply below_alloc|apply pw_below_drewN|apply below_drew1|refine below_set ?_ GE195.out)|exact HB.out))) : w.heap.size ≤ gb196));have n4_:=Aside0.mk ((by rw [hg];exact(below_size (by repeat (first|(with_reducible first|exact HB.out|apply below_alloc|apply pw_below_drewN|apply below_drew1|refine below_set ?_ GE195.out)|exact HB.out))) : w.heap.size ≤ gb196));have n5_:=Aside0.mk ((by rw [hg];exact Nat.ne_of_lt (blk_lt (g:=gb195) (o:=.cells #[.int .i64 a0_0,.int .i64 a0_1,.int .i64 a0_2,.int .i64 a0_3,.int .i64 a0_4,.int .i64 a0_5,.int .i64 a0_6,.slice A0_7 l0_7.length c0_7,.int .i64 a0_8,.int .i64 a0_9,.slice A0_10 l0_10.length c0_10] 47 (0,0)) (by(with_reducible repeat (first|refine blk_drewN ?_ _|refine blk_drew ?_|refine blk_alloc ?_ _));exact BK195.out)) : gb195 ≠ gb196));have n6_:=Aside0.mk ((by rw [hg];exact Nat.ne_of_gt (blk_lt (g:=gb195) (o:=.cells #[.int .i64 a0_0,.int .i64 a0_1,.int .i64 a0_2,.int .i64 a0_3,.int .i64 a0_4,.int .i64 a0_5,.int .i64 a0_6,.slice A0_7 l0_7.length c0_7,.int .i64 a0_8,.int .i64 a0_9,.slice A0_10 l0_10.length c0_10] 47 (0,0)) (by(with_reducible repeat (first|refine blk_drewN ?_ _|refine blk_drew ?_|refine blk_alloc ?_ _));exact BK195.out)) : gb196 ≠ gb195));clear BK195;clear HB;have BK195:=n0_;have HB:=n1_;have BK196:=n2_;have GW196:=n3_;have GE196:=n4_;have NB195_196:=n5_;have NB196_195:=n6_;clear n0_ n1_ n2_ n3_ n4_ n5_ n6_;clear hb hbox hg))
  have n0_:=Aside0.mk (blk_drew BK195.out)
  have n1_:=Aside0.mk (blk_drew BK196.out)
  have n2_:=Aside0.mk (below_drew1 HB.out)
  clear BK195
  clear BK196
  clear HB
  have BK195:=n0_
  have BK196:=n1_
  have HB:=n2_
  clear n0_ n1_ n2_
  refine start_ (n:=10) (S:=fun w'=>w'.cell? ⟨gb195,0,none⟩ = some (.int .i64 a0_0)∧w'.cell? ⟨gb195,1,none⟩ = some (.int .i64 a0_1)∧w'.cell? ⟨gb195,2,none⟩ = some (.int .i64 a0_2)∧w'.cell? ⟨gb195,3,none⟩ = some (.int .i64 a0_3)∧w'.cell? ⟨gb195,4,none⟩ = some (.int .i64 a0_4)∧w'.cell? ⟨gb195,5,none⟩ = some (.int .i64 a0_5)∧w'.cell? ⟨gb195,6,none⟩ = some (.int .i64 a0_6)∧w'.cell? ⟨gb195,7,none⟩ = some (.slice A0_7 l0_7.length c0_7)∧w'.cell? ⟨gb195,8,none⟩ = some (.int .i64 a0_8)∧w'.cell? ⟨gb195,9,none⟩ = some (.int .i64 a0_9)∧w'.cell? ⟨gb195,10,none⟩ = some (.slice A0_10 l0_10.length c0_10)) (ds:=[]) #[false,false,false,false,false,false,false,false,false,false] (by kernel_rfl) rfl rfl ⟨(blk_cell BK195.out 0).trans rfl,(blk_cell BK195.out 1).trans rfl,(blk_cell BK195.out 2).trans rfl,(blk_cell BK195.out 3).trans rfl,(blk_cell BK195.out 4).trans rfl,(blk_cell BK195.out 5).trans rfl,(blk_cell BK195.out 6).trans rfl,(blk_cell BK195.out 7).trans rfl,(blk_cell BK195.out 8).trans rfl,(blk_cell BK195.out 9).trans rfl,(blk_cell BK195.out 10).trans rfl⟩ (fun hHeld=>?_);refine with_tabW undercroftlaw19_OfEvent.tab1 undercroftlaw19_OfEvent.bits1 (fun HT_ HW_=>?_)
  generalize w5.drew = w6 at BK195 BK196 HB hHeld ⊢
  refine pure_ (i:=0) (N:=some 3) (v:=?_) (a':=?_) #[true,false,false,false,false,false,false,false,false,false] rfl rfl (any_of HT_.out (by kernel_rfl)) (fun _ _ _ h=>h) (Or.inl ⟨by rfl,?_⟩) ?_ ?_
  rotate_left
  · intro w'
    go_simp
    with_reducible rfl
  rotate_left
  · simp only [Act.put,List.setIfInBounds_toArray,List.set_cons_zero,List.set_cons_succ,i64_w,i32_w]
    rfl
  refine pure_ (i:=2) (N:=some 5) (v:=?_) (a':=?_) #[true,false,true,false,false,false,false,false,false,false] rfl rfl (any_of HT_.out (by kernel_rfl)) (fun _ _ _ h=>h) (Or.inl ⟨by rfl,?_⟩) ?_ ?_
  rotate_left
  · intro w'
    go_simp
    with_reducible rfl
  rotate_left
  · simp only [Act.put,List.setIfInBounds_toArray,List.set_cons_zero,List.set_cons_succ,i64_w,i32_w]
    rfl
  refine pure_ (i:=5) (N:=some 8) (v:=?_) (a':=?_) #[true,false,true,false,false,true,false,false,false,false] rfl rfl (any_of HT_.out (by kernel_rfl)) (fun _ _ _ h=>h) (Or.inl ⟨by rfl,?_⟩) ?_ ?_
  rotate_left
  · intro w'
    go_simp
    with_reducible rfl
  rotate_left
  · simp only [Act.put,List.setIfInBounds_toArray,List.set_cons_zero,List.set_cons_succ,i64_w,i32_w]
    rfl
  refine take_ (i:=1) (N:=some 4) (v:=?_) (a':=?_) #[true,true,true,false,false,true,false,false,false,false] rfl rfl (take_ofW HT_.out HW_.out (by kernel_rfl)) (fun _ _ _ h=>h) (Or.inl ⟨by rfl,?_⟩) hHeld ?_ ?_
  rotate_left
  · rintro w' ⟨s0,s1,s2,s3,s4,s5,s6,s7,s8,s9,s10⟩
    go_simp
    with_reducible rfl
  rotate_left
  · simp only [Act.put,List.setIfInBounds_toArray,List.set_cons_zero,List.set_cons_succ,i64_w,i32_w]
    rfl
  refine take_ (i:=3) (N:=some 6) (v:=?_) (a':=?_) #[true,true,true,true,false,true,false,false,false,false] rfl rfl (take_ofW HT_.out HW_.out (by kernel_rfl)) (fun _ _ _ h=>h) (Or.inl ⟨by rfl,?_⟩) hHeld ?_ ?_
  rotate_left
  · rintro w' ⟨s0,s1,s2,s3,s4,s5,s6,s7,s8,s9,s10⟩
    go_simp
    with_reducible rfl
  rotate_left
  · simp only [Act.put,List.setIfInBounds_toArray,List.set_cons_zero,List.set_cons_succ,i64_w,i32_w]
    rfl
  refine take_ (i:=6) (N:=some 9) (v:=?_) (a':=?_) #[true,true,true,true,false,true,true,false,false,false] rfl rfl (take_ofW HT_.out HW_.out (by kernel_rfl)) (fun _ _ _ h=>h) (Or.inl ⟨by rfl,?_⟩) hHeld ?_ ?_
  rotate_left
  · rintro w' ⟨s0,s1,s2,s3,s4,s5,s6,s7,s8,s9,s10⟩
    go_simp
    with_reducible rfl
  rotate_left
  · simp only [Act.put,List.setIfInBounds_toArray,List.set_cons_zero,List.set_cons_succ,i64_w,i32_w]
    rfl
  refine one_ (i:=4) (N:=some 7) #[true,true,true,true,true,true,true,false,false,false] rfl rfl (one_of HT_.out (by kernel_rfl)) (by decide) (fun K hK=>?_)
  refine goes_ Try.func28 (by kernel_rfl) rfl #[.agg #[.int .i64 a0_1,.int .i64 a0_2,.int .i64 a0_3,.int .i64 a0_4,.int .i64 a0_5,.int .i64 a0_6,.slice A0_7 l0_7.length c0_7,.int .i64 a0_8,.int .i64 a0_9]] (by rfl) rfl rfl (by(try simp only [List.map_toArray,List.map_cons,List.map_nil]);first|done|rfl|(simp only [List.length_drop,List.length_take];rfl)) ?_
  with_reducible refine(undercroftlaw19_OfMsg.calls k a0_1 a0_2 a0_3 a0_4 a0_5 a0_6 _ _ l0_7 a0_8 a0_9 t197 t198 t199 t200 t201 t202 t203 t206 t207 _ ?side1 ?side2 A2.out).mono ?_
  (case side1=>repeat (first|exact(Kd.C_below HR0_7.out HB.out)|(with_reducible refine Kd.C_alloc ?_ _)|(with_reducible refine Kd.C_drewN ?_ _)|(with_reducible refine Kd.C_drew ?_)))
  (case side2=>exact HC0_7.out)
  rintro e w7 ⟨v204,rfl,ho0,hb⟩
  refine⟨_,rfl,?_⟩
  have n0_:=Aside0.mk (Kd.S_lower ho0 (below_size (by repeat (first|(with_reducible first|exact HB.out|apply below_alloc|apply pw_below_drewN|apply below_drew1|refine below_set ?_ GE195.out|refine below_set ?_ GE196.out)|exact HB.out))))
  have n1_:=Aside0.mk (blk_below (g:=gb195) (o:=.cells #[.int .i64 a0_0,.int .i64 a0_1,.int .i64 a0_2,.int .i64 a0_3,.int .i64 a0_4,.int .i64 a0_5,.int .i64 a0_6,.slice A0_7 l0_7.length c0_7,.int .i64 a0_8,.int .i64 a0_9,.slice A0_10 l0_10.length c0_10] 47 (0,0)) (by(with_reducible repeat (first|refine blk_drewN ?_ _|refine blk_drew ?_|refine blk_alloc ?_ _));exact BK195.out) hb)
  have n2_:=Aside0.mk (blk_below (g:=gb196) (o:=.cells #[.int .i64 0,.int .i64 0,.int .i64 0,.int .i64 0,.int .i64 0,.int .i64 0,.int .i64 0,.slice none 0 0,.int .i64 0,.int .i64 0,.slice none 0 0] 39 (0,0)) (by(with_reducible repeat (first|refine blk_drewN ?_ _|refine blk_drew ?_|refine blk_alloc ?_ _));exact BK196.out) hb)
  have n3_:=Aside0.mk (below_step (by repeat (first|(with_reducible first|exact HB.out|apply below_alloc|apply pw_below_drewN|apply below_drew1|refine below_set ?_ GE195.out|refine below_set ?_ GE196.out)|exact HB.out)) hb)
  clear BK195
  clear BK196
  clear HB
  have HO205:=n0_
  have BK195:=n1_
  have BK196:=n2_
  have HB:=n3_
  clear n0_ n1_ n2_ n3_
  (try clear hb)
  (try clear hb2)
  (try clear hk)
  (try clear hi)
  (try clear ho0)
  refine hK.out _ _ ⟨(blk_cell BK195.out 0).trans rfl,(blk_cell BK195.out 1).trans rfl,(blk_cell BK195.out 2).trans rfl,(blk_cell BK195.out 3).trans rfl,(blk_cell BK195.out 4).trans rfl,(blk_cell BK195.out 5).trans rfl,(blk_cell BK195.out 6).trans rfl,(blk_cell BK195.out 7).trans rfl,(blk_cell BK195.out 8).trans rfl,(blk_cell BK195.out 9).trans rfl,(blk_cell BK195.out 10).trans rfl⟩ (fun hHeld=>?_)
  clear hK K
  refine norm_ (a':=?_) ?_ ?_
  rotate_left
  · show Act.put _ (some 7) _ = _
    simp only [Act.put,List.setIfInBounds_toArray,List.set_cons_zero,List.set_cons_succ,i64_w,i32_w]
    rfl
  refine one_ (i:=7) (N:=some 10) #[true,true,true,true,true,true,true,true,false,false] rfl rfl (one_of HT_.out (by kernel_rfl)) (by decide) (fun K hK=>?_)
  refine goes_ Try.func29 (by kernel_rfl) rfl #[.slice A0_10 l0_10.length c0_10] (by rfl) rfl rfl (by(try simp only [List.map_toArray,List.map_cons,List.map_nil]);first|done|rfl|(simp only [List.length_drop,List.length_take];rfl)) ?_
  with_reducible refine(undercroftplain_CopyBytes.calls _ _ l0_10 t208 _ ?side1 ?side2 A3.out).mono ?_
  (case side1=>repeat (first|exact(Kd.C_below HR0_10.out HB.out)|(with_reducible refine Kd.C_alloc ?_ _)|(with_reducible refine Kd.C_drewN ?_ _)|(with_reducible refine Kd.C_drew ?_)))
  (case side2=>exact HC0_10.out)
  rintro e w8 ⟨v209,rfl,ho0,hb⟩
  refine⟨_,rfl,?_⟩
  have n0_:=Aside0.mk (Kd.S_elder' (by(with_reducible repeat (first|apply Kd.S_alloc|apply Kd.S_drewN|apply Kd.S_drew));exact HO205.out) (Kd.R_base ho0) hb)
  have n1_:=Aside0.mk (Kd.R_lower ho0 (below_size (by repeat (first|(with_reducible first|exact HB.out|apply below_alloc|apply pw_below_drewN|apply below_drew1|refine below_set ?_ GE195.out|refine below_set ?_ GE196.out)|exact HB.out))))
  have n2_:=Aside0.mk (blk_below (g:=gb195) (o:=.cells #[.int .i64 a0_0,.int .i64 a0_1,.int .i64 a0_2,.int .i64 a0_3,.int .i64 a0_4,.int .i64 a0_5,.int .i64 a0_6,.slice A0_7 l0_7.length c0_7,.int .i64 a0_8,.int .i64 a0_9,.slice A0_10 l0_10.length c0_10] 47 (0,0)) (by(with_reducible repeat (first|refine blk_drewN ?_ _|refine blk_drew ?_|refine blk_alloc ?_ _));exact BK195.out) hb)
  have n3_:=Aside0.mk (blk_below (g:=gb196) (o:=.cells #[.int .i64 0,.int .i64 0,.int .i64 0,.int .i64 0,.int .i64 0,.int .i64 0,.int .i64 0,.slice none 0 0,.int .i64 0,.int .i64 0,.slice none 0 0] 39 (0,0)) (by(with_reducible repeat (first|refine blk_drewN ?_ _|refine blk_drew ?_|refine blk_alloc ?_ _));exact BK196.out) hb)
  have n4_:=Aside0.mk (below_step (by repeat (first|(with_reducible first|exact HB.out|apply below_alloc|apply pw_below_drewN|apply below_drew1|refine below_set ?_ GE195.out|refine below_set ?_ GE196.out)|exact HB.out)) hb)
  clear HO205
  clear BK195
  clear BK196
  clear HB
  have HO205:=n0_
  have HO210:=n1_
  have BK195:=n2_
  have BK196:=n3_
  have HB:=n4_
  clear n0_ n1_ n2_ n3_ n4_
  (try clear hb)
  (try clear hb2)
  (try clear hk)
  (try clear hi)
  (try clear ho0)
  obtain ⟨Ao9,co9,eo9⟩:=Kd.R_slice HO210.out
  (first|subst eo9|(injection eo9 with f1_ f2_ f3_;have f4_:=f1_.symm;have f5_:=f3_.symm;clear f1_ f2_ f3_;subst f4_;subst f5_))
  obtain ⟨Ao10,co10,eo10⟩:=Kd.S_slice HO205.out
  (first|subst eo10|(injection eo10 with f1_ f2_ f3_;have f4_:=f1_.symm;have f5_:=f3_.symm;clear f1_ f2_ f3_;subst f4_;subst f5_))
  refine hK.out _ _ ⟨(blk_cell BK195.out 0).trans rfl,(blk_cell BK195.out 1).trans rfl,(blk_cell BK195.out 2).trans rfl,(blk_cell BK195.out 3).trans rfl,(blk_cell BK195.out 4).trans rfl,(blk_cell BK195.out 5).trans rfl,(blk_cell BK195.out 6).trans rfl,(blk_cell BK195.out 7).trans rfl,(blk_cell BK195.out 8).trans rfl,(blk_cell BK195.out 9).trans rfl,(blk_cell BK195.out 10).trans rfl⟩ (fun hHeld=>?_)
  clear hK K
  refine norm_ (a':=?_) ?_ ?_
  rotate_left
  · show Act.put _ (some 10) _ = _
    simp only [Act.put,List.setIfInBounds_toArray,List.set_cons_zero,List.set_cons_succ,i64_w,i32_w]
    rfl
  refine pure_ (i:=8) (N:=some 11) (v:=?_) (a':=?_) #[true,true,true,true,true,true,true,true,true,false] rfl rfl (any_of HT_.out (by kernel_rfl)) (fun _ _ _ h=>h) (Or.inl ⟨by rfl,?_⟩) ?_ ?_
  rotate_left
  · intro w'
    go_simp
    with_reducible rfl
  rotate_left
  · simp only [Act.put,List.setIfInBounds_toArray,List.set_cons_zero,List.set_cons_succ,i64_w,i32_w]
    rfl
  refine one_ (i:=9) (N:=none) #[true,true,true,true,true,true,true,true,true,true] rfl rfl (one_of HT_.out (by kernel_rfl)) (by decide) (fun K hK=>?_)
  have hs11 : w8.cell? ⟨gb196,0,none⟩ = some (.int .i64 0):=(blk_cell BK196.out 0).trans rfl
  have hfs11:=blk_frozen BK196.out 0
  have hns11_0:=NB195_196.out
  have hms11_0:=NB196_195.out
  have hs12 : w8.cell? ⟨gb196,1,none⟩ = some (.int .i64 0):=(blk_cell BK196.out 1).trans rfl
  have hfs12:=blk_frozen BK196.out 1
  have hns12_0:=NB195_196.out
  have hms12_0:=NB196_195.out
  have hs13 : w8.cell? ⟨gb196,2,none⟩ = some (.int .i64 0):=(blk_cell BK196.out 2).trans rfl
  have hfs13:=blk_frozen BK196.out 2
  have hns13_0:=NB195_196.out
  have hms13_0:=NB196_195.out
  have hs14 : w8.cell? ⟨gb196,3,none⟩ = some (.int .i64 0):=(blk_cell BK196.out 3).trans rfl
  have hfs14:=blk_frozen BK196.out 3
  have hns14_0:=NB195_196.out
  have hms14_0:=NB196_195.out
  have hs15 : w8.cell? ⟨gb196,4,none⟩ = some (.int .i64 0):=(blk_cell BK196.out 4).trans rfl
  have hfs15:=blk_frozen BK196.out 4
  have hns15_0:=NB195_196.out
  have hms15_0:=NB196_195.out
  have hs16 : w8.cell? ⟨gb196,5,none⟩ = some (.int .i64 0):=(blk_cell BK196.out 5).trans rfl
  have hfs16:=blk_frozen BK196.out 5
  have hns16_0:=NB195_196.out
  have hms16_0:=NB196_195.out
  have hs17 : w8.cell? ⟨gb196,6,none⟩ = some (.int .i64 0):=(blk_cell BK196.out 6).trans rfl
  have hfs17:=blk_frozen BK196.out 6
  have hns17_0:=NB195_196.out
  have hms17_0:=NB196_195.out
  have hs18 : w8.cell? ⟨gb196,7,none⟩ = some (.slice none 0 0):=(blk_cell BK196.out 7).trans rfl
  have hfs18:=blk_frozen BK196.out 7
  have hns18_0:=NB195_196.out
  have hms18_0:=NB196_195.out
  have hs19 : w8.cell? ⟨gb196,8,none⟩ = some (.int .i64 0):=(blk_cell BK196.out 8).trans rfl
  have hfs19:=blk_frozen BK196.out 8
  have hns19_0:=NB195_196.out
  have hms19_0:=NB196_195.out
  have hs20 : w8.cell? ⟨gb196,9,none⟩ = some (.int .i64 0):=(blk_cell BK196.out 9).trans rfl
  have hfs20:=blk_frozen BK196.out 9
  have hns20_0:=NB195_196.out
  have hms20_0:=NB196_195.out
  have hs21 : w8.cell? ⟨gb196,10,none⟩ = some (.slice none 0 0):=(blk_cell BK196.out 10).trans rfl
  have hfs21:=blk_frozen BK196.out 10
  have hns21_0:=NB195_196.out
  have hms21_0:=NB196_195.out
  refine skip_ (w1:=?_) (by rfl) rfl ?_ ?_
  rotate_left
  · go_simp
    rfl
  refine hK.out _ _ ⟨((cell_far (p:=⟨gb196,_,none⟩) NB195_196.out _).trans (((cell_far (p:=⟨gb196,_,none⟩) NB195_196.out _).trans (((cell_far (p:=⟨gb196,_,none⟩) NB195_196.out _).trans (((cell_far (p:=⟨gb196,_,none⟩) NB195_196.out _).trans (((cell_far (p:=⟨gb196,_,none⟩) NB195_196.out _).trans (((cell_far (p:=⟨gb196,_,none⟩) NB195_196.out _).trans (((cell_far (p:=⟨gb196,_,none⟩) NB195_196.out _).trans (((cell_far (p:=⟨gb196,_,none⟩) NB195_196.out _).trans (((cell_far (p:=⟨gb196,_,none⟩) NB195_196.out _).trans (((cell_far (p:=⟨gb196,_,none⟩) NB195_196.out _).trans (((cell_far (p:=⟨gb196,_,none⟩) NB195_196.out _).trans (hHeld.1)))))))))))))))))))))),((cell_far (p:=⟨gb196,_,none⟩) NB195_196.out _).trans (((cell_far (p:=⟨gb196,_,none⟩) NB195_196.out _).trans (((cell_far (p:=⟨gb196,_,none⟩) NB195_196.out _).trans (((cell_far (p:=⟨gb196,_,none⟩) NB195_196.out _).trans (((cell_far (p:=⟨gb196,_,none⟩) NB195_196.out _).trans (((cell_far (p:=⟨gb196,_,none⟩) NB195_196.out _).trans (((cell_far (p:=⟨gb196,_,none⟩) NB195_196.out _).trans (((cell_far (p:=⟨gb196,_,none⟩) NB195_196.out _).trans (((cell_far (p:=⟨gb196,_,none⟩) NB195_196.out _).trans (((cell_far (p:=⟨gb196,_,none⟩) NB195_196.out _).trans (((cell_far (p:=⟨gb196,_,none⟩) NB195_196.out _).trans (hHeld.2.1)))))))))))))))))))))),((cell_far (p:=⟨gb196,_,none⟩) NB195_196.out _).trans (((cell_far (p:=⟨gb196,_,none⟩) NB195_196.out _).trans (((cell_far (p:=⟨gb196,_,none⟩) NB195_196.out _).trans (((cell_far (p:=⟨gb196,_,none⟩) NB195_196.out _).trans (((cell_far (p:=⟨gb196,_,none⟩) NB195_196.out _).trans (((cell_far (p:=⟨gb196,_,none⟩) NB195_196.out _).trans (((cell_far (p:=⟨gb196,_,none⟩) NB195_196.out _).trans (((cell_far (p:=⟨gb196,_,none⟩) NB195_196.out _).trans (((cell_far (p:=⟨gb196,_,none⟩) NB195_196.out _).trans (((cell_far (p:=⟨gb196,_,none⟩) NB195_196.out _).trans (((cell_far (p:=⟨gb196,_,none⟩) NB195_196.out _).trans (hHeld.2.2.1)))))))))))))))))))))),((cell_far (p:=⟨gb196,_,none⟩) NB195_196.out _).trans (((cell_far (p:=⟨gb196,_,none⟩) NB195_196.out _).trans (((cell_far (p:=⟨gb196,_,none⟩) NB195_196.out _).trans (((cell_far (p:=⟨gb196,_,none⟩) NB195_196.out _).trans (((cell_far (p:=⟨gb196,_,none⟩) NB195_196.out _).trans (((cell_far (p:=⟨gb196,_,none⟩) NB195_196.out _).trans (((cell_far (p:=⟨gb196,_,none⟩) NB195_196.out _).trans (((cell_far (p:=⟨gb196,_,none⟩) NB195_196.out _).trans (((cell_far (p:=⟨gb196,_,none⟩) NB195_196.out _).trans (((cell_far (p:=⟨gb196,_,none⟩) NB195_196.out _).trans (((cell_far (p:=⟨gb196,_,none⟩) NB195_196.out _).trans (hHeld.2.2.2.1)))))))))))))))))))))),((cell_far (p:=⟨gb196,_,none⟩) NB195_196.out _).trans (((cell_far (p:=⟨gb196,_,none⟩) NB195_196.out _).trans (((cell_far (p:=⟨gb196,_,none⟩) NB195_196.out _).trans (((cell_far (p:=⟨gb196,_,none⟩) NB195_196.out _).trans (((cell_far (p:=⟨gb196,_,none⟩) NB195_196.out _).trans (((cell_far (p:=⟨gb196,_,none⟩) NB195_196.out _).trans (((cell_far (p:=⟨gb196,_,none⟩) NB195_196.out _).trans (((cell_far (p:=⟨gb196,_,none⟩) NB195_196.out _).trans (((cell_far (p:=⟨gb196,_,none⟩) NB195_196.out _).trans (((cell_far (p:=⟨gb196,_,none⟩) NB195_196.out _).trans (((cell_far (p:=⟨gb196,_,none⟩) NB195_196.out _).trans (hHeld.2.2.2.2.1)))))))))))))))))))))),((cell_far (p:=⟨gb196,_,none⟩) NB195_196.out _).trans (((cell_far (p:=⟨gb196,_,none⟩) NB195_196.out _).trans (((cell_far (p:=⟨gb196,_,none⟩) NB195_196.out _).trans (((cell_far (p:=⟨gb196,_,none⟩) NB195_196.out _).trans (((cell_far (p:=⟨gb196,_,none⟩) NB195_196.out _).trans (((cell_far (p:=⟨gb196,_,none⟩) NB195_196.out _).trans (((cell_far (p:=⟨gb196,_,none⟩) NB195_196.out _).trans (((cell_far (p:=⟨gb196,_,none⟩) NB195_196.out _).trans (((cell_far (p:=⟨gb196,_,none⟩) NB195_196.out _).trans (((cell_far (p:=⟨gb196,_,none⟩) NB195_196.out _).trans (((cell_far (p:=⟨gb196,_,none⟩) NB195_196.out _).trans (hHeld.2.2.2.2.2.1)))))))))))))))))))))),((cell_far (p:=⟨gb196,_,none⟩) NB195_196.out _).trans (((cell_far (p:=⟨gb196,_,none⟩) NB195_196.out _).trans (((cell_far (p:=⟨gb196,_,none⟩) NB195_196.out _).trans (((cell_far (p:=⟨gb196,_,none⟩) NB195_196.out _).trans (((cell_far (p:=⟨gb196,_,none⟩) NB195_196.out _).trans (((cell_far (p:=⟨gb196,_,none⟩) NB195_196.out _).trans (((cell_far (p:=⟨gb196,_,none⟩) NB195_196.out _).trans (((cell_far (p:=⟨gb196,_,none⟩) NB195_196.out _).trans (((cell_far (p:=⟨gb196,_,none⟩) NB195_196.out _).trans (((cell_far (p:=⟨gb196,_,none⟩) NB195_196.out _).trans (((cell_far (p:=⟨gb196,_,none⟩) NB195_196.out _).trans (hHeld.2.2.2.2.2.2.1)))))))))))))))))))))),((cell_far (p:=⟨gb196,_,none⟩) NB195_196.out _).trans (((cell_far (p:=⟨gb196,_,none⟩) NB195_196.out _).trans (((cell_far (p:=⟨gb196,_,none⟩) NB195_196.out _).trans (((cell_far (p:=⟨gb196,_,none⟩) NB195_196.out _).trans (((cell_far (p:=⟨gb196,_,none⟩) NB195_196.out _).trans (((cell_far (p:=⟨gb196,_,none⟩) NB195_196.out _).trans (((cell_far (p:=⟨gb196,_,none⟩) NB195_196.out _).trans (((cell_far (p:=⟨gb196,_,none⟩) NB195_196.out _).trans (((cell_far (p:=⟨gb196,_,none⟩) NB195_196.out _).trans (((cell_far (p:=⟨gb196,_,none⟩) NB195_196.out _).trans (((cell_far (p:=⟨gb196,_,none⟩) NB195_196.out _).trans (hHeld.2.2.2.2.2.2.2.1)))))))))))))))))))))),((cell_far (p:=⟨gb196,_,none⟩) NB195_196.out _).trans (((cell_far (p:=⟨gb196,_,none⟩) NB195_196.out _).trans (((cell_far (p:=⟨gb196,_,none⟩) NB195_196.out _).trans (((cell_far (p:=⟨gb196,_,none⟩) NB195_196.out _).trans (((cell_far (p:=⟨gb196,_,none⟩) NB195_196.out _).trans (((cell_far (p:=⟨gb196,_,none⟩) NB195_196.out _).trans (((cell_far (p:=⟨gb196,_,none⟩) NB195_196.out _).trans (((cell_far (p:=⟨gb196,_,none⟩) NB195_196.out _).trans (((cell_far (p:=⟨gb196,_,none⟩) NB195_196.out _).trans (((cell_far (p:=⟨gb196,_,none⟩) NB195_196.out _).trans (((cell_far (p:=⟨gb196,_,none⟩) NB195_196.out _).trans (hHeld.2.2.2.2.2.2.2.2.1)))))))))))))))))))))),((cell_far (p:=⟨gb196,_,none⟩) NB195_196.out _).trans (((cell_far (p:=⟨gb196,_,none⟩) NB195_196.out _).trans (((cell_far (p:=⟨gb196,_,none⟩) NB195_196.out _).trans (((cell_far (p:=⟨gb196,_,none⟩) NB195_196.out _).trans (((cell_far (p:=⟨gb196,_,none⟩) NB195_196.out _).trans (((cell_far (p:=⟨gb196,_,none⟩) NB195_196.out _).trans (((cell_far (p:=⟨gb196,_,none⟩) NB195_196.out _).trans (((cell_far (p:=⟨gb196,_,none⟩) NB195_196.out _).trans (((cell_far (p:=⟨gb196,_,none⟩) NB195_196.out _).trans (((cell_far (p:=⟨gb196,_,none⟩) NB195_196.out _).trans (((cell_far (p:=⟨gb196,_,none⟩) NB195_196.out _).trans (hHeld.2.2.2.2.2.2.2.2.2.1)))))))))))))))))))))),((cell_far (p:=⟨gb196,_,none⟩) NB195_196.out _).trans (((cell_far (p:=⟨gb196,_,none⟩) NB195_196.out _).trans (((cell_far (p:=⟨gb196,_,none⟩) NB195_196.out _).trans (((cell_far (p:=⟨gb196,_,none⟩) NB195_196.out _).trans (((cell_far (p:=⟨gb196,_,none⟩) NB195_196.out _).trans (((cell_far (p:=⟨gb196,_,none⟩) NB195_196.out _).trans (((cell_far (p:=⟨gb196,_,none⟩) NB195_196.out _).trans (((cell_far (p:=⟨gb196,_,none⟩) NB195_196.out _).trans (((cell_far (p:=⟨gb196,_,none⟩) NB195_196.out _).trans (((cell_far (p:=⟨gb196,_,none⟩) NB195_196.out _).trans (((cell_far (p:=⟨gb196,_,none⟩) NB195_196.out _).trans (hHeld.2.2.2.2.2.2.2.2.2.2))))))))))))))))))))))⟩ (fun hHeld=>?_)
  clear hK K
  refine done_ (done_of HT_.out (by kernel_rfl)) ?_
  try go_wp2
  refine bodyPost_ret (results_cell_row rfl _ _ gb196 39 #[.int .i64 a0_0,.int .i64 t197,.int .i64 t198,.int .i64 t199,.int .i64 t200,.int .i64 t201,.int .i64 t202,.slice Ao10 t203.length co10,.int .i64 t206,.int .i64 t207,.slice Ao9 t208.length co9] (0,0) _ rfl (by(with_reducible repeat (first|refine blk_drewN ?_ _|refine blk_drew ?_|refine blk_alloc ?_ _));refine blk_put (cs:=#[.int .i64 a0_0,.int .i64 t197,.int .i64 t198,.int .i64 t199,.int .i64 t200,.int .i64 t201,.int .i64 t202,.slice Ao10 t203.length co10,.int .i64 t206,.int .i64 t207,.slice none 0 0]) ?_ 10 _ rfl;(with_reducible repeat (first|refine blk_drewN ?_ _|refine blk_drew ?_|refine blk_alloc ?_ _));refine blk_put (cs:=#[.int .i64 a0_0,.int .i64 t197,.int .i64 t198,.int .i64 t199,.int .i64 t200,.int .i64 t201,.int .i64 t202,.slice Ao10 t203.length co10,.int .i64 t206,.int .i64 0,.slice none 0 0]) ?_ 9 _ rfl;(with_reducible repeat (first|refine blk_drewN ?_ _|refine blk_drew ?_|refine blk_alloc ?_ _));refine blk_put (cs:=#[.int .i64 a0_0,.int .i64 t197,.int .i64 t198,.int .i64 t199,.int .i64 t200,.int .i64 t201,.int .i64 t202,.slice Ao10 t203.length co10,.int .i64 0,.int .i64 0,.slice none 0 0]) ?_ 8 _ rfl;(with_reducible repeat (first|refine blk_drewN ?_ _|refine blk_drew ?_|refine blk_alloc ?_ _));refine blk_put (cs:=#[.int .i64 a0_0,.int .i64 t197,.int .i64 t198,.int .i64 t199,.int .i64 t200,.int .i64 t201,.int .i64 t202,.slice none 0 0,.int .i64 0,.int .i64 0,.slice none 0 0]) ?_ 7 _ rfl;(with_reducible repeat (first|refine blk_drewN ?_ _|refine blk_drew ?_|refine blk_alloc ?_ _));refine blk_put (cs:=#[.int .i64 a0_0,.int .i64 t197,.int .i64 t198,.int .i64 t199,.int .i64 t200,.int .i64 t201,.int .i64 0,.slice none 0 0,.int .i64 0,.int .i64 0,.slice none 0 0]) ?_ 6 _ rfl;(with_reducible repeat (first|refine blk_drewN ?_ _|refine blk_drew ?_|refine blk_alloc ?_ _));refine blk_put (cs:=#[.int .i64 a0_0,.int .i64 t197,.int .i64 t198,.int .i64 t199,.int .i64 t200,.int .i64 0,.int .i64 0,.slice none 0 0,.int .i64 0,.int .i64 0,.slice none 0 0]) ?_ 5 _ rfl;(with_reducible repeat (first|refine blk_drewN ?_ _|refine blk_drew ?_|refine blk_alloc ?_ _));refine blk_put (cs:=#[.int .i64 a0_0,.int .i64 t197,.int .i64 t198,.int .i64 t199,.int .i64 0,.int .i64 0,.int .i64 0,.slice none 0 0,.int .i64 0,.int .i64 0,.slice none 0 0]) ?_ 4 _ rfl;(with_reducible repeat (first|refine blk_drewN ?_ _|refine blk_drew ?_|refine blk_alloc ?_ _));refine blk_put (cs:=#[.int .i64 a0_0,.int .i64 t197,.int .i64 t198,.int .i64 0,.int .i64 0,.int .i64 0,.int .i64 0,.slice none 0 0,.int .i64 0,.int .i64 0,.slice none 0 0]) ?_ 3 _ rfl;(with_reducible repeat (first|refine blk_drewN ?_ _|refine blk_drew ?_|refine blk_alloc ?_ _));refine blk_put (cs:=#[.int .i64 a0_0,.int .i64 t197,.int .i64 0,.int .i64 0,.int .i64 0,.int .i64 0,.int .i64 0,.slice none 0 0,.int .i64 0,.int .i64 0,.slice none 0 0]) ?_ 2 _ rfl;(with_reducible repeat (first|refine blk_drewN ?_ _|refine blk_drew ?_|refine blk_alloc ?_ _));refine blk_put (cs:=#[.int .i64 a0_0,.int .i64 0,.int .i64 0,.int .i64 0,.int .i64 0,.int .i64 0,.int .i64 0,.slice none 0 0,.int .i64 0,.int .i64 0,.slice none 0 0]) ?_ 1 _ rfl;(with_reducible repeat (first|refine blk_drewN ?_ _|refine blk_drew ?_|refine blk_alloc ?_ _));refine blk_put (cs:=#[.int .i64 0,.int .i64 0,.int .i64 0,.int .i64 0,.int .i64 0,.int .i64 0,.int .i64 0,.slice none 0 0,.int .i64 0,.int .i64 0,.slice none 0 0]) ?_ 0 _ rfl;(with_reducible repeat (first|refine blk_drewN ?_ _|refine blk_drew ?_|refine blk_alloc ?_ _));exact BK196.out) Try.underlying39 rfl (by kernel_rfl)) rfl ?_
  exact⟨_,_,by first|rfl|(simp [errW_none,errW_some] <;> rfl)|(simp [*,errW_none,errW_some] <;> rfl),by(with_reducible repeat (first|apply Kd.S_alloc|apply Kd.S_drewN|apply Kd.S_drew));exact Kd.S_mono (Kd.S_far (p:=⟨gb196,10,none⟩) (Kd.S_far (p:=⟨gb196,9,none⟩) (Kd.S_far (p:=⟨gb196,8,none⟩) (Kd.S_far (p:=⟨gb196,7,none⟩) (Kd.S_far (p:=⟨gb196,6,none⟩) (Kd.S_far (p:=⟨gb196,5,none⟩) (Kd.S_far (p:=⟨gb196,4,none⟩) (Kd.S_far (p:=⟨gb196,3,none⟩) (Kd.S_far (p:=⟨gb196,2,none⟩) (Kd.S_far (p:=⟨gb196,1,none⟩) (Kd.S_far (p:=⟨gb196,0,none⟩) (Kd.S_types HO205.out BK196.out (by decide)) (fun _ hk=>hk.2) (.int .i64 a0_0)) (fun _ hk=>hk.2) (.int .i64 t197)) (fun _ hk=>hk.2) (.int .i64 t198)) (fun _ hk=>hk.2) (.int .i64 t199)) (fun _ hk=>hk.2) (.int .i64 t200)) (fun _ hk=>hk.2) (.int .i64 t201)) (fun _ hk=>hk.2) (.int .i64 t202)) (fun _ hk=>hk.2) (.slice Ao10 t203.length co10)) (fun _ hk=>hk.2) (.int .i64 t206)) (fun _ hk=>hk.2) (.int .i64 t207)) (fun _ hk=>hk.2) (.slice Ao9 t208.length co9)) (fun _ hk=>hk.1.2),by(with_reducible repeat (first|apply Kd.R_alloc|apply Kd.R_drewN|apply Kd.R_drew));exact Kd.R_mono (Kd.R_far (p:=⟨gb196,10,none⟩) (Kd.R_far (p:=⟨gb196,9,none⟩) (Kd.R_far (p:=⟨gb196,8,none⟩) (Kd.R_far (p:=⟨gb196,7,none⟩) (Kd.R_far (p:=⟨gb196,6,none⟩) (Kd.R_far (p:=⟨gb196,5,none⟩) (Kd.R_far (p:=⟨gb196,4,none⟩) (Kd.R_far (p:=⟨gb196,3,none⟩) (Kd.R_far (p:=⟨gb196,2,none⟩) (Kd.R_far (p:=⟨gb196,1,none⟩) (Kd.R_far (p:=⟨gb196,0,none⟩) (Kd.R_types HO210.out BK196.out (by decide)) (fun _ hk=>hk.2) (.int .i64 a0_0)) (fun _ hk=>hk.2) (.int .i64 t197)) (fun _ hk=>hk.2) (.int .i64 t198)) (fun _ hk=>hk.2) (.int .i64 t199)) (fun _ hk=>hk.2) (.int .i64 t200)) (fun _ hk=>hk.2) (.int .i64 t201)) (fun _ hk=>hk.2) (.int .i64 t202)) (fun _ hk=>hk.2) (.slice Ao10 t203.length co10)) (fun _ hk=>hk.2) (.int .i64 t206)) (fun _ hk=>hk.2) (.int .i64 t207)) (fun _ hk=>hk.2) (.slice Ao9 t208.length co9)) (fun _ hk=>trivial),by repeat (first|(with_reducible first|exact HB.out|apply below_alloc|apply pw_below_drewN|apply below_drew1|refine below_set ?_ GE195.out|refine below_set ?_ GE196.out)|exact HB.out)⟩
end Go.Proofs.Ytojjnifbnppliaa.T
