/- This text tells functions of the seat as plain functions, with their contracts, as the machine's calls meet them. -/
import Derived.Test.YtojjnifbnppliaaQ02
import Derived.Test.YtojjnifbnppliaaQ11
namespace Go.Proofs.Ytojjnifbnppliaa.T
open Go.RowKit Go.Proofs.YtojjnifbnppliaaW.PrintWords Go.Proofs.YtojjnifbnppliaaW.PrintLast Go.Proofs.YtojjnifbnppliaaW.PrintMore
attribute [local go_sem] max2_int min2_int max_two min_two max_three min_three max_four min_four   -- for this text's walks alone
set_option linter.unusedVariables false
set_option linter.unusedSimpArgs false
def undercroftlaw19_Of.l0 : Nat→Int→Int→Int→Int→Int→Int→List (List Int)→Int→List Int→List Bool→Bool→List (S68)→Int→Int→List Int→Int→Int→Int→Int→Int→List (List Int)→Int→List Int→List Bool→Bool→List (S69)→Int→Int→List Int→Option (Int × Int × Int × Int × Int × (List (List Int)) × Int × List Int × List Bool × Bool × (List (S69)) × Int × Int × List Int)
  | 0,_,_,_,_,_,_,_,_,_,_,_,_,_,_,_,_,_,_,_,_,_,_,_,_,_,_,_,_,_=>none
  | k + 1,x4,x168000,x168001,x168002,x168003,x168004,x168005,x168006,x168007,x168008,x168009,x168010,x168011,x168012,x168013,x182000,x182001,x182002,x182003,x182004,x182005,x182006,x182007,x182008,x182009,x182010,x182011,x182012,x182013=>if x4 < (x168010.length : Int) then(if 0 ≤ x4 then((undercroftplain_CopyLists.f k ((rd_T68 x168010 x4).f2)).bind fun t184=>(if x182010.length < 2932031007402 then(undercroftlaw19_Of.l0 k (wrap64 (x4 + 1)) x168000 x168001 x168002 x168003 x168004 x168005 x168006 x168007 x168008 x168009 x168010 x168011 x168012 x168013 x182000 x182001 x182002 x182003 x182004 x182005 x182006 x182007 x182008 x182009 (x182010 ++ [(⟨(rd_T68 x168010 x4).f0,(rd_T68 x168010 x4).f1,t184,(rd_T68 x168010 x4).f3⟩ : S69)]) x182011 x182012 x182013) else(none))) else(none)) else(some (x182000,x182001,x182002,x182003,x182004,x182005,x182006,x182007,x182008,x182009,x182010,x182011,x182012,x182013))
def undercroftlaw19_Of.f (k : Nat) (a0_0 : Int) (a0_1 : Int) (a0_2 : Int) (a0_3 : Int) (a0_4 : Int) (l0_5 : List (List Int)) (a0_6 : Int) (l0_7 : List Int) (l0_8 : List Bool) (a0_9 : Bool) (l0_10 : List (S68)) (a0_11 : Int) (a0_12 : Int) (l0_13 : List Int) : Option (Int × Int × Int × Int × Int × (List (List Int)) × Int × List Int × List Bool × Bool × (List (S69)) × Int × Int × List Int):=(undercroftplain_CopyLists.f k l0_5).bind fun t169=>((undercroftplain_CopyInts.f l0_7).bind fun t172=>((undercroftplain_CopyBools.f l0_8).bind fun t175=>((undercroftplain_CopyInts.f l0_13).bind fun t178=>(undercroftlaw19_Of.l0 k 0 a0_0 a0_1 a0_2 a0_3 a0_4 l0_5 a0_6 l0_7 l0_8 a0_9 l0_10 a0_11 a0_12 l0_13 a0_0 a0_1 a0_2 a0_3 a0_4 t169 a0_6 t172 t175 a0_9 ([] : List (S69)) a0_11 a0_12 t178))))
def undercroftlaw19_Of.T1 : Bool × List (List Nat × List Nat):=(true,[([],[]),([0],[0]),([],[]),([2],[2]),([],[]),([4],[4]),([],[]),([6],[6]),([],[]),([8],[8]),([],[]),([10],[10]),([11],[11]),([],[]),([13],[13]),([],[]),([15],[15]),([16,12],[16]),([],[]),([18],[18]),([19,17],[19]),([],[]),([21],[21]),([],[]),([23],[23]),([],[]),([25],[25]),([],[]),([27],[27]),([28,20],[28]),([1,3,5,7,9,12,14,17,20,22,24,26,29],[1,3,5,7,9,12,14,17,20,22,24,26,29]),([],[]),([31,30,29,0,1,2,3,4,5,6,7,8,9,10,11,12,13,14,15,16,17,18,19,20,21,22,23,24,25,26,27,28,29,30,31],[30,31])])
def undercroftlaw19_Of.B1 : List Nat:=[0,1,0,4,0,16,0,64,0,256,0,1024,3072,0,8192,0,32768,105472,0,262144,1022976,0,2097152,0,8388608,0,33554432,0,134217728,404724736,1073741823,0,4294967295]
theorem undercroftlaw19_Of.tab1 : rtab .any (opsOf Try.f10 1) = undercroftlaw19_Of.T1:=by kernel_rfl
theorem undercroftlaw19_Of.bits1 : waitsOk undercroftlaw19_Of.T1.2 undercroftlaw19_Of.B1 = true:=by kernel_rfl
def undercroftlaw19_Of.T6 : Bool × List (List Nat × List Nat):=(true,[([],[]),([0],[0]),([],[]),([2],[2]),([],[]),([4],[4]),([],[]),([6],[6]),([7],[7]),([],[]),([9],[9]),([3,5,8,10],[3,5,8,10]),([11],[11]),([1,12,8],[1,12]),([0,1,2,3,4,5,6,7,8,9,10,11,12,13],[]),([14,13,13,0,1,2,3,4,5,6,7,8,9,10,11,12,13],[13,14])])
def undercroftlaw19_Of.B6 : List Nat:=[0,1,0,4,0,16,0,64,192,0,512,2044,4092,8191,16383,32767]
theorem undercroftlaw19_Of.tab6 : rtab .any (opsOf Try.f10 6) = undercroftlaw19_Of.T6:=by kernel_rfl
theorem undercroftlaw19_Of.bits6 : waitsOk undercroftlaw19_Of.T6.2 undercroftlaw19_Of.B6 = true:=by kernel_rfl
set_option maxHeartbeats 8000000 in
set_option maxRecDepth 100000 in
theorem undercroftlaw19_Of.calls (k : Nat) (a0_0 : Int) (a0_1 : Int) (a0_2 : Int) (a0_3 : Int) (a0_4 : Int) (A0_5 : Option Addr) (c0_5 : Nat) (l0_5 : List (List Int)) (a0_6 : Int) (A0_7 : Option Addr) (c0_7 : Nat) (l0_7 : List Int) (A0_8 : Option Addr) (c0_8 : Nat) (l0_8 : List Bool) (a0_9 : Bool) (A0_10 : Option Addr) (c0_10 : Nat) (l0_10 : List (S68)) (a0_11 : Int) (a0_12 : Int) (A0_13 : Option Addr) (c0_13 : Nat) (l0_13 : List Int) (r1 : Int) (r2 : Int) (r3 : Int) (r4 : Int) (r5 : Int) (r6 : List (List Int)) (r7 : Int) (r8 : List Int) (r9 : List Bool) (r10 : Bool) (r11 : List (S69)) (r12 : Int) (r13 : Int) (r14 : List Int) (w : World) (hr0_5 : Kd.C (Kd.slice 5 (Kd.int .u8)) w A0_5 l0_5.length l0_5) (hc0_5 : l0_5.length ≤ c0_5) (hr0_7 : Kd.C (Kd.int .i64) w A0_7 l0_7.length l0_7) (hc0_7 : l0_7.length ≤ c0_7) (hr0_8 : Kd.C Kd.bool w A0_8 l0_8.length l0_8) (hc0_8 : l0_8.length ≤ c0_8) (hr0_10 : Kd.C k68 w A0_10 l0_10.length l0_10) (hc0_10 : l0_10.length ≤ c0_10) (hr0_13 : Kd.C (Kd.int .i64) w A0_13 l0_13.length l0_13) (hc0_13 : l0_13.length ≤ c0_13) (h : undercroftlaw19_Of.f k a0_0 a0_1 a0_2 a0_3 a0_4 l0_5 a0_6 l0_7 l0_8 a0_9 l0_10 a0_11 a0_12 l0_13 = some (r1,r2,r3,r4,r5,r6,r7,r8,r9,r10,r11,r12,r13,r14)) :
    Calls Try.prog 10 #[.agg #[.int .i64 a0_0,.int .i64 a0_1,.int .i64 a0_2,.int .i64 a0_3,.int .i64 a0_4,.slice A0_5 l0_5.length c0_5,.int .i64 a0_6,.slice A0_7 l0_7.length c0_7,.slice A0_8 l0_8.length c0_8,.bool a0_9,.slice A0_10 l0_10.length c0_10,.int .i64 a0_11,.int .i64 a0_12,.slice A0_13 l0_13.length c0_13]] w fun e w'=>∃ v5_ v7_ v8_ v10_ v13_ : Value,e = .returned (.agg #[.int .i64 r1,.int .i64 r2,.int .i64 r3,.int .i64 r4,.int .i64 r5,v5_,.int .i64 r7,v7_,v8_,.bool r10,v10_,.int .i64 r12,.int .i64 r13,v13_])∧Kd.S (Kd.slice 5 (Kd.int .u8)) 22 w' w.heap.size (fun _=>True) v5_ r6∧Kd.R (Kd.int .i64) 3 w' w.heap.size (fun k_=>some k_ ≠ (v13_ : Value).ownBlock) v7_ r8∧Kd.R Kd.bool 4 w' w.heap.size (fun _=>True) v8_ r9∧Kd.R k69 69 w' w.heap.size (fun k_=>some k_ ≠ (v5_ : Value).ownBlock) v10_ r11∧Kd.R (Kd.int .i64) 3 w' w.heap.size (fun k_=>some k_ ≠ (v7_ : Value).ownBlock) v13_ r14∧Below w.heap.size w w':=by
  have hu44:=Try.underlying44
  have hu29:=Try.underlying29
  have hu68:=Try.underlying68
  have hu69:=Try.underlying69
  have HR0_5:=Aside0.mk hr0_5
  have HC0_5:=Aside0.mk hc0_5
  clear hr0_5 hc0_5
  have HR0_7:=Aside0.mk hr0_7
  have HC0_7:=Aside0.mk hc0_7
  clear hr0_7 hc0_7
  have HR0_8:=Aside0.mk hr0_8
  have HC0_8:=Aside0.mk hc0_8
  clear hr0_8 hc0_8
  have HR0_10:=Aside0.mk hr0_10
  have HC0_10:=Aside0.mk hc0_10
  clear hr0_10 hc0_10
  have HR0_13:=Aside0.mk hr0_13
  have HC0_13:=Aside0.mk hc0_13
  clear hr0_13 hc0_13
  have HB:=Aside0.mk (Below.refl w.heap.size w)
  have H : ((undercroftplain_CopyLists.f k l0_5).bind fun t169=>((undercroftplain_CopyInts.f l0_7).bind fun t172=>((undercroftplain_CopyBools.f l0_8).bind fun t175=>((undercroftplain_CopyInts.f l0_13).bind fun t178=>(undercroftlaw19_Of.l0 k 0 a0_0 a0_1 a0_2 a0_3 a0_4 l0_5 a0_6 l0_7 l0_8 a0_9 l0_10 a0_11 a0_12 l0_13 a0_0 a0_1 a0_2 a0_3 a0_4 t169 a0_6 t172 t175 a0_9 ([] : List (S69)) a0_11 a0_12 t178))))) = some (r1,r2,r3,r4,r5,r6,r7,r8,r9,r10,r11,r12,r13,r14):=h
  clear h
  replace H:=Option.bind_eq_some_iff.mp H
  obtain ⟨t169,A20,H⟩:=H
  replace H : ((undercroftplain_CopyInts.f l0_7).bind fun t172=>((undercroftplain_CopyBools.f l0_8).bind fun t175=>((undercroftplain_CopyInts.f l0_13).bind fun t178=>(undercroftlaw19_Of.l0 k 0 a0_0 a0_1 a0_2 a0_3 a0_4 l0_5 a0_6 l0_7 l0_8 a0_9 l0_10 a0_11 a0_12 l0_13 a0_0 a0_1 a0_2 a0_3 a0_4 t169 a0_6 t172 t175 a0_9 ([] : List (S69)) a0_11 a0_12 t178)))) = some (r1,r2,r3,r4,r5,r6,r7,r8,r9,r10,r11,r12,r13,r14):=H
  have A2:=Aside0.mk A20
  clear A20
  replace H:=Option.bind_eq_some_iff.mp H
  obtain ⟨t172,A30,H⟩:=H
  replace H : ((undercroftplain_CopyBools.f l0_8).bind fun t175=>((undercroftplain_CopyInts.f l0_13).bind fun t178=>(undercroftlaw19_Of.l0 k 0 a0_0 a0_1 a0_2 a0_3 a0_4 l0_5 a0_6 l0_7 l0_8 a0_9 l0_10 a0_11 a0_12 l0_13 a0_0 a0_1 a0_2 a0_3 a0_4 t169 a0_6 t172 t175 a0_9 ([] : List (S69)) a0_11 a0_12 t178))) = some (r1,r2,r3,r4,r5,r6,r7,r8,r9,r10,r11,r12,r13,r14):=H
  have A3:=Aside0.mk A30
  clear A30
  replace H:=Option.bind_eq_some_iff.mp H
  obtain ⟨t175,A40,H⟩:=H
  replace H : ((undercroftplain_CopyInts.f l0_13).bind fun t178=>(undercroftlaw19_Of.l0 k 0 a0_0 a0_1 a0_2 a0_3 a0_4 l0_5 a0_6 l0_7 l0_8 a0_9 l0_10 a0_11 a0_12 l0_13 a0_0 a0_1 a0_2 a0_3 a0_4 t169 a0_6 t172 t175 a0_9 ([] : List (S69)) a0_11 a0_12 t178)) = some (r1,r2,r3,r4,r5,r6,r7,r8,r9,r10,r11,r12,r13,r14):=H
  have A4:=Aside0.mk A40
  clear A40
  replace H:=Option.bind_eq_some_iff.mp H
  obtain ⟨t178,A50,H⟩:=H
  replace H : (undercroftlaw19_Of.l0 k 0 a0_0 a0_1 a0_2 a0_3 a0_4 l0_5 a0_6 l0_7 l0_8 a0_9 l0_10 a0_11 a0_12 l0_13 a0_0 a0_1 a0_2 a0_3 a0_4 t169 a0_6 t172 t175 a0_9 ([] : List (S69)) a0_11 a0_12 t178) = some (r1,r2,r3,r4,r5,r6,r7,r8,r9,r10,r11,r12,r13,r14):=H
  have A5:=Aside0.mk A50
  clear A50
  have H':=Aside0.mk H
  clear H
  go_enter Try.func10,Try.ntmps10
  try go_wp2_with (first|((with_reducible refine gate_dst (N:=1) rfl ?_);refine box_event ?hg (N:=1) ?hd (cs:=#[.int .i64 a0_0,.int .i64 a0_1,.int .i64 a0_2,.int .i64 a0_3,.int .i64 a0_4,.slice A0_5 l0_5.length c0_5,.int .i64 a0_6,.slice A0_7 l0_7.length c0_7,.slice A0_8 l0_8.length c0_8,.bool a0_9,.slice A0_10 l0_10.length c0_10,.int .i64 a0_11,.int .i64 a0_12,.slice A0_13 l0_13.length c0_13]) (t:=44) ?hr ?_;(case hd=>rfl);(case hg=>rfl);(case hr=>first|(go_simp;done)|(go_simp;rfl));intro gb167 hg w6 hbox hb;have n0_:=Aside0.mk (below_step (by repeat (first|(with_reducible first|exact HB.out|apply below_alloc|apply pw_below_drewN|apply below_drew1)|exact HB.out)) hb);have n1_:=Aside0.mk (hbox);have n2_:=Aside0.mk ((by rw [hg];exact(below_size (by repeat (first|(with_reducible first|exact HB.out|apply below_alloc|apply pw_below_drewN|apply below_drew1)|exact HB.out))) : w.heap.size ≤ gb167));have n3_:=Aside0.mk ((by rw [hg];exact(below_size (by repeat (first|(with_reducible first|exact HB.out|apply below_alloc|apply pw_below_drewN|apply below_drew1)|exact HB.out))) : w.heap.size ≤ gb167));clear HB;have HB:=n0_;have BK167:=n1_;have GW167:=n2_;have GE167:=n3_;clear n0_ n1_ n2_ n3_;clear hb hbox hg)|((with_reducible refine gate_dst (N:=2) rfl ?_);refine box_event ?hg (N:=2) ?hd (cs:=#[.int .i64 0,.int .i64 0,.int .i64 0,.int .i64 0,.int .i64 0,.slice none 0 0,.int .i64 0,.slice none 0 0,.slice none 0 0,.bool false,.slice none 0 0,.int .i64 0,.int .i64 0,.slice none 0 0]) (t:=29) ?hr ?_;(case hd=>rfl);(case hg=>rfl);(case hr=>first|(go_simp;done)|(go_simp;rfl));intro gb168 hg w7 hbox hb;have n0_:=Aside0.mk (blk_below (g:=gb167) (o:=.cells #[.int .i64 a0_0,.int .i64 a0_1,.int .i64 a0_2,.int .i64 a0_3,.int .i64 a0_4,.slice A0_5 l0_5.length c0_5,.int .i64 a0_6,.slice A0_7 l0_7.length c0_7,.slice A0_8 l0_8.length c0_8,.bool a0_9,.slice A0_10 l0_10.length c0_10,.int .i64 a0_11,.int .i64 a0_12,.slice A0_13 l0_13.length c0_13] 44 (0,0)) (by(with_reducible repeat (first|refine blk_drewN ?_ _|refine blk_drew ?_|refine blk_alloc ?_ _));exact BK167.out) hb);have n1_:=Aside0.mk (below_step (by repeat (first|(with_reducible first|exact HB.out|apply below_alloc|apply pw_below_drewN|apply below_drew1|refine below_set ?_ GE167.out)|exact HB.out)) hb);have n2_:=Aside0.mk (hbox);have n3_:=Aside0.mk ((by rw [hg];exact(below_size (by repeat (first|(with_reducible first|exact HB.out|apply below_alloc|apply pw_below_drewN|apply below_drew1|refine below_set ?_ GE167.out)|exact HB.out))) : w.heap.size ≤ gb168));have n4_:=Aside0.mk ((by rw [hg];exact(below_size (by repeat (first|(with_reducible first|exact HB.out|apply below_alloc|apply pw_below_drewN|apply below_drew1|refine below_set ?_ GE167.out)|exact HB.out))) : w.heap.size ≤ gb168));have n5_:=Aside0.mk ((by rw [hg];exact Nat.ne_of_lt (blk_lt (g:=gb167) (o:=.cells #[.int .i64 a0_0,.int .i64 a0_1,.int .i64 a0_2,.int .i64 a0_3,.int .i64 a0_4,.slice A0_5 l0_5.length c0_5,.int .i64 a0_6,.slice A0_7 l0_7.length c0_7,.slice A0_8 l0_8.length c0_8,.bool a0_9,.slice A0_10 l0_10.length c0_10,.int .i64 a0_11,.int .i64 a0_12,.slice A0_13 l0_13.length c0_13] 44 (0,0)) (by(with_reducible repeat (first|refine blk_drewN ?_ _|refine blk_drew ?_|refine blk_alloc ?_ _));exact BK167.out)) : gb167 ≠ gb168));have n6_:=Aside0.mk ((by rw [hg];exact Nat.ne_of_gt (blk_lt (g:=gb167) (o:=.cells #[.int .i64 a0_0,.int .i64 a0_1,.int .i64 a0_2,.int .i64 a0_3,.int .i64 a0_4,.slice A0_5 l0_5.length c0_5,.int .i64 a0_6,.slice A0_7 l0_7.length c0_7,.slice A0_8 l0_8.length c0_8,.bool a0_9,.slice A0_10 l0_10.length c0_10,.int .i64 a0_11,.int .i64 a0_12,.slice A0_13 l0_13.length c0_13] 44 (0,0)) (by(with_reducible repeat (first|refine blk_drewN ?_ _|refine blk_drew ?_|refine blk_alloc ?_ _));exact BK167.out)) : gb168 ≠ gb167));clear BK167;clear HB;have BK167:=n0_;have HB:=n1_;have BK168:=n2_;have GW168:=n3_;have GE168:=n4_;have NB167_168:=n5_;have NB168_167:=n6_;clear n0_ n1_ n2_ n3_ n4_ n5_ n6_;clear hb hbox hg))
  have n0_:=Aside0.mk (blk_drew BK167.out)
  have n1_:=Aside0.mk (blk_drew BK168.out)
  have n2_:=Aside0.mk (below_drew1 HB.out)
  clear BK167
  clear BK168
  clear HB
  have BK167:=n0_
  have BK168:=n1_
  have HB:=n2_
  clear n0_ n1_ n2_
  refine start_ (n:=33) (S:=fun w'=>w'.cell? ⟨gb167,0,none⟩ = some (.int .i64 a0_0)∧w'.cell? ⟨gb167,1,none⟩ = some (.int .i64 a0_1)∧w'.cell? ⟨gb167,2,none⟩ = some (.int .i64 a0_2)∧w'.cell? ⟨gb167,3,none⟩ = some (.int .i64 a0_3)∧w'.cell? ⟨gb167,4,none⟩ = some (.int .i64 a0_4)∧w'.cell? ⟨gb167,5,none⟩ = some (.slice A0_5 l0_5.length c0_5)∧w'.cell? ⟨gb167,6,none⟩ = some (.int .i64 a0_6)∧w'.cell? ⟨gb167,7,none⟩ = some (.slice A0_7 l0_7.length c0_7)∧w'.cell? ⟨gb167,8,none⟩ = some (.slice A0_8 l0_8.length c0_8)∧w'.cell? ⟨gb167,9,none⟩ = some (.bool a0_9)∧w'.cell? ⟨gb167,10,none⟩ = some (.slice A0_10 l0_10.length c0_10)∧w'.cell? ⟨gb167,11,none⟩ = some (.int .i64 a0_11)∧w'.cell? ⟨gb167,12,none⟩ = some (.int .i64 a0_12)∧w'.cell? ⟨gb167,13,none⟩ = some (.slice A0_13 l0_13.length c0_13)) (ds:=[]) #[false,false,false,false,false,false,false,false,false,false,false,false,false,false,false,false,false,false,false,false,false,false,false,false,false,false,false,false,false,false,false,false,false] (by kernel_rfl) rfl rfl ⟨(blk_cell BK167.out 0).trans rfl,(blk_cell BK167.out 1).trans rfl,(blk_cell BK167.out 2).trans rfl,(blk_cell BK167.out 3).trans rfl,(blk_cell BK167.out 4).trans rfl,(blk_cell BK167.out 5).trans rfl,(blk_cell BK167.out 6).trans rfl,(blk_cell BK167.out 7).trans rfl,(blk_cell BK167.out 8).trans rfl,(blk_cell BK167.out 9).trans rfl,(blk_cell BK167.out 10).trans rfl,(blk_cell BK167.out 11).trans rfl,(blk_cell BK167.out 12).trans rfl,(blk_cell BK167.out 13).trans rfl⟩ (fun hHeld=>?_);refine with_tabW undercroftlaw19_Of.tab1 undercroftlaw19_Of.bits1 (fun HT_ HW_=>?_)
  generalize w7.drew = w8 at BK167 BK168 HB hHeld ⊢
  refine pure_ (i:=0) (N:=some 6) (v:=?_) (a':=?_) #[true,false,false,false,false,false,false,false,false,false,false,false,false,false,false,false,false,false,false,false,false,false,false,false,false,false,false,false,false,false,false,false,false] rfl rfl (any_of HT_.out (by kernel_rfl)) (fun _ _ _ h=>h) (Or.inl ⟨by rfl,?_⟩) ?_ ?_
  rotate_left
  · intro w'
    go_simp
    with_reducible rfl
  rotate_left
  · simp only [Act.put,List.setIfInBounds_toArray,List.set_cons_zero,List.set_cons_succ,i64_w,i32_w]
    rfl
  refine pure_ (i:=2) (N:=some 8) (v:=?_) (a':=?_) #[true,false,true,false,false,false,false,false,false,false,false,false,false,false,false,false,false,false,false,false,false,false,false,false,false,false,false,false,false,false,false,false,false] rfl rfl (any_of HT_.out (by kernel_rfl)) (fun _ _ _ h=>h) (Or.inl ⟨by rfl,?_⟩) ?_ ?_
  rotate_left
  · intro w'
    go_simp
    with_reducible rfl
  rotate_left
  · simp only [Act.put,List.setIfInBounds_toArray,List.set_cons_zero,List.set_cons_succ,i64_w,i32_w]
    rfl
  refine pure_ (i:=4) (N:=some 10) (v:=?_) (a':=?_) #[true,false,true,false,true,false,false,false,false,false,false,false,false,false,false,false,false,false,false,false,false,false,false,false,false,false,false,false,false,false,false,false,false] rfl rfl (any_of HT_.out (by kernel_rfl)) (fun _ _ _ h=>h) (Or.inl ⟨by rfl,?_⟩) ?_ ?_
  rotate_left
  · intro w'
    go_simp
    with_reducible rfl
  rotate_left
  · simp only [Act.put,List.setIfInBounds_toArray,List.set_cons_zero,List.set_cons_succ,i64_w,i32_w]
    rfl
  refine pure_ (i:=6) (N:=some 12) (v:=?_) (a':=?_) #[true,false,true,false,true,false,true,false,false,false,false,false,false,false,false,false,false,false,false,false,false,false,false,false,false,false,false,false,false,false,false,false,false] rfl rfl (any_of HT_.out (by kernel_rfl)) (fun _ _ _ h=>h) (Or.inl ⟨by rfl,?_⟩) ?_ ?_
  rotate_left
  · intro w'
    go_simp
    with_reducible rfl
  rotate_left
  · simp only [Act.put,List.setIfInBounds_toArray,List.set_cons_zero,List.set_cons_succ,i64_w,i32_w]
    rfl
  refine pure_ (i:=8) (N:=some 14) (v:=?_) (a':=?_) #[true,false,true,false,true,false,true,false,true,false,false,false,false,false,false,false,false,false,false,false,false,false,false,false,false,false,false,false,false,false,false,false,false] rfl rfl (any_of HT_.out (by kernel_rfl)) (fun _ _ _ h=>h) (Or.inl ⟨by rfl,?_⟩) ?_ ?_
  rotate_left
  · intro w'
    go_simp
    with_reducible rfl
  rotate_left
  · simp only [Act.put,List.setIfInBounds_toArray,List.set_cons_zero,List.set_cons_succ,i64_w,i32_w]
    rfl
  refine pure_ (i:=10) (N:=some 16) (v:=?_) (a':=?_) #[true,false,true,false,true,false,true,false,true,false,true,false,false,false,false,false,false,false,false,false,false,false,false,false,false,false,false,false,false,false,false,false,false] rfl rfl (any_of HT_.out (by kernel_rfl)) (fun _ _ _ h=>h) (Or.inl ⟨by rfl,?_⟩) ?_ ?_
  rotate_left
  · intro w'
    go_simp
    with_reducible rfl
  rotate_left
  · simp only [Act.put,List.setIfInBounds_toArray,List.set_cons_zero,List.set_cons_succ,i64_w,i32_w]
    rfl
  refine pure_ (i:=13) (N:=some 19) (v:=?_) (a':=?_) #[true,false,true,false,true,false,true,false,true,false,true,false,false,true,false,false,false,false,false,false,false,false,false,false,false,false,false,false,false,false,false,false,false] rfl rfl (any_of HT_.out (by kernel_rfl)) (fun _ _ _ h=>h) (Or.inl ⟨by rfl,?_⟩) ?_ ?_
  rotate_left
  · intro w'
    go_simp
    with_reducible rfl
  rotate_left
  · simp only [Act.put,List.setIfInBounds_toArray,List.set_cons_zero,List.set_cons_succ,i64_w,i32_w]
    rfl
  refine pure_ (i:=15) (N:=some 21) (v:=?_) (a':=?_) #[true,false,true,false,true,false,true,false,true,false,true,false,false,true,false,true,false,false,false,false,false,false,false,false,false,false,false,false,false,false,false,false,false] rfl rfl (any_of HT_.out (by kernel_rfl)) (fun _ _ _ h=>h) (Or.inl ⟨by rfl,?_⟩) ?_ ?_
  rotate_left
  · intro w'
    go_simp
    with_reducible rfl
  rotate_left
  · simp only [Act.put,List.setIfInBounds_toArray,List.set_cons_zero,List.set_cons_succ,i64_w,i32_w]
    rfl
  refine pure_ (i:=18) (N:=some 24) (v:=?_) (a':=?_) #[true,false,true,false,true,false,true,false,true,false,true,false,false,true,false,true,false,false,true,false,false,false,false,false,false,false,false,false,false,false,false,false,false] rfl rfl (any_of HT_.out (by kernel_rfl)) (fun _ _ _ h=>h) (Or.inl ⟨by rfl,?_⟩) ?_ ?_
  rotate_left
  · intro w'
    go_simp
    with_reducible rfl
  rotate_left
  · simp only [Act.put,List.setIfInBounds_toArray,List.set_cons_zero,List.set_cons_succ,i64_w,i32_w]
    rfl
  refine pure_ (i:=21) (N:=some 27) (v:=?_) (a':=?_) #[true,false,true,false,true,false,true,false,true,false,true,false,false,true,false,true,false,false,true,false,false,true,false,false,false,false,false,false,false,false,false,false,false] rfl rfl (any_of HT_.out (by kernel_rfl)) (fun _ _ _ h=>h) (Or.inl ⟨by rfl,?_⟩) ?_ ?_
  rotate_left
  · intro w'
    go_simp
    with_reducible rfl
  rotate_left
  · simp only [Act.put,List.setIfInBounds_toArray,List.set_cons_zero,List.set_cons_succ,i64_w,i32_w]
    rfl
  refine pure_ (i:=23) (N:=some 29) (v:=?_) (a':=?_) #[true,false,true,false,true,false,true,false,true,false,true,false,false,true,false,true,false,false,true,false,false,true,false,true,false,false,false,false,false,false,false,false,false] rfl rfl (any_of HT_.out (by kernel_rfl)) (fun _ _ _ h=>h) (Or.inl ⟨by rfl,?_⟩) ?_ ?_
  rotate_left
  · intro w'
    go_simp
    with_reducible rfl
  rotate_left
  · simp only [Act.put,List.setIfInBounds_toArray,List.set_cons_zero,List.set_cons_succ,i64_w,i32_w]
    rfl
  refine pure_ (i:=25) (N:=some 31) (v:=?_) (a':=?_) #[true,false,true,false,true,false,true,false,true,false,true,false,false,true,false,true,false,false,true,false,false,true,false,true,false,true,false,false,false,false,false,false,false] rfl rfl (any_of HT_.out (by kernel_rfl)) (fun _ _ _ h=>h) (Or.inl ⟨by rfl,?_⟩) ?_ ?_
  rotate_left
  · intro w'
    go_simp
    with_reducible rfl
  rotate_left
  · simp only [Act.put,List.setIfInBounds_toArray,List.set_cons_zero,List.set_cons_succ,i64_w,i32_w]
    rfl
  refine pure_ (i:=27) (N:=some 33) (v:=?_) (a':=?_) #[true,false,true,false,true,false,true,false,true,false,true,false,false,true,false,true,false,false,true,false,false,true,false,true,false,true,false,true,false,false,false,false,false] rfl rfl (any_of HT_.out (by kernel_rfl)) (fun _ _ _ h=>h) (Or.inl ⟨by rfl,?_⟩) ?_ ?_
  rotate_left
  · intro w'
    go_simp
    with_reducible rfl
  rotate_left
  · simp only [Act.put,List.setIfInBounds_toArray,List.set_cons_zero,List.set_cons_succ,i64_w,i32_w]
    rfl
  refine take_ (i:=1) (N:=some 7) (v:=?_) (a':=?_) #[true,true,true,false,true,false,true,false,true,false,true,false,false,true,false,true,false,false,true,false,false,true,false,true,false,true,false,true,false,false,false,false,false] rfl rfl (take_ofW HT_.out HW_.out (by kernel_rfl)) (fun _ _ _ h=>h) (Or.inl ⟨by rfl,?_⟩) hHeld ?_ ?_
  rotate_left
  · rintro w' ⟨s0,s1,s2,s3,s4,s5,s6,s7,s8,s9,s10,s11,s12,s13⟩
    go_simp
    with_reducible rfl
  rotate_left
  · simp only [Act.put,List.setIfInBounds_toArray,List.set_cons_zero,List.set_cons_succ,i64_w,i32_w]
    rfl
  refine take_ (i:=3) (N:=some 9) (v:=?_) (a':=?_) #[true,true,true,true,true,false,true,false,true,false,true,false,false,true,false,true,false,false,true,false,false,true,false,true,false,true,false,true,false,false,false,false,false] rfl rfl (take_ofW HT_.out HW_.out (by kernel_rfl)) (fun _ _ _ h=>h) (Or.inl ⟨by rfl,?_⟩) hHeld ?_ ?_
  rotate_left
  · rintro w' ⟨s0,s1,s2,s3,s4,s5,s6,s7,s8,s9,s10,s11,s12,s13⟩
    go_simp
    with_reducible rfl
  rotate_left
  · simp only [Act.put,List.setIfInBounds_toArray,List.set_cons_zero,List.set_cons_succ,i64_w,i32_w]
    rfl
  refine take_ (i:=5) (N:=some 11) (v:=?_) (a':=?_) #[true,true,true,true,true,true,true,false,true,false,true,false,false,true,false,true,false,false,true,false,false,true,false,true,false,true,false,true,false,false,false,false,false] rfl rfl (take_ofW HT_.out HW_.out (by kernel_rfl)) (fun _ _ _ h=>h) (Or.inl ⟨by rfl,?_⟩) hHeld ?_ ?_
  rotate_left
  · rintro w' ⟨s0,s1,s2,s3,s4,s5,s6,s7,s8,s9,s10,s11,s12,s13⟩
    go_simp
    with_reducible rfl
  rotate_left
  · simp only [Act.put,List.setIfInBounds_toArray,List.set_cons_zero,List.set_cons_succ,i64_w,i32_w]
    rfl
  refine take_ (i:=7) (N:=some 13) (v:=?_) (a':=?_) #[true,true,true,true,true,true,true,true,true,false,true,false,false,true,false,true,false,false,true,false,false,true,false,true,false,true,false,true,false,false,false,false,false] rfl rfl (take_ofW HT_.out HW_.out (by kernel_rfl)) (fun _ _ _ h=>h) (Or.inl ⟨by rfl,?_⟩) hHeld ?_ ?_
  rotate_left
  · rintro w' ⟨s0,s1,s2,s3,s4,s5,s6,s7,s8,s9,s10,s11,s12,s13⟩
    go_simp
    with_reducible rfl
  rotate_left
  · simp only [Act.put,List.setIfInBounds_toArray,List.set_cons_zero,List.set_cons_succ,i64_w,i32_w]
    rfl
  refine take_ (i:=9) (N:=some 15) (v:=?_) (a':=?_) #[true,true,true,true,true,true,true,true,true,true,true,false,false,true,false,true,false,false,true,false,false,true,false,true,false,true,false,true,false,false,false,false,false] rfl rfl (take_ofW HT_.out HW_.out (by kernel_rfl)) (fun _ _ _ h=>h) (Or.inl ⟨by rfl,?_⟩) hHeld ?_ ?_
  rotate_left
  · rintro w' ⟨s0,s1,s2,s3,s4,s5,s6,s7,s8,s9,s10,s11,s12,s13⟩
    go_simp
    with_reducible rfl
  rotate_left
  · simp only [Act.put,List.setIfInBounds_toArray,List.set_cons_zero,List.set_cons_succ,i64_w,i32_w]
    rfl
  refine take_ (i:=11) (N:=some 17) (v:=?_) (a':=?_) #[true,true,true,true,true,true,true,true,true,true,true,true,false,true,false,true,false,false,true,false,false,true,false,true,false,true,false,true,false,false,false,false,false] rfl rfl (take_ofW HT_.out HW_.out (by kernel_rfl)) (fun _ _ _ h=>h) (Or.inl ⟨by rfl,?_⟩) hHeld ?_ ?_
  rotate_left
  · rintro w' ⟨s0,s1,s2,s3,s4,s5,s6,s7,s8,s9,s10,s11,s12,s13⟩
    go_simp
    with_reducible rfl
  rotate_left
  · simp only [Act.put,List.setIfInBounds_toArray,List.set_cons_zero,List.set_cons_succ,i64_w,i32_w]
    rfl
  refine take_ (i:=14) (N:=some 20) (v:=?_) (a':=?_) #[true,true,true,true,true,true,true,true,true,true,true,true,false,true,true,true,false,false,true,false,false,true,false,true,false,true,false,true,false,false,false,false,false] rfl rfl (take_ofW HT_.out HW_.out (by kernel_rfl)) (fun _ _ _ h=>h) (Or.inl ⟨by rfl,?_⟩) hHeld ?_ ?_
  rotate_left
  · rintro w' ⟨s0,s1,s2,s3,s4,s5,s6,s7,s8,s9,s10,s11,s12,s13⟩
    go_simp
    with_reducible rfl
  rotate_left
  · simp only [Act.put,List.setIfInBounds_toArray,List.set_cons_zero,List.set_cons_succ,i64_w,i32_w]
    rfl
  refine take_ (i:=16) (N:=some 22) (v:=?_) (a':=?_) #[true,true,true,true,true,true,true,true,true,true,true,true,false,true,true,true,true,false,true,false,false,true,false,true,false,true,false,true,false,false,false,false,false] rfl rfl (take_ofW HT_.out HW_.out (by kernel_rfl)) (fun _ _ _ h=>h) (Or.inl ⟨by rfl,?_⟩) hHeld ?_ ?_
  rotate_left
  · rintro w' ⟨s0,s1,s2,s3,s4,s5,s6,s7,s8,s9,s10,s11,s12,s13⟩
    go_simp
    with_reducible rfl
  rotate_left
  · simp only [Act.put,List.setIfInBounds_toArray,List.set_cons_zero,List.set_cons_succ,i64_w,i32_w]
    rfl
  refine take_ (i:=19) (N:=some 25) (v:=?_) (a':=?_) #[true,true,true,true,true,true,true,true,true,true,true,true,false,true,true,true,true,false,true,true,false,true,false,true,false,true,false,true,false,false,false,false,false] rfl rfl (take_ofW HT_.out HW_.out (by kernel_rfl)) (fun _ _ _ h=>h) (Or.inl ⟨by rfl,?_⟩) hHeld ?_ ?_
  rotate_left
  · rintro w' ⟨s0,s1,s2,s3,s4,s5,s6,s7,s8,s9,s10,s11,s12,s13⟩
    go_simp
    with_reducible rfl
  rotate_left
  · simp only [Act.put,List.setIfInBounds_toArray,List.set_cons_zero,List.set_cons_succ,i64_w,i32_w]
    rfl
  refine take_ (i:=22) (N:=some 28) (v:=?_) (a':=?_) #[true,true,true,true,true,true,true,true,true,true,true,true,false,true,true,true,true,false,true,true,false,true,true,true,false,true,false,true,false,false,false,false,false] rfl rfl (take_ofW HT_.out HW_.out (by kernel_rfl)) (fun _ _ _ h=>h) (Or.inl ⟨by rfl,?_⟩) hHeld ?_ ?_
  rotate_left
  · rintro w' ⟨s0,s1,s2,s3,s4,s5,s6,s7,s8,s9,s10,s11,s12,s13⟩
    go_simp
    with_reducible rfl
  rotate_left
  · simp only [Act.put,List.setIfInBounds_toArray,List.set_cons_zero,List.set_cons_succ,i64_w,i32_w]
    rfl
  refine take_ (i:=24) (N:=some 30) (v:=?_) (a':=?_) #[true,true,true,true,true,true,true,true,true,true,true,true,false,true,true,true,true,false,true,true,false,true,true,true,true,true,false,true,false,false,false,false,false] rfl rfl (take_ofW HT_.out HW_.out (by kernel_rfl)) (fun _ _ _ h=>h) (Or.inl ⟨by rfl,?_⟩) hHeld ?_ ?_
  rotate_left
  · rintro w' ⟨s0,s1,s2,s3,s4,s5,s6,s7,s8,s9,s10,s11,s12,s13⟩
    go_simp
    with_reducible rfl
  rotate_left
  · simp only [Act.put,List.setIfInBounds_toArray,List.set_cons_zero,List.set_cons_succ,i64_w,i32_w]
    rfl
  refine take_ (i:=26) (N:=some 32) (v:=?_) (a':=?_) #[true,true,true,true,true,true,true,true,true,true,true,true,false,true,true,true,true,false,true,true,false,true,true,true,true,true,true,true,false,false,false,false,false] rfl rfl (take_ofW HT_.out HW_.out (by kernel_rfl)) (fun _ _ _ h=>h) (Or.inl ⟨by rfl,?_⟩) hHeld ?_ ?_
  rotate_left
  · rintro w' ⟨s0,s1,s2,s3,s4,s5,s6,s7,s8,s9,s10,s11,s12,s13⟩
    go_simp
    with_reducible rfl
  rotate_left
  · simp only [Act.put,List.setIfInBounds_toArray,List.set_cons_zero,List.set_cons_succ,i64_w,i32_w]
    rfl
  refine take_ (i:=28) (N:=some 34) (v:=?_) (a':=?_) #[true,true,true,true,true,true,true,true,true,true,true,true,false,true,true,true,true,false,true,true,false,true,true,true,true,true,true,true,true,false,false,false,false] rfl rfl (take_ofW HT_.out HW_.out (by kernel_rfl)) (fun _ _ _ h=>h) (Or.inl ⟨by rfl,?_⟩) hHeld ?_ ?_
  rotate_left
  · rintro w' ⟨s0,s1,s2,s3,s4,s5,s6,s7,s8,s9,s10,s11,s12,s13⟩
    go_simp
    with_reducible rfl
  rotate_left
  · simp only [Act.put,List.setIfInBounds_toArray,List.set_cons_zero,List.set_cons_succ,i64_w,i32_w]
    rfl
  refine join_ (σ:=Value × Value × Value × Value × Nat) 1 #[true,true,true,true,true,true,true,true,true,true,true,true,true,true,true,true,true,true,true,true,true,true,true,true,true,true,true,true,true,true,true,true,false] (fun s_=>[(18,s_.1),(23,s_.2.1),(26,s_.2.2.1),(35,s_.2.2.2.1),(3,.pointer (some ⟨s_.2.2.2.2,0,none⟩)),(36,.agg #[.int .i64 a0_0,.int .i64 a0_1,.int .i64 a0_2,.int .i64 a0_3,.int .i64 a0_4,s_.1,.int .i64 a0_6,s_.2.1,s_.2.2.1,.bool a0_9,.slice none 0 0,.int .i64 a0_11,.int .i64 a0_12,s_.2.2.2.1])]) (fun s_ w'=>(w'.cell? ⟨gb167,0,none⟩ = some (.int .i64 a0_0)∧w'.cell? ⟨gb167,1,none⟩ = some (.int .i64 a0_1)∧w'.cell? ⟨gb167,2,none⟩ = some (.int .i64 a0_2)∧w'.cell? ⟨gb167,3,none⟩ = some (.int .i64 a0_3)∧w'.cell? ⟨gb167,4,none⟩ = some (.int .i64 a0_4)∧w'.cell? ⟨gb167,5,none⟩ = some (.slice A0_5 l0_5.length c0_5)∧w'.cell? ⟨gb167,6,none⟩ = some (.int .i64 a0_6)∧w'.cell? ⟨gb167,7,none⟩ = some (.slice A0_7 l0_7.length c0_7)∧w'.cell? ⟨gb167,8,none⟩ = some (.slice A0_8 l0_8.length c0_8)∧w'.cell? ⟨gb167,9,none⟩ = some (.bool a0_9)∧w'.cell? ⟨gb167,10,none⟩ = some (.slice A0_10 l0_10.length c0_10)∧w'.cell? ⟨gb167,11,none⟩ = some (.int .i64 a0_11)∧w'.cell? ⟨gb167,12,none⟩ = some (.int .i64 a0_12)∧w'.cell? ⟨gb167,13,none⟩ = some (.slice A0_13 l0_13.length c0_13))∧(Kd.S (Kd.slice 5 (Kd.int .u8)) 22 w' w.heap.size (fun _=>True) s_.1 t169)∧(Kd.R (Kd.int .i64) 3 w' w.heap.size (fun k_=>some k_ ≠ (s_.2.2.2.1 : Value).ownBlock) s_.2.1 t172)∧(Kd.R Kd.bool 4 w' w.heap.size (fun _=>True) s_.2.2.1 t175)∧(Kd.R (Kd.int .i64) 3 w' w.heap.size (fun k_=>some k_ ≠ (s_.2.1 : Value).ownBlock) s_.2.2.2.1 t178)∧(w'.heap[gb167]? = some (.cells #[.int .i64 a0_0,.int .i64 a0_1,.int .i64 a0_2,.int .i64 a0_3,.int .i64 a0_4,.slice A0_5 l0_5.length c0_5,.int .i64 a0_6,.slice A0_7 l0_7.length c0_7,.slice A0_8 l0_8.length c0_8,.bool a0_9,.slice A0_10 l0_10.length c0_10,.int .i64 a0_11,.int .i64 a0_12,.slice A0_13 l0_13.length c0_13] 44 (0,0)))∧(w'.heap[gb168]? = some (.cells #[.int .i64 0,.int .i64 0,.int .i64 0,.int .i64 0,.int .i64 0,.slice none 0 0,.int .i64 0,.slice none 0 0,.slice none 0 0,.bool false,.slice none 0 0,.int .i64 0,.int .i64 0,.slice none 0 0] 29 (0,0)))∧(w'.heap[s_.2.2.2.2]? = some (.cells #[.int .i64 0,.int .i64 0,.int .i64 0,.int .i64 0,.int .i64 0,.slice none 0 0,.int .i64 0,.slice none 0 0,.slice none 0 0,.bool false,.slice none 0 0,.int .i64 0,.int .i64 0,.slice none 0 0] 29 (0,0)))∧(w.heap.size ≤ s_.2.2.2.2)∧(w.heap.size ≤ s_.2.2.2.2)∧(gb167 ≠ s_.2.2.2.2)∧(s_.2.2.2.2 ≠ gb167)∧(gb168 ≠ s_.2.2.2.2)∧(s_.2.2.2.2 ≠ gb168)∧(Below w.heap.size w w')) ?_ ?_
  rotate_left
  · intro hJ12_17_20_29_31
    refine join_ (σ:=Value × Value × Value × Value) 2 #[true,true,true,true,true,true,true,true,true,true,true,true,true,true,true,true,true,true,true,true,true,true,true,true,true,true,true,true,true,true,true,false,false] (fun s_=>[(18,s_.1),(23,s_.2.1),(26,s_.2.2.1),(35,s_.2.2.2),(36,.agg #[.int .i64 a0_0,.int .i64 a0_1,.int .i64 a0_2,.int .i64 a0_3,.int .i64 a0_4,s_.1,.int .i64 a0_6,s_.2.1,s_.2.2.1,.bool a0_9,.slice none 0 0,.int .i64 a0_11,.int .i64 a0_12,s_.2.2.2])]) (fun s_ w'=>(w'.cell? ⟨gb167,0,none⟩ = some (.int .i64 a0_0)∧w'.cell? ⟨gb167,1,none⟩ = some (.int .i64 a0_1)∧w'.cell? ⟨gb167,2,none⟩ = some (.int .i64 a0_2)∧w'.cell? ⟨gb167,3,none⟩ = some (.int .i64 a0_3)∧w'.cell? ⟨gb167,4,none⟩ = some (.int .i64 a0_4)∧w'.cell? ⟨gb167,5,none⟩ = some (.slice A0_5 l0_5.length c0_5)∧w'.cell? ⟨gb167,6,none⟩ = some (.int .i64 a0_6)∧w'.cell? ⟨gb167,7,none⟩ = some (.slice A0_7 l0_7.length c0_7)∧w'.cell? ⟨gb167,8,none⟩ = some (.slice A0_8 l0_8.length c0_8)∧w'.cell? ⟨gb167,9,none⟩ = some (.bool a0_9)∧w'.cell? ⟨gb167,10,none⟩ = some (.slice A0_10 l0_10.length c0_10)∧w'.cell? ⟨gb167,11,none⟩ = some (.int .i64 a0_11)∧w'.cell? ⟨gb167,12,none⟩ = some (.int .i64 a0_12)∧w'.cell? ⟨gb167,13,none⟩ = some (.slice A0_13 l0_13.length c0_13))∧(Kd.S (Kd.slice 5 (Kd.int .u8)) 22 w' w.heap.size (fun _=>True) s_.1 t169)∧(Kd.R (Kd.int .i64) 3 w' w.heap.size (fun k_=>some k_ ≠ (s_.2.2.2 : Value).ownBlock) s_.2.1 t172)∧(Kd.R Kd.bool 4 w' w.heap.size (fun _=>True) s_.2.2.1 t175)∧(Kd.R (Kd.int .i64) 3 w' w.heap.size (fun k_=>some k_ ≠ (s_.2.1 : Value).ownBlock) s_.2.2.2 t178)∧(w'.heap[gb167]? = some (.cells #[.int .i64 a0_0,.int .i64 a0_1,.int .i64 a0_2,.int .i64 a0_3,.int .i64 a0_4,.slice A0_5 l0_5.length c0_5,.int .i64 a0_6,.slice A0_7 l0_7.length c0_7,.slice A0_8 l0_8.length c0_8,.bool a0_9,.slice A0_10 l0_10.length c0_10,.int .i64 a0_11,.int .i64 a0_12,.slice A0_13 l0_13.length c0_13] 44 (0,0)))∧(w'.heap[gb168]? = some (.cells #[.int .i64 0,.int .i64 0,.int .i64 0,.int .i64 0,.int .i64 0,.slice none 0 0,.int .i64 0,.slice none 0 0,.slice none 0 0,.bool false,.slice none 0 0,.int .i64 0,.int .i64 0,.slice none 0 0] 29 (0,0)))∧(Below w.heap.size w w')) ?_ ?_
    rotate_left
    · intro hJ12_17_20_29
      refine join_ (σ:=Value × Value × Value × Nat) 3 #[true,true,true,true,true,true,true,true,true,true,true,true,true,true,true,true,true,true,true,true,true,true,true,true,true,true,true,true,true,false,false,true,false] (fun s_=>[(18,s_.1),(23,s_.2.1),(26,s_.2.2.1),(3,.pointer (some ⟨s_.2.2.2,0,none⟩))]) (fun s_ w'=>(w'.cell? ⟨gb167,0,none⟩ = some (.int .i64 a0_0)∧w'.cell? ⟨gb167,1,none⟩ = some (.int .i64 a0_1)∧w'.cell? ⟨gb167,2,none⟩ = some (.int .i64 a0_2)∧w'.cell? ⟨gb167,3,none⟩ = some (.int .i64 a0_3)∧w'.cell? ⟨gb167,4,none⟩ = some (.int .i64 a0_4)∧w'.cell? ⟨gb167,5,none⟩ = some (.slice A0_5 l0_5.length c0_5)∧w'.cell? ⟨gb167,6,none⟩ = some (.int .i64 a0_6)∧w'.cell? ⟨gb167,7,none⟩ = some (.slice A0_7 l0_7.length c0_7)∧w'.cell? ⟨gb167,8,none⟩ = some (.slice A0_8 l0_8.length c0_8)∧w'.cell? ⟨gb167,9,none⟩ = some (.bool a0_9)∧w'.cell? ⟨gb167,10,none⟩ = some (.slice A0_10 l0_10.length c0_10)∧w'.cell? ⟨gb167,11,none⟩ = some (.int .i64 a0_11)∧w'.cell? ⟨gb167,12,none⟩ = some (.int .i64 a0_12)∧w'.cell? ⟨gb167,13,none⟩ = some (.slice A0_13 l0_13.length c0_13))∧(Kd.S (Kd.slice 5 (Kd.int .u8)) 22 w' w.heap.size (fun _=>True) s_.1 t169)∧(Kd.R (Kd.int .i64) 3 w' w.heap.size (fun _=>True) s_.2.1 t172)∧(Kd.R Kd.bool 4 w' w.heap.size (fun _=>True) s_.2.2.1 t175)∧(w'.heap[gb167]? = some (.cells #[.int .i64 a0_0,.int .i64 a0_1,.int .i64 a0_2,.int .i64 a0_3,.int .i64 a0_4,.slice A0_5 l0_5.length c0_5,.int .i64 a0_6,.slice A0_7 l0_7.length c0_7,.slice A0_8 l0_8.length c0_8,.bool a0_9,.slice A0_10 l0_10.length c0_10,.int .i64 a0_11,.int .i64 a0_12,.slice A0_13 l0_13.length c0_13] 44 (0,0)))∧(w'.heap[gb168]? = some (.cells #[.int .i64 0,.int .i64 0,.int .i64 0,.int .i64 0,.int .i64 0,.slice none 0 0,.int .i64 0,.slice none 0 0,.slice none 0 0,.bool false,.slice none 0 0,.int .i64 0,.int .i64 0,.slice none 0 0] 29 (0,0)))∧(w'.heap[s_.2.2.2]? = some (.cells #[.int .i64 0,.int .i64 0,.int .i64 0,.int .i64 0,.int .i64 0,.slice none 0 0,.int .i64 0,.slice none 0 0,.slice none 0 0,.bool false,.slice none 0 0,.int .i64 0,.int .i64 0,.slice none 0 0] 29 (0,0)))∧(w.heap.size ≤ s_.2.2.2)∧(w.heap.size ≤ s_.2.2.2)∧(gb167 ≠ s_.2.2.2)∧(s_.2.2.2 ≠ gb167)∧(gb168 ≠ s_.2.2.2)∧(s_.2.2.2 ≠ gb168)∧(Below w.heap.size w w')) ?_ ?_
      rotate_left
      · intro hJ12_17_20_31
        refine join_ (σ:=Value × Value × Value) 4 #[true,true,true,true,true,true,true,true,true,true,true,true,true,true,true,true,true,true,true,true,true,true,true,true,true,true,true,true,true,false,false,false,false] (fun s_=>[(18,s_.1),(23,s_.2.1),(26,s_.2.2)]) (fun s_ w'=>(w'.cell? ⟨gb167,0,none⟩ = some (.int .i64 a0_0)∧w'.cell? ⟨gb167,1,none⟩ = some (.int .i64 a0_1)∧w'.cell? ⟨gb167,2,none⟩ = some (.int .i64 a0_2)∧w'.cell? ⟨gb167,3,none⟩ = some (.int .i64 a0_3)∧w'.cell? ⟨gb167,4,none⟩ = some (.int .i64 a0_4)∧w'.cell? ⟨gb167,5,none⟩ = some (.slice A0_5 l0_5.length c0_5)∧w'.cell? ⟨gb167,6,none⟩ = some (.int .i64 a0_6)∧w'.cell? ⟨gb167,7,none⟩ = some (.slice A0_7 l0_7.length c0_7)∧w'.cell? ⟨gb167,8,none⟩ = some (.slice A0_8 l0_8.length c0_8)∧w'.cell? ⟨gb167,9,none⟩ = some (.bool a0_9)∧w'.cell? ⟨gb167,10,none⟩ = some (.slice A0_10 l0_10.length c0_10)∧w'.cell? ⟨gb167,11,none⟩ = some (.int .i64 a0_11)∧w'.cell? ⟨gb167,12,none⟩ = some (.int .i64 a0_12)∧w'.cell? ⟨gb167,13,none⟩ = some (.slice A0_13 l0_13.length c0_13))∧(Kd.S (Kd.slice 5 (Kd.int .u8)) 22 w' w.heap.size (fun _=>True) s_.1 t169)∧(Kd.R (Kd.int .i64) 3 w' w.heap.size (fun _=>True) s_.2.1 t172)∧(Kd.R Kd.bool 4 w' w.heap.size (fun _=>True) s_.2.2 t175)∧(w'.heap[gb167]? = some (.cells #[.int .i64 a0_0,.int .i64 a0_1,.int .i64 a0_2,.int .i64 a0_3,.int .i64 a0_4,.slice A0_5 l0_5.length c0_5,.int .i64 a0_6,.slice A0_7 l0_7.length c0_7,.slice A0_8 l0_8.length c0_8,.bool a0_9,.slice A0_10 l0_10.length c0_10,.int .i64 a0_11,.int .i64 a0_12,.slice A0_13 l0_13.length c0_13] 44 (0,0)))∧(w'.heap[gb168]? = some (.cells #[.int .i64 0,.int .i64 0,.int .i64 0,.int .i64 0,.int .i64 0,.slice none 0 0,.int .i64 0,.slice none 0 0,.slice none 0 0,.bool false,.slice none 0 0,.int .i64 0,.int .i64 0,.slice none 0 0] 29 (0,0)))∧(Below w.heap.size w w')) ?_ ?_
        rotate_left
        · intro hJ12_17_20
          refine join_ (σ:=Value × Value × Nat) 4 #[true,true,true,true,true,true,true,true,true,true,true,true,true,true,true,true,true,true,true,true,false,true,true,true,true,true,true,true,true,false,false,true,false] (fun s_=>[(18,s_.1),(23,s_.2.1),(3,.pointer (some ⟨s_.2.2,0,none⟩))]) (fun s_ w'=>(w'.cell? ⟨gb167,0,none⟩ = some (.int .i64 a0_0)∧w'.cell? ⟨gb167,1,none⟩ = some (.int .i64 a0_1)∧w'.cell? ⟨gb167,2,none⟩ = some (.int .i64 a0_2)∧w'.cell? ⟨gb167,3,none⟩ = some (.int .i64 a0_3)∧w'.cell? ⟨gb167,4,none⟩ = some (.int .i64 a0_4)∧w'.cell? ⟨gb167,5,none⟩ = some (.slice A0_5 l0_5.length c0_5)∧w'.cell? ⟨gb167,6,none⟩ = some (.int .i64 a0_6)∧w'.cell? ⟨gb167,7,none⟩ = some (.slice A0_7 l0_7.length c0_7)∧w'.cell? ⟨gb167,8,none⟩ = some (.slice A0_8 l0_8.length c0_8)∧w'.cell? ⟨gb167,9,none⟩ = some (.bool a0_9)∧w'.cell? ⟨gb167,10,none⟩ = some (.slice A0_10 l0_10.length c0_10)∧w'.cell? ⟨gb167,11,none⟩ = some (.int .i64 a0_11)∧w'.cell? ⟨gb167,12,none⟩ = some (.int .i64 a0_12)∧w'.cell? ⟨gb167,13,none⟩ = some (.slice A0_13 l0_13.length c0_13))∧(Kd.S (Kd.slice 5 (Kd.int .u8)) 22 w' w.heap.size (fun _=>True) s_.1 t169)∧(Kd.R (Kd.int .i64) 3 w' w.heap.size (fun _=>True) s_.2.1 t172)∧(w'.heap[gb167]? = some (.cells #[.int .i64 a0_0,.int .i64 a0_1,.int .i64 a0_2,.int .i64 a0_3,.int .i64 a0_4,.slice A0_5 l0_5.length c0_5,.int .i64 a0_6,.slice A0_7 l0_7.length c0_7,.slice A0_8 l0_8.length c0_8,.bool a0_9,.slice A0_10 l0_10.length c0_10,.int .i64 a0_11,.int .i64 a0_12,.slice A0_13 l0_13.length c0_13] 44 (0,0)))∧(w'.heap[gb168]? = some (.cells #[.int .i64 0,.int .i64 0,.int .i64 0,.int .i64 0,.int .i64 0,.slice none 0 0,.int .i64 0,.slice none 0 0,.slice none 0 0,.bool false,.slice none 0 0,.int .i64 0,.int .i64 0,.slice none 0 0] 29 (0,0)))∧(w'.heap[s_.2.2]? = some (.cells #[.int .i64 0,.int .i64 0,.int .i64 0,.int .i64 0,.int .i64 0,.slice none 0 0,.int .i64 0,.slice none 0 0,.slice none 0 0,.bool false,.slice none 0 0,.int .i64 0,.int .i64 0,.slice none 0 0] 29 (0,0)))∧(w.heap.size ≤ s_.2.2)∧(w.heap.size ≤ s_.2.2)∧(gb167 ≠ s_.2.2)∧(s_.2.2 ≠ gb167)∧(gb168 ≠ s_.2.2)∧(s_.2.2 ≠ gb168)∧(Below w.heap.size w w')) ?_ ?_
          rotate_left
          · intro hJ12_17_31
            refine join_ (σ:=Value × Value) 5 #[true,true,true,true,true,true,true,true,true,true,true,true,true,true,true,true,true,true,true,true,false,true,true,true,true,true,true,true,true,false,false,false,false] (fun s_=>[(18,s_.1),(23,s_.2)]) (fun s_ w'=>(w'.cell? ⟨gb167,0,none⟩ = some (.int .i64 a0_0)∧w'.cell? ⟨gb167,1,none⟩ = some (.int .i64 a0_1)∧w'.cell? ⟨gb167,2,none⟩ = some (.int .i64 a0_2)∧w'.cell? ⟨gb167,3,none⟩ = some (.int .i64 a0_3)∧w'.cell? ⟨gb167,4,none⟩ = some (.int .i64 a0_4)∧w'.cell? ⟨gb167,5,none⟩ = some (.slice A0_5 l0_5.length c0_5)∧w'.cell? ⟨gb167,6,none⟩ = some (.int .i64 a0_6)∧w'.cell? ⟨gb167,7,none⟩ = some (.slice A0_7 l0_7.length c0_7)∧w'.cell? ⟨gb167,8,none⟩ = some (.slice A0_8 l0_8.length c0_8)∧w'.cell? ⟨gb167,9,none⟩ = some (.bool a0_9)∧w'.cell? ⟨gb167,10,none⟩ = some (.slice A0_10 l0_10.length c0_10)∧w'.cell? ⟨gb167,11,none⟩ = some (.int .i64 a0_11)∧w'.cell? ⟨gb167,12,none⟩ = some (.int .i64 a0_12)∧w'.cell? ⟨gb167,13,none⟩ = some (.slice A0_13 l0_13.length c0_13))∧(Kd.S (Kd.slice 5 (Kd.int .u8)) 22 w' w.heap.size (fun _=>True) s_.1 t169)∧(Kd.R (Kd.int .i64) 3 w' w.heap.size (fun _=>True) s_.2 t172)∧(w'.heap[gb167]? = some (.cells #[.int .i64 a0_0,.int .i64 a0_1,.int .i64 a0_2,.int .i64 a0_3,.int .i64 a0_4,.slice A0_5 l0_5.length c0_5,.int .i64 a0_6,.slice A0_7 l0_7.length c0_7,.slice A0_8 l0_8.length c0_8,.bool a0_9,.slice A0_10 l0_10.length c0_10,.int .i64 a0_11,.int .i64 a0_12,.slice A0_13 l0_13.length c0_13] 44 (0,0)))∧(w'.heap[gb168]? = some (.cells #[.int .i64 0,.int .i64 0,.int .i64 0,.int .i64 0,.int .i64 0,.slice none 0 0,.int .i64 0,.slice none 0 0,.slice none 0 0,.bool false,.slice none 0 0,.int .i64 0,.int .i64 0,.slice none 0 0] 29 (0,0)))∧(Below w.heap.size w w')) ?_ ?_
            rotate_left
            · intro hJ12_17
              refine join_ (σ:=Value × Nat) 5 #[true,true,true,true,true,true,true,true,true,true,true,true,true,true,true,true,true,false,true,true,false,true,true,true,true,true,true,true,true,false,false,true,false] (fun s_=>[(18,s_.1),(3,.pointer (some ⟨s_.2,0,none⟩))]) (fun s_ w'=>(w'.cell? ⟨gb167,0,none⟩ = some (.int .i64 a0_0)∧w'.cell? ⟨gb167,1,none⟩ = some (.int .i64 a0_1)∧w'.cell? ⟨gb167,2,none⟩ = some (.int .i64 a0_2)∧w'.cell? ⟨gb167,3,none⟩ = some (.int .i64 a0_3)∧w'.cell? ⟨gb167,4,none⟩ = some (.int .i64 a0_4)∧w'.cell? ⟨gb167,5,none⟩ = some (.slice A0_5 l0_5.length c0_5)∧w'.cell? ⟨gb167,6,none⟩ = some (.int .i64 a0_6)∧w'.cell? ⟨gb167,7,none⟩ = some (.slice A0_7 l0_7.length c0_7)∧w'.cell? ⟨gb167,8,none⟩ = some (.slice A0_8 l0_8.length c0_8)∧w'.cell? ⟨gb167,9,none⟩ = some (.bool a0_9)∧w'.cell? ⟨gb167,10,none⟩ = some (.slice A0_10 l0_10.length c0_10)∧w'.cell? ⟨gb167,11,none⟩ = some (.int .i64 a0_11)∧w'.cell? ⟨gb167,12,none⟩ = some (.int .i64 a0_12)∧w'.cell? ⟨gb167,13,none⟩ = some (.slice A0_13 l0_13.length c0_13))∧(Kd.S (Kd.slice 5 (Kd.int .u8)) 22 w' w.heap.size (fun _=>True) s_.1 t169)∧(w'.heap[gb167]? = some (.cells #[.int .i64 a0_0,.int .i64 a0_1,.int .i64 a0_2,.int .i64 a0_3,.int .i64 a0_4,.slice A0_5 l0_5.length c0_5,.int .i64 a0_6,.slice A0_7 l0_7.length c0_7,.slice A0_8 l0_8.length c0_8,.bool a0_9,.slice A0_10 l0_10.length c0_10,.int .i64 a0_11,.int .i64 a0_12,.slice A0_13 l0_13.length c0_13] 44 (0,0)))∧(w'.heap[gb168]? = some (.cells #[.int .i64 0,.int .i64 0,.int .i64 0,.int .i64 0,.int .i64 0,.slice none 0 0,.int .i64 0,.slice none 0 0,.slice none 0 0,.bool false,.slice none 0 0,.int .i64 0,.int .i64 0,.slice none 0 0] 29 (0,0)))∧(w'.heap[s_.2]? = some (.cells #[.int .i64 0,.int .i64 0,.int .i64 0,.int .i64 0,.int .i64 0,.slice none 0 0,.int .i64 0,.slice none 0 0,.slice none 0 0,.bool false,.slice none 0 0,.int .i64 0,.int .i64 0,.slice none 0 0] 29 (0,0)))∧(w.heap.size ≤ s_.2)∧(w.heap.size ≤ s_.2)∧(gb167 ≠ s_.2)∧(s_.2 ≠ gb167)∧(gb168 ≠ s_.2)∧(s_.2 ≠ gb168)∧(Below w.heap.size w w')) ?_ ?_
              rotate_left
              · intro hJ12_31
                refine join_ (σ:=Value) 6 #[true,true,true,true,true,true,true,true,true,true,true,true,true,true,true,true,true,false,true,true,false,true,true,true,true,true,true,true,true,false,false,false,false] (fun s_=>[(18,s_)]) (fun s_ w'=>(w'.cell? ⟨gb167,0,none⟩ = some (.int .i64 a0_0)∧w'.cell? ⟨gb167,1,none⟩ = some (.int .i64 a0_1)∧w'.cell? ⟨gb167,2,none⟩ = some (.int .i64 a0_2)∧w'.cell? ⟨gb167,3,none⟩ = some (.int .i64 a0_3)∧w'.cell? ⟨gb167,4,none⟩ = some (.int .i64 a0_4)∧w'.cell? ⟨gb167,5,none⟩ = some (.slice A0_5 l0_5.length c0_5)∧w'.cell? ⟨gb167,6,none⟩ = some (.int .i64 a0_6)∧w'.cell? ⟨gb167,7,none⟩ = some (.slice A0_7 l0_7.length c0_7)∧w'.cell? ⟨gb167,8,none⟩ = some (.slice A0_8 l0_8.length c0_8)∧w'.cell? ⟨gb167,9,none⟩ = some (.bool a0_9)∧w'.cell? ⟨gb167,10,none⟩ = some (.slice A0_10 l0_10.length c0_10)∧w'.cell? ⟨gb167,11,none⟩ = some (.int .i64 a0_11)∧w'.cell? ⟨gb167,12,none⟩ = some (.int .i64 a0_12)∧w'.cell? ⟨gb167,13,none⟩ = some (.slice A0_13 l0_13.length c0_13))∧(Kd.S (Kd.slice 5 (Kd.int .u8)) 22 w' w.heap.size (fun _=>True) s_ t169)∧(w'.heap[gb167]? = some (.cells #[.int .i64 a0_0,.int .i64 a0_1,.int .i64 a0_2,.int .i64 a0_3,.int .i64 a0_4,.slice A0_5 l0_5.length c0_5,.int .i64 a0_6,.slice A0_7 l0_7.length c0_7,.slice A0_8 l0_8.length c0_8,.bool a0_9,.slice A0_10 l0_10.length c0_10,.int .i64 a0_11,.int .i64 a0_12,.slice A0_13 l0_13.length c0_13] 44 (0,0)))∧(w'.heap[gb168]? = some (.cells #[.int .i64 0,.int .i64 0,.int .i64 0,.int .i64 0,.int .i64 0,.slice none 0 0,.int .i64 0,.slice none 0 0,.slice none 0 0,.bool false,.slice none 0 0,.int .i64 0,.int .i64 0,.slice none 0 0] 29 (0,0)))∧(Below w.heap.size w w')) ?_ ?_
                rotate_left
                · intro hJ12
                  refine join_ (σ:=Nat) 6 #[true,true,true,true,true,true,true,true,true,true,true,true,false,true,true,true,true,false,true,true,false,true,true,true,true,true,true,true,true,false,false,true,false] (fun s_=>[(3,.pointer (some ⟨s_,0,none⟩))]) (fun s_ w'=>(w'.cell? ⟨gb167,0,none⟩ = some (.int .i64 a0_0)∧w'.cell? ⟨gb167,1,none⟩ = some (.int .i64 a0_1)∧w'.cell? ⟨gb167,2,none⟩ = some (.int .i64 a0_2)∧w'.cell? ⟨gb167,3,none⟩ = some (.int .i64 a0_3)∧w'.cell? ⟨gb167,4,none⟩ = some (.int .i64 a0_4)∧w'.cell? ⟨gb167,5,none⟩ = some (.slice A0_5 l0_5.length c0_5)∧w'.cell? ⟨gb167,6,none⟩ = some (.int .i64 a0_6)∧w'.cell? ⟨gb167,7,none⟩ = some (.slice A0_7 l0_7.length c0_7)∧w'.cell? ⟨gb167,8,none⟩ = some (.slice A0_8 l0_8.length c0_8)∧w'.cell? ⟨gb167,9,none⟩ = some (.bool a0_9)∧w'.cell? ⟨gb167,10,none⟩ = some (.slice A0_10 l0_10.length c0_10)∧w'.cell? ⟨gb167,11,none⟩ = some (.int .i64 a0_11)∧w'.cell? ⟨gb167,12,none⟩ = some (.int .i64 a0_12)∧w'.cell? ⟨gb167,13,none⟩ = some (.slice A0_13 l0_13.length c0_13))∧(w'.heap[gb167]? = some (.cells #[.int .i64 a0_0,.int .i64 a0_1,.int .i64 a0_2,.int .i64 a0_3,.int .i64 a0_4,.slice A0_5 l0_5.length c0_5,.int .i64 a0_6,.slice A0_7 l0_7.length c0_7,.slice A0_8 l0_8.length c0_8,.bool a0_9,.slice A0_10 l0_10.length c0_10,.int .i64 a0_11,.int .i64 a0_12,.slice A0_13 l0_13.length c0_13] 44 (0,0)))∧(w'.heap[gb168]? = some (.cells #[.int .i64 0,.int .i64 0,.int .i64 0,.int .i64 0,.int .i64 0,.slice none 0 0,.int .i64 0,.slice none 0 0,.slice none 0 0,.bool false,.slice none 0 0,.int .i64 0,.int .i64 0,.slice none 0 0] 29 (0,0)))∧(w'.heap[s_]? = some (.cells #[.int .i64 0,.int .i64 0,.int .i64 0,.int .i64 0,.int .i64 0,.slice none 0 0,.int .i64 0,.slice none 0 0,.slice none 0 0,.bool false,.slice none 0 0,.int .i64 0,.int .i64 0,.slice none 0 0] 29 (0,0)))∧(w.heap.size ≤ s_)∧(w.heap.size ≤ s_)∧(gb167 ≠ s_)∧(s_ ≠ gb167)∧(gb168 ≠ s_)∧(s_ ≠ gb168)∧(Below w.heap.size w w')) ?_ ?_
                  rotate_left
                  · intro hJ31
                    refine two_ (i:=12) (j:=31) (Ni:=some 18) (Nj:=some 3) #[true,true,true,true,true,true,true,true,true,true,true,true,true,true,true,true,true,false,true,true,false,true,true,true,true,true,true,true,true,false,false,false,false] #[true,true,true,true,true,true,true,true,true,true,true,true,false,true,true,true,true,false,true,true,false,true,true,true,true,true,true,true,true,false,false,true,false] rfl rfl rfl rfl (two_of HT_.out (by kernel_rfl)) (by decide) (by decide) (fun K hK=>?_) (fun K hK=>?_)
                    · skip
                      refine goes_ Try.func25 (by kernel_rfl) rfl #[.slice A0_5 l0_5.length c0_5] (by rfl) rfl rfl (by(try simp only [List.map_toArray,List.map_cons,List.map_nil]);first|done|rfl|(simp only [List.length_drop,List.length_take];rfl)) ?_
                      with_reducible refine(undercroftplain_CopyLists.calls k _ _ l0_5 t169 _ ?side1 ?side2 A2.out).mono ?_
                      (case side1=>repeat (first|exact(Kd.C_below HR0_5.out HB.out)|(with_reducible refine Kd.C_alloc ?_ _)|(with_reducible refine Kd.C_drewN ?_ _)|(with_reducible refine Kd.C_drew ?_)))
                      (case side2=>exact HC0_5.out)
                      rintro e w9 ⟨v170,rfl,ho0,hb⟩
                      refine⟨_,rfl,?_⟩
                      have n0_:=Aside0.mk (Kd.S_lower ho0 (below_size (by repeat (first|(with_reducible first|exact HB.out|apply below_alloc|apply pw_below_drewN|apply below_drew1|refine below_set ?_ GE167.out|refine below_set ?_ GE168.out)|exact HB.out))))
                      have n1_:=Aside0.mk (blk_below (g:=gb167) (o:=.cells #[.int .i64 a0_0,.int .i64 a0_1,.int .i64 a0_2,.int .i64 a0_3,.int .i64 a0_4,.slice A0_5 l0_5.length c0_5,.int .i64 a0_6,.slice A0_7 l0_7.length c0_7,.slice A0_8 l0_8.length c0_8,.bool a0_9,.slice A0_10 l0_10.length c0_10,.int .i64 a0_11,.int .i64 a0_12,.slice A0_13 l0_13.length c0_13] 44 (0,0)) (by(with_reducible repeat (first|refine blk_drewN ?_ _|refine blk_drew ?_|refine blk_alloc ?_ _));exact BK167.out) hb)
                      have n2_:=Aside0.mk (blk_below (g:=gb168) (o:=.cells #[.int .i64 0,.int .i64 0,.int .i64 0,.int .i64 0,.int .i64 0,.slice none 0 0,.int .i64 0,.slice none 0 0,.slice none 0 0,.bool false,.slice none 0 0,.int .i64 0,.int .i64 0,.slice none 0 0] 29 (0,0)) (by(with_reducible repeat (first|refine blk_drewN ?_ _|refine blk_drew ?_|refine blk_alloc ?_ _));exact BK168.out) hb)
                      have n3_:=Aside0.mk (below_step (by repeat (first|(with_reducible first|exact HB.out|apply below_alloc|apply pw_below_drewN|apply below_drew1|refine below_set ?_ GE167.out|refine below_set ?_ GE168.out)|exact HB.out)) hb)
                      clear BK167
                      clear BK168
                      clear HB
                      have HO171:=n0_
                      have BK167:=n1_
                      have BK168:=n2_
                      have HB:=n3_
                      clear n0_ n1_ n2_ n3_
                      (try clear hb)
                      (try clear hb2)
                      (try clear hk)
                      (try clear hi)
                      (try clear ho0)
                      refine hK.out _ _ ⟨(blk_cell BK167.out 0).trans rfl,(blk_cell BK167.out 1).trans rfl,(blk_cell BK167.out 2).trans rfl,(blk_cell BK167.out 3).trans rfl,(blk_cell BK167.out 4).trans rfl,(blk_cell BK167.out 5).trans rfl,(blk_cell BK167.out 6).trans rfl,(blk_cell BK167.out 7).trans rfl,(blk_cell BK167.out 8).trans rfl,(blk_cell BK167.out 9).trans rfl,(blk_cell BK167.out 10).trans rfl,(blk_cell BK167.out 11).trans rfl,(blk_cell BK167.out 12).trans rfl,(blk_cell BK167.out 13).trans rfl⟩ (fun hHeld=>?_)
                      clear hK K
                      refine norm_ (a':=?_) ?_ ?_
                      rotate_left
                      · show Act.put _ (some 18) _ = _
                        simp only [Act.put,List.setIfInBounds_toArray,List.set_cons_zero,List.set_cons_succ,i64_w,i32_w]
                        rfl
                      exact norm_ (by first|(simp only [putAll,Act.put,List.setIfInBounds_toArray,List.set_cons_zero,List.set_cons_succ];done)|(simp only [putAll,Act.put,List.setIfInBounds_toArray,List.set_cons_zero,List.set_cons_succ];rfl)) (hJ12 (v170) _ ⟨hHeld,(by(with_reducible repeat (first|apply Kd.S_alloc|apply Kd.S_drewN|apply Kd.S_drew));exact HO171.out),(by(with_reducible repeat (first|refine blk_drewN ?_ _|refine blk_drew ?_|refine blk_alloc ?_ _));exact BK167.out),(by(with_reducible repeat (first|refine blk_drewN ?_ _|refine blk_drew ?_|refine blk_alloc ?_ _));exact BK168.out),(by repeat (first|(with_reducible first|exact HB.out|apply below_alloc|apply pw_below_drewN|apply below_drew1|refine below_set ?_ GE167.out|refine below_set ?_ GE168.out)|exact HB.out))⟩)
                    · skip
                      refine box_step ?hg (N:=3) ?hd (cs:=#[.int .i64 0,.int .i64 0,.int .i64 0,.int .i64 0,.int .i64 0,.slice none 0 0,.int .i64 0,.slice none 0 0,.slice none 0 0,.bool false,.slice none 0 0,.int .i64 0,.int .i64 0,.slice none 0 0]) (t:=29) ?hr ?_;(case hd=>rfl);(case hg=>rfl);(case hr=>first|(go_simp;done)|(go_simp;rfl))
                      intro gb181 hg w9 hbox hb
                      have n0_:=Aside0.mk (blk_below (g:=gb167) (o:=.cells #[.int .i64 a0_0,.int .i64 a0_1,.int .i64 a0_2,.int .i64 a0_3,.int .i64 a0_4,.slice A0_5 l0_5.length c0_5,.int .i64 a0_6,.slice A0_7 l0_7.length c0_7,.slice A0_8 l0_8.length c0_8,.bool a0_9,.slice A0_10 l0_10.length c0_10,.int .i64 a0_11,.int .i64 a0_12,.slice A0_13 l0_13.length c0_13] 44 (0,0)) (by(with_reducible repeat (first|refine blk_drewN ?_ _|refine blk_drew ?_|refine blk_alloc ?_ _));exact BK167.out) hb)
                      have n1_:=Aside0.mk (blk_below (g:=gb168) (o:=.cells #[.int .i64 0,.int .i64 0,.int .i64 0,.int .i64 0,.int .i64 0,.slice none 0 0,.int .i64 0,.slice none 0 0,.slice none 0 0,.bool false,.slice none 0 0,.int .i64 0,.int .i64 0,.slice none 0 0] 29 (0,0)) (by(with_reducible repeat (first|refine blk_drewN ?_ _|refine blk_drew ?_|refine blk_alloc ?_ _));exact BK168.out) hb)
                      have n2_:=Aside0.mk (below_step (by repeat (first|(with_reducible first|exact HB.out|apply below_alloc|apply pw_below_drewN|apply below_drew1|refine below_set ?_ GE167.out|refine below_set ?_ GE168.out)|exact HB.out)) hb)
                      have n3_:=Aside0.mk (hbox)
                      have n4_:=Aside0.mk ((by rw [hg];exact(below_size (by repeat (first|(with_reducible first|exact HB.out|apply below_alloc|apply pw_below_drewN|apply below_drew1|refine below_set ?_ GE167.out|refine below_set ?_ GE168.out)|exact HB.out))) : w.heap.size ≤ gb181))
                      have n5_:=Aside0.mk ((by rw [hg];exact(below_size (by repeat (first|(with_reducible first|exact HB.out|apply below_alloc|apply pw_below_drewN|apply below_drew1|refine below_set ?_ GE167.out|refine below_set ?_ GE168.out)|exact HB.out))) : w.heap.size ≤ gb181))
                      have n6_:=Aside0.mk ((by rw [hg];exact Nat.ne_of_lt (blk_lt (g:=gb167) (o:=.cells #[.int .i64 a0_0,.int .i64 a0_1,.int .i64 a0_2,.int .i64 a0_3,.int .i64 a0_4,.slice A0_5 l0_5.length c0_5,.int .i64 a0_6,.slice A0_7 l0_7.length c0_7,.slice A0_8 l0_8.length c0_8,.bool a0_9,.slice A0_10 l0_10.length c0_10,.int .i64 a0_11,.int .i64 a0_12,.slice A0_13 l0_13.length c0_13] 44 (0,0)) (by(with_reducible repeat (first|refine blk_drewN ?_ _|refine blk_drew ?_|refine blk_alloc ?_ _));exact BK167.out)) : gb167 ≠ gb181))
                      have n7_:=Aside0.mk ((by rw [hg];exact Nat.ne_of_gt (blk_lt (g:=gb167) (o:=.cells #[.int .i64 a0_0,.int .i64 a0_1,.int .i64 a0_2,.int .i64 a0_3,.int .i64 a0_4,.slice A0_5 l0_5.length c0_5,.int .i64 a0_6,.slice A0_7 l0_7.length c0_7,.slice A0_8 l0_8.length c0_8,.bool a0_9,.slice A0_10 l0_10.length c0_10,.int .i64 a0_11,.int .i64 a0_12,.slice A0_13 l0_13.length c0_13] 44 (0,0)) (by(with_reducible repeat (first|refine blk_drewN ?_ _|refine blk_drew ?_|refine blk_alloc ?_ _));exact BK167.out)) : gb181 ≠ gb167))
                      have n8_:=Aside0.mk ((by rw [hg];exact Nat.ne_of_lt (blk_lt (g:=gb168) (o:=.cells #[.int .i64 0,.int .i64 0,.int .i64 0,.int .i64 0,.int .i64 0,.slice none 0 0,.int .i64 0,.slice none 0 0,.slice none 0 0,.bool false,.slice none 0 0,.int .i64 0,.int .i64 0,.slice none 0 0] 29 (0,0)) (by(with_reducible repeat (first|refine blk_drewN ?_ _|refine blk_drew ?_|refine blk_alloc ?_ _));exact BK168.out)) : gb168 ≠ gb181))
                      have n9_:=Aside0.mk ((by rw [hg];exact Nat.ne_of_gt (blk_lt (g:=gb168) (o:=.cells #[.int .i64 0,.int .i64 0,.int .i64 0,.int .i64 0,.int .i64 0,.slice none 0 0,.int .i64 0,.slice none 0 0,.slice none 0 0,.bool false,.slice none 0 0,.int .i64 0,.int .i64 0,.slice none 0 0] 29 (0,0)) (by(with_reducible repeat (first|refine blk_drewN ?_ _|refine blk_drew ?_|refine blk_alloc ?_ _));exact BK168.out)) : gb181 ≠ gb168))
                      clear BK167
                      clear BK168
                      clear HB
                      have BK167:=n0_
                      have BK168:=n1_
                      have HB:=n2_
                      have BK181:=n3_
                      have GW181:=n4_
                      have GE181:=n5_
                      have NB167_181:=n6_
                      have NB181_167:=n7_
                      have NB168_181:=n8_
                      have NB181_168:=n9_
                      clear n0_ n1_ n2_ n3_ n4_ n5_ n6_ n7_ n8_ n9_
                      clear hb hbox hg
                      refine hK.out _ _ ⟨(blk_cell BK167.out 0).trans rfl,(blk_cell BK167.out 1).trans rfl,(blk_cell BK167.out 2).trans rfl,(blk_cell BK167.out 3).trans rfl,(blk_cell BK167.out 4).trans rfl,(blk_cell BK167.out 5).trans rfl,(blk_cell BK167.out 6).trans rfl,(blk_cell BK167.out 7).trans rfl,(blk_cell BK167.out 8).trans rfl,(blk_cell BK167.out 9).trans rfl,(blk_cell BK167.out 10).trans rfl,(blk_cell BK167.out 11).trans rfl,(blk_cell BK167.out 12).trans rfl,(blk_cell BK167.out 13).trans rfl⟩ (fun hHeld=>?_)
                      clear hK K
                      refine norm_ (a':=?_) ?_ ?_
                      rotate_left
                      · show Act.put _ (some 3) _ = _
                        simp only [Act.put,List.setIfInBounds_toArray,List.set_cons_zero,List.set_cons_succ,i64_w,i32_w]
                        rfl
                      exact norm_ (by first|(simp only [putAll,Act.put,List.setIfInBounds_toArray,List.set_cons_zero,List.set_cons_succ];done)|(simp only [putAll,Act.put,List.setIfInBounds_toArray,List.set_cons_zero,List.set_cons_succ];rfl)) (hJ31 (gb181) _ ⟨hHeld,(by(with_reducible repeat (first|refine blk_drewN ?_ _|refine blk_drew ?_|refine blk_alloc ?_ _));exact BK167.out),(by(with_reducible repeat (first|refine blk_drewN ?_ _|refine blk_drew ?_|refine blk_alloc ?_ _));exact BK168.out),(by(with_reducible repeat (first|refine blk_drewN ?_ _|refine blk_drew ?_|refine blk_alloc ?_ _));exact BK181.out),GW181.out,GE181.out,NB167_181.out,NB181_167.out,NB168_181.out,NB181_168.out,(by repeat (first|(with_reducible first|exact HB.out|apply below_alloc|apply pw_below_drewN|apply below_drew1|refine below_set ?_ GE167.out|refine below_set ?_ GE168.out|refine below_set ?_ GE181.out)|exact HB.out))⟩)
                  · skip
                    rintro gb181 w10 ⟨hS_,h0_,h1_,h2_,h3_,h4_,h5_,h6_,h7_,h8_,h9_⟩
                    have n0_ : Aside0 (w10.heap[gb167]? = some (.cells #[.int .i64 a0_0,.int .i64 a0_1,.int .i64 a0_2,.int .i64 a0_3,.int .i64 a0_4,.slice A0_5 l0_5.length c0_5,.int .i64 a0_6,.slice A0_7 l0_7.length c0_7,.slice A0_8 l0_8.length c0_8,.bool a0_9,.slice A0_10 l0_10.length c0_10,.int .i64 a0_11,.int .i64 a0_12,.slice A0_13 l0_13.length c0_13] 44 (0,0))):=⟨h0_⟩
                    have n1_ : Aside0 (w10.heap[gb168]? = some (.cells #[.int .i64 0,.int .i64 0,.int .i64 0,.int .i64 0,.int .i64 0,.slice none 0 0,.int .i64 0,.slice none 0 0,.slice none 0 0,.bool false,.slice none 0 0,.int .i64 0,.int .i64 0,.slice none 0 0] 29 (0,0))):=⟨h1_⟩
                    have n2_ : Aside0 (w10.heap[gb181]? = some (.cells #[.int .i64 0,.int .i64 0,.int .i64 0,.int .i64 0,.int .i64 0,.slice none 0 0,.int .i64 0,.slice none 0 0,.slice none 0 0,.bool false,.slice none 0 0,.int .i64 0,.int .i64 0,.slice none 0 0] 29 (0,0))):=⟨h2_⟩
                    have n3_ : Aside0 (w.heap.size ≤ gb181):=⟨h3_⟩
                    have n4_ : Aside0 (w.heap.size ≤ gb181):=⟨h4_⟩
                    have n5_ : Aside0 (gb167 ≠ gb181):=⟨h5_⟩
                    have n6_ : Aside0 (gb181 ≠ gb167):=⟨h6_⟩
                    have n7_ : Aside0 (gb168 ≠ gb181):=⟨h7_⟩
                    have n8_ : Aside0 (gb181 ≠ gb168):=⟨h8_⟩
                    have n9_ : Aside0 (Below w.heap.size w w10):=⟨h9_⟩
                    clear BK167
                    clear BK168
                    clear HB
                    clear h0_ h1_ h2_ h3_ h4_ h5_ h6_ h7_ h8_ h9_
                    have BK167:=n0_
                    have BK168:=n1_
                    have BK181:=n2_
                    have GW181:=n3_
                    have GE181:=n4_
                    have NB167_181:=n5_
                    have NB181_167:=n6_
                    have NB168_181:=n7_
                    have NB181_168:=n8_
                    have HB:=n9_
                    clear n0_ n1_ n2_ n3_ n4_ n5_ n6_ n7_ n8_ n9_
                    have hHeld : w10.cell? ⟨gb167,0,none⟩ = some (.int .i64 a0_0)∧w10.cell? ⟨gb167,1,none⟩ = some (.int .i64 a0_1)∧w10.cell? ⟨gb167,2,none⟩ = some (.int .i64 a0_2)∧w10.cell? ⟨gb167,3,none⟩ = some (.int .i64 a0_3)∧w10.cell? ⟨gb167,4,none⟩ = some (.int .i64 a0_4)∧w10.cell? ⟨gb167,5,none⟩ = some (.slice A0_5 l0_5.length c0_5)∧w10.cell? ⟨gb167,6,none⟩ = some (.int .i64 a0_6)∧w10.cell? ⟨gb167,7,none⟩ = some (.slice A0_7 l0_7.length c0_7)∧w10.cell? ⟨gb167,8,none⟩ = some (.slice A0_8 l0_8.length c0_8)∧w10.cell? ⟨gb167,9,none⟩ = some (.bool a0_9)∧w10.cell? ⟨gb167,10,none⟩ = some (.slice A0_10 l0_10.length c0_10)∧w10.cell? ⟨gb167,11,none⟩ = some (.int .i64 a0_11)∧w10.cell? ⟨gb167,12,none⟩ = some (.int .i64 a0_12)∧w10.cell? ⟨gb167,13,none⟩ = some (.slice A0_13 l0_13.length c0_13):=hS_
                    refine norm_ (a':=?_) ?_ ?_
                    rotate_left
                    · simp only [putAll,Act.put,List.setIfInBounds_toArray,List.set_cons_zero,List.set_cons_succ]
                      rfl
                    refine one_ (i:=12) (N:=some 18) #[true,true,true,true,true,true,true,true,true,true,true,true,true,true,true,true,true,false,true,true,false,true,true,true,true,true,true,true,true,false,false,true,false] rfl rfl (one_of HT_.out (by kernel_rfl)) (by decide) (fun K hK=>?_)
                    refine goes_ Try.func25 (by kernel_rfl) rfl #[.slice A0_5 l0_5.length c0_5] (by rfl) rfl rfl (by(try simp only [List.map_toArray,List.map_cons,List.map_nil]);first|done|rfl|(simp only [List.length_drop,List.length_take];rfl)) ?_
                    with_reducible refine(undercroftplain_CopyLists.calls k _ _ l0_5 t169 _ ?side1 ?side2 A2.out).mono ?_
                    (case side1=>repeat (first|exact(Kd.C_below HR0_5.out HB.out)|(with_reducible refine Kd.C_alloc ?_ _)|(with_reducible refine Kd.C_drewN ?_ _)|(with_reducible refine Kd.C_drew ?_)))
                    (case side2=>exact HC0_5.out)
                    rintro e w11 ⟨v170,rfl,ho0,hb⟩
                    refine⟨_,rfl,?_⟩
                    have n0_:=Aside0.mk (Kd.S_lower ho0 (below_size (by repeat (first|(with_reducible first|exact HB.out|apply below_alloc|apply pw_below_drewN|apply below_drew1|refine below_set ?_ GE167.out|refine below_set ?_ GE168.out|refine below_set ?_ GE181.out)|exact HB.out))))
                    have n1_:=Aside0.mk (blk_below (g:=gb167) (o:=.cells #[.int .i64 a0_0,.int .i64 a0_1,.int .i64 a0_2,.int .i64 a0_3,.int .i64 a0_4,.slice A0_5 l0_5.length c0_5,.int .i64 a0_6,.slice A0_7 l0_7.length c0_7,.slice A0_8 l0_8.length c0_8,.bool a0_9,.slice A0_10 l0_10.length c0_10,.int .i64 a0_11,.int .i64 a0_12,.slice A0_13 l0_13.length c0_13] 44 (0,0)) (by(with_reducible repeat (first|refine blk_drewN ?_ _|refine blk_drew ?_|refine blk_alloc ?_ _));exact BK167.out) hb)
                    have n2_:=Aside0.mk (blk_below (g:=gb168) (o:=.cells #[.int .i64 0,.int .i64 0,.int .i64 0,.int .i64 0,.int .i64 0,.slice none 0 0,.int .i64 0,.slice none 0 0,.slice none 0 0,.bool false,.slice none 0 0,.int .i64 0,.int .i64 0,.slice none 0 0] 29 (0,0)) (by(with_reducible repeat (first|refine blk_drewN ?_ _|refine blk_drew ?_|refine blk_alloc ?_ _));exact BK168.out) hb)
                    have n3_:=Aside0.mk (blk_below (g:=gb181) (o:=.cells #[.int .i64 0,.int .i64 0,.int .i64 0,.int .i64 0,.int .i64 0,.slice none 0 0,.int .i64 0,.slice none 0 0,.slice none 0 0,.bool false,.slice none 0 0,.int .i64 0,.int .i64 0,.slice none 0 0] 29 (0,0)) (by(with_reducible repeat (first|refine blk_drewN ?_ _|refine blk_drew ?_|refine blk_alloc ?_ _));exact BK181.out) hb)
                    have n4_:=Aside0.mk (below_step (by repeat (first|(with_reducible first|exact HB.out|apply below_alloc|apply pw_below_drewN|apply below_drew1|refine below_set ?_ GE167.out|refine below_set ?_ GE168.out|refine below_set ?_ GE181.out)|exact HB.out)) hb)
                    clear BK167
                    clear BK168
                    clear BK181
                    clear HB
                    have HO171:=n0_
                    have BK167:=n1_
                    have BK168:=n2_
                    have BK181:=n3_
                    have HB:=n4_
                    clear n0_ n1_ n2_ n3_ n4_
                    (try clear hb)
                    (try clear hb2)
                    (try clear hk)
                    (try clear hi)
                    (try clear ho0)
                    refine hK.out _ _ ⟨(blk_cell BK167.out 0).trans rfl,(blk_cell BK167.out 1).trans rfl,(blk_cell BK167.out 2).trans rfl,(blk_cell BK167.out 3).trans rfl,(blk_cell BK167.out 4).trans rfl,(blk_cell BK167.out 5).trans rfl,(blk_cell BK167.out 6).trans rfl,(blk_cell BK167.out 7).trans rfl,(blk_cell BK167.out 8).trans rfl,(blk_cell BK167.out 9).trans rfl,(blk_cell BK167.out 10).trans rfl,(blk_cell BK167.out 11).trans rfl,(blk_cell BK167.out 12).trans rfl,(blk_cell BK167.out 13).trans rfl⟩ (fun hHeld=>?_)
                    clear hK K
                    refine norm_ (a':=?_) ?_ ?_
                    rotate_left
                    · show Act.put _ (some 18) _ = _
                      simp only [Act.put,List.setIfInBounds_toArray,List.set_cons_zero,List.set_cons_succ,i64_w,i32_w]
                      rfl
                    exact norm_ (by first|(simp only [putAll,Act.put,List.setIfInBounds_toArray,List.set_cons_zero,List.set_cons_succ];done)|(simp only [putAll,Act.put,List.setIfInBounds_toArray,List.set_cons_zero,List.set_cons_succ];rfl)) (hJ12_31 (v170,gb181) _ ⟨hHeld,(by(with_reducible repeat (first|apply Kd.S_alloc|apply Kd.S_drewN|apply Kd.S_drew));exact HO171.out),(by(with_reducible repeat (first|refine blk_drewN ?_ _|refine blk_drew ?_|refine blk_alloc ?_ _));exact BK167.out),(by(with_reducible repeat (first|refine blk_drewN ?_ _|refine blk_drew ?_|refine blk_alloc ?_ _));exact BK168.out),(by(with_reducible repeat (first|refine blk_drewN ?_ _|refine blk_drew ?_|refine blk_alloc ?_ _));exact BK181.out),GW181.out,GE181.out,NB167_181.out,NB181_167.out,NB168_181.out,NB181_168.out,(by repeat (first|(with_reducible first|exact HB.out|apply below_alloc|apply pw_below_drewN|apply below_drew1|refine below_set ?_ GE167.out|refine below_set ?_ GE168.out|refine below_set ?_ GE181.out)|exact HB.out))⟩)
                · skip
                  rintro v170 w10 ⟨hS_,h0_,h1_,h2_,h3_⟩
                  have n0_ : Aside0 (Kd.S (Kd.slice 5 (Kd.int .u8)) 22 w10 w.heap.size (fun _=>True) v170 t169):=⟨h0_⟩
                  have n1_ : Aside0 (w10.heap[gb167]? = some (.cells #[.int .i64 a0_0,.int .i64 a0_1,.int .i64 a0_2,.int .i64 a0_3,.int .i64 a0_4,.slice A0_5 l0_5.length c0_5,.int .i64 a0_6,.slice A0_7 l0_7.length c0_7,.slice A0_8 l0_8.length c0_8,.bool a0_9,.slice A0_10 l0_10.length c0_10,.int .i64 a0_11,.int .i64 a0_12,.slice A0_13 l0_13.length c0_13] 44 (0,0))):=⟨h1_⟩
                  have n2_ : Aside0 (w10.heap[gb168]? = some (.cells #[.int .i64 0,.int .i64 0,.int .i64 0,.int .i64 0,.int .i64 0,.slice none 0 0,.int .i64 0,.slice none 0 0,.slice none 0 0,.bool false,.slice none 0 0,.int .i64 0,.int .i64 0,.slice none 0 0] 29 (0,0))):=⟨h2_⟩
                  have n3_ : Aside0 (Below w.heap.size w w10):=⟨h3_⟩
                  clear BK167
                  clear BK168
                  clear HB
                  clear h0_ h1_ h2_ h3_
                  have HO171:=n0_
                  have BK167:=n1_
                  have BK168:=n2_
                  have HB:=n3_
                  clear n0_ n1_ n2_ n3_
                  have hHeld : w10.cell? ⟨gb167,0,none⟩ = some (.int .i64 a0_0)∧w10.cell? ⟨gb167,1,none⟩ = some (.int .i64 a0_1)∧w10.cell? ⟨gb167,2,none⟩ = some (.int .i64 a0_2)∧w10.cell? ⟨gb167,3,none⟩ = some (.int .i64 a0_3)∧w10.cell? ⟨gb167,4,none⟩ = some (.int .i64 a0_4)∧w10.cell? ⟨gb167,5,none⟩ = some (.slice A0_5 l0_5.length c0_5)∧w10.cell? ⟨gb167,6,none⟩ = some (.int .i64 a0_6)∧w10.cell? ⟨gb167,7,none⟩ = some (.slice A0_7 l0_7.length c0_7)∧w10.cell? ⟨gb167,8,none⟩ = some (.slice A0_8 l0_8.length c0_8)∧w10.cell? ⟨gb167,9,none⟩ = some (.bool a0_9)∧w10.cell? ⟨gb167,10,none⟩ = some (.slice A0_10 l0_10.length c0_10)∧w10.cell? ⟨gb167,11,none⟩ = some (.int .i64 a0_11)∧w10.cell? ⟨gb167,12,none⟩ = some (.int .i64 a0_12)∧w10.cell? ⟨gb167,13,none⟩ = some (.slice A0_13 l0_13.length c0_13):=hS_
                  refine norm_ (a':=?_) ?_ ?_
                  rotate_left
                  · simp only [putAll,Act.put,List.setIfInBounds_toArray,List.set_cons_zero,List.set_cons_succ]
                    rfl
                  refine two_ (i:=17) (j:=31) (Ni:=some 23) (Nj:=some 3) #[true,true,true,true,true,true,true,true,true,true,true,true,true,true,true,true,true,true,true,true,false,true,true,true,true,true,true,true,true,false,false,false,false] #[true,true,true,true,true,true,true,true,true,true,true,true,true,true,true,true,true,false,true,true,false,true,true,true,true,true,true,true,true,false,false,true,false] rfl rfl rfl rfl (two_of HT_.out (by kernel_rfl)) (by decide) (by decide) (fun K hK=>?_) (fun K hK=>?_)
                  · skip
                    refine goes_ Try.func26 (by kernel_rfl) rfl #[.slice A0_7 l0_7.length c0_7] (by rfl) rfl rfl (by(try simp only [List.map_toArray,List.map_cons,List.map_nil]);first|done|rfl|(simp only [List.length_drop,List.length_take];rfl)) ?_
                    with_reducible refine(undercroftplain_CopyInts.calls _ _ l0_7 t172 _ ?side1 ?side2 A3.out).mono ?_
                    (case side1=>repeat (first|exact(Kd.C_below HR0_7.out HB.out)|(with_reducible refine Kd.C_alloc ?_ _)|(with_reducible refine Kd.C_drewN ?_ _)|(with_reducible refine Kd.C_drew ?_)))
                    (case side2=>exact HC0_7.out)
                    rintro e w11 ⟨v173,rfl,ho0,hb⟩
                    refine⟨_,rfl,?_⟩
                    have n0_:=Aside0.mk (Kd.S_below (by(with_reducible repeat (first|apply Kd.S_alloc|apply Kd.S_drewN|apply Kd.S_drew));exact HO171.out) hb)
                    have n1_:=Aside0.mk (Kd.R_lower ho0 (below_size (by repeat (first|(with_reducible first|exact HB.out|apply below_alloc|apply pw_below_drewN|apply below_drew1|refine below_set ?_ GE167.out|refine below_set ?_ GE168.out)|exact HB.out))))
                    have n2_:=Aside0.mk (blk_below (g:=gb167) (o:=.cells #[.int .i64 a0_0,.int .i64 a0_1,.int .i64 a0_2,.int .i64 a0_3,.int .i64 a0_4,.slice A0_5 l0_5.length c0_5,.int .i64 a0_6,.slice A0_7 l0_7.length c0_7,.slice A0_8 l0_8.length c0_8,.bool a0_9,.slice A0_10 l0_10.length c0_10,.int .i64 a0_11,.int .i64 a0_12,.slice A0_13 l0_13.length c0_13] 44 (0,0)) (by(with_reducible repeat (first|refine blk_drewN ?_ _|refine blk_drew ?_|refine blk_alloc ?_ _));exact BK167.out) hb)
                    have n3_:=Aside0.mk (blk_below (g:=gb168) (o:=.cells #[.int .i64 0,.int .i64 0,.int .i64 0,.int .i64 0,.int .i64 0,.slice none 0 0,.int .i64 0,.slice none 0 0,.slice none 0 0,.bool false,.slice none 0 0,.int .i64 0,.int .i64 0,.slice none 0 0] 29 (0,0)) (by(with_reducible repeat (first|refine blk_drewN ?_ _|refine blk_drew ?_|refine blk_alloc ?_ _));exact BK168.out) hb)
                    have n4_:=Aside0.mk (below_step (by repeat (first|(with_reducible first|exact HB.out|apply below_alloc|apply pw_below_drewN|apply below_drew1|refine below_set ?_ GE167.out|refine below_set ?_ GE168.out)|exact HB.out)) hb)
                    clear HO171
                    clear BK167
                    clear BK168
                    clear HB
                    have HO171:=n0_
                    have HO174:=n1_
                    have BK167:=n2_
                    have BK168:=n3_
                    have HB:=n4_
                    clear n0_ n1_ n2_ n3_ n4_
                    (try clear hb)
                    (try clear hb2)
                    (try clear hk)
                    (try clear hi)
                    (try clear ho0)
                    refine hK.out _ _ ⟨(blk_cell BK167.out 0).trans rfl,(blk_cell BK167.out 1).trans rfl,(blk_cell BK167.out 2).trans rfl,(blk_cell BK167.out 3).trans rfl,(blk_cell BK167.out 4).trans rfl,(blk_cell BK167.out 5).trans rfl,(blk_cell BK167.out 6).trans rfl,(blk_cell BK167.out 7).trans rfl,(blk_cell BK167.out 8).trans rfl,(blk_cell BK167.out 9).trans rfl,(blk_cell BK167.out 10).trans rfl,(blk_cell BK167.out 11).trans rfl,(blk_cell BK167.out 12).trans rfl,(blk_cell BK167.out 13).trans rfl⟩ (fun hHeld=>?_)
                    clear hK K
                    refine norm_ (a':=?_) ?_ ?_
                    rotate_left
                    · show Act.put _ (some 23) _ = _
                      simp only [Act.put,List.setIfInBounds_toArray,List.set_cons_zero,List.set_cons_succ,i64_w,i32_w]
                      rfl
                    exact norm_ (by first|(simp only [putAll,Act.put,List.setIfInBounds_toArray,List.set_cons_zero,List.set_cons_succ];done)|(simp only [putAll,Act.put,List.setIfInBounds_toArray,List.set_cons_zero,List.set_cons_succ];rfl)) (hJ12_17 (v170,v173) _ ⟨hHeld,(by(with_reducible repeat (first|apply Kd.S_alloc|apply Kd.S_drewN|apply Kd.S_drew));exact HO171.out),(by(with_reducible repeat (first|apply Kd.R_alloc|apply Kd.R_drewN|apply Kd.R_drew));exact HO174.out),(by(with_reducible repeat (first|refine blk_drewN ?_ _|refine blk_drew ?_|refine blk_alloc ?_ _));exact BK167.out),(by(with_reducible repeat (first|refine blk_drewN ?_ _|refine blk_drew ?_|refine blk_alloc ?_ _));exact BK168.out),(by repeat (first|(with_reducible first|exact HB.out|apply below_alloc|apply pw_below_drewN|apply below_drew1|refine below_set ?_ GE167.out|refine below_set ?_ GE168.out)|exact HB.out))⟩)
                  · skip
                    refine box_step ?hg (N:=3) ?hd (cs:=#[.int .i64 0,.int .i64 0,.int .i64 0,.int .i64 0,.int .i64 0,.slice none 0 0,.int .i64 0,.slice none 0 0,.slice none 0 0,.bool false,.slice none 0 0,.int .i64 0,.int .i64 0,.slice none 0 0]) (t:=29) ?hr ?_;(case hd=>rfl);(case hg=>rfl);(case hr=>first|(go_simp;done)|(go_simp;rfl))
                    intro gb181 hg w11 hbox hb
                    have n0_:=Aside0.mk (Kd.S_below (by(with_reducible repeat (first|apply Kd.S_alloc|apply Kd.S_drewN|apply Kd.S_drew));exact HO171.out) hb)
                    have n1_:=Aside0.mk (blk_below (g:=gb167) (o:=.cells #[.int .i64 a0_0,.int .i64 a0_1,.int .i64 a0_2,.int .i64 a0_3,.int .i64 a0_4,.slice A0_5 l0_5.length c0_5,.int .i64 a0_6,.slice A0_7 l0_7.length c0_7,.slice A0_8 l0_8.length c0_8,.bool a0_9,.slice A0_10 l0_10.length c0_10,.int .i64 a0_11,.int .i64 a0_12,.slice A0_13 l0_13.length c0_13] 44 (0,0)) (by(with_reducible repeat (first|refine blk_drewN ?_ _|refine blk_drew ?_|refine blk_alloc ?_ _));exact BK167.out) hb)
                    have n2_:=Aside0.mk (blk_below (g:=gb168) (o:=.cells #[.int .i64 0,.int .i64 0,.int .i64 0,.int .i64 0,.int .i64 0,.slice none 0 0,.int .i64 0,.slice none 0 0,.slice none 0 0,.bool false,.slice none 0 0,.int .i64 0,.int .i64 0,.slice none 0 0] 29 (0,0)) (by(with_reducible repeat (first|refine blk_drewN ?_ _|refine blk_drew ?_|refine blk_alloc ?_ _));exact BK168.out) hb)
                    have n3_:=Aside0.mk (below_step (by repeat (first|(with_reducible first|exact HB.out|apply below_alloc|apply pw_below_drewN|apply below_drew1|refine below_set ?_ GE167.out|refine below_set ?_ GE168.out)|exact HB.out)) hb)
                    have n4_:=Aside0.mk (hbox)
                    have n5_:=Aside0.mk ((by rw [hg];exact(below_size (by repeat (first|(with_reducible first|exact HB.out|apply below_alloc|apply pw_below_drewN|apply below_drew1|refine below_set ?_ GE167.out|refine below_set ?_ GE168.out)|exact HB.out))) : w.heap.size ≤ gb181))
                    have n6_:=Aside0.mk ((by rw [hg];exact(below_size (by repeat (first|(with_reducible first|exact HB.out|apply below_alloc|apply pw_below_drewN|apply below_drew1|refine below_set ?_ GE167.out|refine below_set ?_ GE168.out)|exact HB.out))) : w.heap.size ≤ gb181))
                    have n7_:=Aside0.mk ((by rw [hg];exact Nat.ne_of_lt (blk_lt (g:=gb167) (o:=.cells #[.int .i64 a0_0,.int .i64 a0_1,.int .i64 a0_2,.int .i64 a0_3,.int .i64 a0_4,.slice A0_5 l0_5.length c0_5,.int .i64 a0_6,.slice A0_7 l0_7.length c0_7,.slice A0_8 l0_8.length c0_8,.bool a0_9,.slice A0_10 l0_10.length c0_10,.int .i64 a0_11,.int .i64 a0_12,.slice A0_13 l0_13.length c0_13] 44 (0,0)) (by(with_reducible repeat (first|refine blk_drewN ?_ _|refine blk_drew ?_|refine blk_alloc ?_ _));exact BK167.out)) : gb167 ≠ gb181))
                    have n8_:=Aside0.mk ((by rw [hg];exact Nat.ne_of_gt (blk_lt (g:=gb167) (o:=.cells #[.int .i64 a0_0,.int .i64 a0_1,.int .i64 a0_2,.int .i64 a0_3,.int .i64 a0_4,.slice A0_5 l0_5.length c0_5,.int .i64 a0_6,.slice A0_7 l0_7.length c0_7,.slice A0_8 l0_8.length c0_8,.bool a0_9,.slice A0_10 l0_10.length c0_10,.int .i64 a0_11,.int .i64 a0_12,.slice A0_13 l0_13.length c0_13] 44 (0,0)) (by(with_reducible repeat (first|refine blk_drewN ?_ _|refine blk_drew ?_|refine blk_alloc ?_ _));exact BK167.out)) : gb181 ≠ gb167))
                    have n9_:=Aside0.mk ((by rw [hg];exact Nat.ne_of_lt (blk_lt (g:=gb168) (o:=.cells #[.int .i64 0,.int .i64 0,.int .i64 0,.int .i64 0,.int .i64 0,.slice none 0 0,.int .i64 0,.slice none 0 0,.slice none 0 0,.bool false,.slice none 0 0,.int .i64 0,.int .i64 0,.slice none 0 0] 29 (0,0)) (by(with_reducible repeat (first|refine blk_drewN ?_ _|refine blk_drew ?_|refine blk_alloc ?_ _));exact BK168.out)) : gb168 ≠ gb181))
                    have n10_:=Aside0.mk ((by rw [hg];exact Nat.ne_of_gt (blk_lt (g:=gb168) (o:=.cells #[.int .i64 0,.int .i64 0,.int .i64 0,.int .i64 0,.int .i64 0,.slice none 0 0,.int .i64 0,.slice none 0 0,.slice none 0 0,.bool false,.slice none 0 0,.int .i64 0,.int .i64 0,.slice none 0 0] 29 (0,0)) (by(with_reducible repeat (first|refine blk_drewN ?_ _|refine blk_drew ?_|refine blk_alloc ?_ _));exact BK168.out)) : gb181 ≠ gb168))
                    clear HO171
                    clear BK167
                    clear BK168
                    clear HB
                    have HO171:=n0_
                    have BK167:=n1_
                    have BK168:=n2_
                    have HB:=n3_
                    have BK181:=n4_
                    have GW181:=n5_
                    have GE181:=n6_
                    have NB167_181:=n7_
                    have NB181_167:=n8_
                    have NB168_181:=n9_
                    have NB181_168:=n10_
                    clear n0_ n1_ n2_ n3_ n4_ n5_ n6_ n7_ n8_ n9_ n10_
                    clear hb hbox hg
                    refine hK.out _ _ ⟨(blk_cell BK167.out 0).trans rfl,(blk_cell BK167.out 1).trans rfl,(blk_cell BK167.out 2).trans rfl,(blk_cell BK167.out 3).trans rfl,(blk_cell BK167.out 4).trans rfl,(blk_cell BK167.out 5).trans rfl,(blk_cell BK167.out 6).trans rfl,(blk_cell BK167.out 7).trans rfl,(blk_cell BK167.out 8).trans rfl,(blk_cell BK167.out 9).trans rfl,(blk_cell BK167.out 10).trans rfl,(blk_cell BK167.out 11).trans rfl,(blk_cell BK167.out 12).trans rfl,(blk_cell BK167.out 13).trans rfl⟩ (fun hHeld=>?_)
                    clear hK K
                    refine norm_ (a':=?_) ?_ ?_
                    rotate_left
                    · show Act.put _ (some 3) _ = _
                      simp only [Act.put,List.setIfInBounds_toArray,List.set_cons_zero,List.set_cons_succ,i64_w,i32_w]
                      rfl
                    exact norm_ (by first|(simp only [putAll,Act.put,List.setIfInBounds_toArray,List.set_cons_zero,List.set_cons_succ];done)|(simp only [putAll,Act.put,List.setIfInBounds_toArray,List.set_cons_zero,List.set_cons_succ];rfl)) (hJ12_31 (v170,gb181) _ ⟨hHeld,(by(with_reducible repeat (first|apply Kd.S_alloc|apply Kd.S_drewN|apply Kd.S_drew));exact HO171.out),(by(with_reducible repeat (first|refine blk_drewN ?_ _|refine blk_drew ?_|refine blk_alloc ?_ _));exact BK167.out),(by(with_reducible repeat (first|refine blk_drewN ?_ _|refine blk_drew ?_|refine blk_alloc ?_ _));exact BK168.out),(by(with_reducible repeat (first|refine blk_drewN ?_ _|refine blk_drew ?_|refine blk_alloc ?_ _));exact BK181.out),GW181.out,GE181.out,NB167_181.out,NB181_167.out,NB168_181.out,NB181_168.out,(by repeat (first|(with_reducible first|exact HB.out|apply below_alloc|apply pw_below_drewN|apply below_drew1|refine below_set ?_ GE167.out|refine below_set ?_ GE168.out|refine below_set ?_ GE181.out)|exact HB.out))⟩)
              · skip
                rintro ⟨v170,gb181⟩ w11 ⟨hS_,h0_,h1_,h2_,h3_,h4_,h5_,h6_,h7_,h8_,h9_,h10_⟩
                have n0_ : Aside0 (Kd.S (Kd.slice 5 (Kd.int .u8)) 22 w11 w.heap.size (fun _=>True) v170 t169):=⟨h0_⟩
                have n1_ : Aside0 (w11.heap[gb167]? = some (.cells #[.int .i64 a0_0,.int .i64 a0_1,.int .i64 a0_2,.int .i64 a0_3,.int .i64 a0_4,.slice A0_5 l0_5.length c0_5,.int .i64 a0_6,.slice A0_7 l0_7.length c0_7,.slice A0_8 l0_8.length c0_8,.bool a0_9,.slice A0_10 l0_10.length c0_10,.int .i64 a0_11,.int .i64 a0_12,.slice A0_13 l0_13.length c0_13] 44 (0,0))):=⟨h1_⟩
                have n2_ : Aside0 (w11.heap[gb168]? = some (.cells #[.int .i64 0,.int .i64 0,.int .i64 0,.int .i64 0,.int .i64 0,.slice none 0 0,.int .i64 0,.slice none 0 0,.slice none 0 0,.bool false,.slice none 0 0,.int .i64 0,.int .i64 0,.slice none 0 0] 29 (0,0))):=⟨h2_⟩
                have n3_ : Aside0 (w11.heap[gb181]? = some (.cells #[.int .i64 0,.int .i64 0,.int .i64 0,.int .i64 0,.int .i64 0,.slice none 0 0,.int .i64 0,.slice none 0 0,.slice none 0 0,.bool false,.slice none 0 0,.int .i64 0,.int .i64 0,.slice none 0 0] 29 (0,0))):=⟨h3_⟩
                have n4_ : Aside0 (w.heap.size ≤ gb181):=⟨h4_⟩
                have n5_ : Aside0 (w.heap.size ≤ gb181):=⟨h5_⟩
                have n6_ : Aside0 (gb167 ≠ gb181):=⟨h6_⟩
                have n7_ : Aside0 (gb181 ≠ gb167):=⟨h7_⟩
                have n8_ : Aside0 (gb168 ≠ gb181):=⟨h8_⟩
                have n9_ : Aside0 (gb181 ≠ gb168):=⟨h9_⟩
                have n10_ : Aside0 (Below w.heap.size w w11):=⟨h10_⟩
                clear BK167
                clear BK168
                clear HB
                clear h0_ h1_ h2_ h3_ h4_ h5_ h6_ h7_ h8_ h9_ h10_
                have HO171:=n0_
                have BK167:=n1_
                have BK168:=n2_
                have BK181:=n3_
                have GW181:=n4_
                have GE181:=n5_
                have NB167_181:=n6_
                have NB181_167:=n7_
                have NB168_181:=n8_
                have NB181_168:=n9_
                have HB:=n10_
                clear n0_ n1_ n2_ n3_ n4_ n5_ n6_ n7_ n8_ n9_ n10_
                have hHeld : w11.cell? ⟨gb167,0,none⟩ = some (.int .i64 a0_0)∧w11.cell? ⟨gb167,1,none⟩ = some (.int .i64 a0_1)∧w11.cell? ⟨gb167,2,none⟩ = some (.int .i64 a0_2)∧w11.cell? ⟨gb167,3,none⟩ = some (.int .i64 a0_3)∧w11.cell? ⟨gb167,4,none⟩ = some (.int .i64 a0_4)∧w11.cell? ⟨gb167,5,none⟩ = some (.slice A0_5 l0_5.length c0_5)∧w11.cell? ⟨gb167,6,none⟩ = some (.int .i64 a0_6)∧w11.cell? ⟨gb167,7,none⟩ = some (.slice A0_7 l0_7.length c0_7)∧w11.cell? ⟨gb167,8,none⟩ = some (.slice A0_8 l0_8.length c0_8)∧w11.cell? ⟨gb167,9,none⟩ = some (.bool a0_9)∧w11.cell? ⟨gb167,10,none⟩ = some (.slice A0_10 l0_10.length c0_10)∧w11.cell? ⟨gb167,11,none⟩ = some (.int .i64 a0_11)∧w11.cell? ⟨gb167,12,none⟩ = some (.int .i64 a0_12)∧w11.cell? ⟨gb167,13,none⟩ = some (.slice A0_13 l0_13.length c0_13):=hS_
                refine norm_ (a':=?_) ?_ ?_
                rotate_left
                · simp only [putAll,Act.put,List.setIfInBounds_toArray,List.set_cons_zero,List.set_cons_succ]
                  rfl
                refine one_ (i:=17) (N:=some 23) #[true,true,true,true,true,true,true,true,true,true,true,true,true,true,true,true,true,true,true,true,false,true,true,true,true,true,true,true,true,false,false,true,false] rfl rfl (one_of HT_.out (by kernel_rfl)) (by decide) (fun K hK=>?_)
                refine goes_ Try.func26 (by kernel_rfl) rfl #[.slice A0_7 l0_7.length c0_7] (by rfl) rfl rfl (by(try simp only [List.map_toArray,List.map_cons,List.map_nil]);first|done|rfl|(simp only [List.length_drop,List.length_take];rfl)) ?_
                with_reducible refine(undercroftplain_CopyInts.calls _ _ l0_7 t172 _ ?side1 ?side2 A3.out).mono ?_
                (case side1=>repeat (first|exact(Kd.C_below HR0_7.out HB.out)|(with_reducible refine Kd.C_alloc ?_ _)|(with_reducible refine Kd.C_drewN ?_ _)|(with_reducible refine Kd.C_drew ?_)))
                (case side2=>exact HC0_7.out)
                rintro e w12 ⟨v173,rfl,ho0,hb⟩
                refine⟨_,rfl,?_⟩
                have n0_:=Aside0.mk (Kd.S_below (by(with_reducible repeat (first|apply Kd.S_alloc|apply Kd.S_drewN|apply Kd.S_drew));exact HO171.out) hb)
                have n1_:=Aside0.mk (Kd.R_lower ho0 (below_size (by repeat (first|(with_reducible first|exact HB.out|apply below_alloc|apply pw_below_drewN|apply below_drew1|refine below_set ?_ GE167.out|refine below_set ?_ GE168.out|refine below_set ?_ GE181.out)|exact HB.out))))
                have n2_:=Aside0.mk (blk_below (g:=gb167) (o:=.cells #[.int .i64 a0_0,.int .i64 a0_1,.int .i64 a0_2,.int .i64 a0_3,.int .i64 a0_4,.slice A0_5 l0_5.length c0_5,.int .i64 a0_6,.slice A0_7 l0_7.length c0_7,.slice A0_8 l0_8.length c0_8,.bool a0_9,.slice A0_10 l0_10.length c0_10,.int .i64 a0_11,.int .i64 a0_12,.slice A0_13 l0_13.length c0_13] 44 (0,0)) (by(with_reducible repeat (first|refine blk_drewN ?_ _|refine blk_drew ?_|refine blk_alloc ?_ _));exact BK167.out) hb)
                have n3_:=Aside0.mk (blk_below (g:=gb168) (o:=.cells #[.int .i64 0,.int .i64 0,.int .i64 0,.int .i64 0,.int .i64 0,.slice none 0 0,.int .i64 0,.slice none 0 0,.slice none 0 0,.bool false,.slice none 0 0,.int .i64 0,.int .i64 0,.slice none 0 0] 29 (0,0)) (by(with_reducible repeat (first|refine blk_drewN ?_ _|refine blk_drew ?_|refine blk_alloc ?_ _));exact BK168.out) hb)
                have n4_:=Aside0.mk (blk_below (g:=gb181) (o:=.cells #[.int .i64 0,.int .i64 0,.int .i64 0,.int .i64 0,.int .i64 0,.slice none 0 0,.int .i64 0,.slice none 0 0,.slice none 0 0,.bool false,.slice none 0 0,.int .i64 0,.int .i64 0,.slice none 0 0] 29 (0,0)) (by(with_reducible repeat (first|refine blk_drewN ?_ _|refine blk_drew ?_|refine blk_alloc ?_ _));exact BK181.out) hb)
                have n5_:=Aside0.mk (below_step (by repeat (first|(with_reducible first|exact HB.out|apply below_alloc|apply pw_below_drewN|apply below_drew1|refine below_set ?_ GE167.out|refine below_set ?_ GE168.out|refine below_set ?_ GE181.out)|exact HB.out)) hb)
                clear HO171
                clear BK167
                clear BK168
                clear BK181
                clear HB
                have HO171:=n0_
                have HO174:=n1_
                have BK167:=n2_
                have BK168:=n3_
                have BK181:=n4_
                have HB:=n5_
                clear n0_ n1_ n2_ n3_ n4_ n5_
                (try clear hb)
                (try clear hb2)
                (try clear hk)
                (try clear hi)
                (try clear ho0)
                refine hK.out _ _ ⟨(blk_cell BK167.out 0).trans rfl,(blk_cell BK167.out 1).trans rfl,(blk_cell BK167.out 2).trans rfl,(blk_cell BK167.out 3).trans rfl,(blk_cell BK167.out 4).trans rfl,(blk_cell BK167.out 5).trans rfl,(blk_cell BK167.out 6).trans rfl,(blk_cell BK167.out 7).trans rfl,(blk_cell BK167.out 8).trans rfl,(blk_cell BK167.out 9).trans rfl,(blk_cell BK167.out 10).trans rfl,(blk_cell BK167.out 11).trans rfl,(blk_cell BK167.out 12).trans rfl,(blk_cell BK167.out 13).trans rfl⟩ (fun hHeld=>?_)
                clear hK K
                refine norm_ (a':=?_) ?_ ?_
                rotate_left
                · show Act.put _ (some 23) _ = _
                  simp only [Act.put,List.setIfInBounds_toArray,List.set_cons_zero,List.set_cons_succ,i64_w,i32_w]
                  rfl
                exact norm_ (by first|(simp only [putAll,Act.put,List.setIfInBounds_toArray,List.set_cons_zero,List.set_cons_succ];done)|(simp only [putAll,Act.put,List.setIfInBounds_toArray,List.set_cons_zero,List.set_cons_succ];rfl)) (hJ12_17_31 (v170,v173,gb181) _ ⟨hHeld,(by(with_reducible repeat (first|apply Kd.S_alloc|apply Kd.S_drewN|apply Kd.S_drew));exact HO171.out),(by(with_reducible repeat (first|apply Kd.R_alloc|apply Kd.R_drewN|apply Kd.R_drew));exact HO174.out),(by(with_reducible repeat (first|refine blk_drewN ?_ _|refine blk_drew ?_|refine blk_alloc ?_ _));exact BK167.out),(by(with_reducible repeat (first|refine blk_drewN ?_ _|refine blk_drew ?_|refine blk_alloc ?_ _));exact BK168.out),(by(with_reducible repeat (first|refine blk_drewN ?_ _|refine blk_drew ?_|refine blk_alloc ?_ _));exact BK181.out),GW181.out,GE181.out,NB167_181.out,NB181_167.out,NB168_181.out,NB181_168.out,(by repeat (first|(with_reducible first|exact HB.out|apply below_alloc|apply pw_below_drewN|apply below_drew1|refine below_set ?_ GE167.out|refine below_set ?_ GE168.out|refine below_set ?_ GE181.out)|exact HB.out))⟩)
            · skip
              rintro ⟨v170,v173⟩ w11 ⟨hS_,h0_,h1_,h2_,h3_,h4_⟩
              have n0_ : Aside0 (Kd.S (Kd.slice 5 (Kd.int .u8)) 22 w11 w.heap.size (fun _=>True) v170 t169):=⟨h0_⟩
              have n1_ : Aside0 (Kd.R (Kd.int .i64) 3 w11 w.heap.size (fun _=>True) v173 t172):=⟨h1_⟩
              have n2_ : Aside0 (w11.heap[gb167]? = some (.cells #[.int .i64 a0_0,.int .i64 a0_1,.int .i64 a0_2,.int .i64 a0_3,.int .i64 a0_4,.slice A0_5 l0_5.length c0_5,.int .i64 a0_6,.slice A0_7 l0_7.length c0_7,.slice A0_8 l0_8.length c0_8,.bool a0_9,.slice A0_10 l0_10.length c0_10,.int .i64 a0_11,.int .i64 a0_12,.slice A0_13 l0_13.length c0_13] 44 (0,0))):=⟨h2_⟩
              have n3_ : Aside0 (w11.heap[gb168]? = some (.cells #[.int .i64 0,.int .i64 0,.int .i64 0,.int .i64 0,.int .i64 0,.slice none 0 0,.int .i64 0,.slice none 0 0,.slice none 0 0,.bool false,.slice none 0 0,.int .i64 0,.int .i64 0,.slice none 0 0] 29 (0,0))):=⟨h3_⟩
              have n4_ : Aside0 (Below w.heap.size w w11):=⟨h4_⟩
              clear BK167
              clear BK168
              clear HB
              clear h0_ h1_ h2_ h3_ h4_
              have HO171:=n0_
              have HO174:=n1_
              have BK167:=n2_
              have BK168:=n3_
              have HB:=n4_
              clear n0_ n1_ n2_ n3_ n4_
              have hHeld : w11.cell? ⟨gb167,0,none⟩ = some (.int .i64 a0_0)∧w11.cell? ⟨gb167,1,none⟩ = some (.int .i64 a0_1)∧w11.cell? ⟨gb167,2,none⟩ = some (.int .i64 a0_2)∧w11.cell? ⟨gb167,3,none⟩ = some (.int .i64 a0_3)∧w11.cell? ⟨gb167,4,none⟩ = some (.int .i64 a0_4)∧w11.cell? ⟨gb167,5,none⟩ = some (.slice A0_5 l0_5.length c0_5)∧w11.cell? ⟨gb167,6,none⟩ = some (.int .i64 a0_6)∧w11.cell? ⟨gb167,7,none⟩ = some (.slice A0_7 l0_7.length c0_7)∧w11.cell? ⟨gb167,8,none⟩ = some (.slice A0_8 l0_8.length c0_8)∧w11.cell? ⟨gb167,9,none⟩ = some (.bool a0_9)∧w11.cell? ⟨gb167,10,none⟩ = some (.slice A0_10 l0_10.length c0_10)∧w11.cell? ⟨gb167,11,none⟩ = some (.int .i64 a0_11)∧w11.cell? ⟨gb167,12,none⟩ = some (.int .i64 a0_12)∧w11.cell? ⟨gb167,13,none⟩ = some (.slice A0_13 l0_13.length c0_13):=hS_
              refine norm_ (a':=?_) ?_ ?_
              rotate_left
              · simp only [putAll,Act.put,List.setIfInBounds_toArray,List.set_cons_zero,List.set_cons_succ]
                rfl
              refine two_ (i:=20) (j:=31) (Ni:=some 26) (Nj:=some 3) #[true,true,true,true,true,true,true,true,true,true,true,true,true,true,true,true,true,true,true,true,true,true,true,true,true,true,true,true,true,false,false,false,false] #[true,true,true,true,true,true,true,true,true,true,true,true,true,true,true,true,true,true,true,true,false,true,true,true,true,true,true,true,true,false,false,true,false] rfl rfl rfl rfl (two_of HT_.out (by kernel_rfl)) (by decide) (by decide) (fun K hK=>?_) (fun K hK=>?_)
              · skip
                refine goes_ Try.func27 (by kernel_rfl) rfl #[.slice A0_8 l0_8.length c0_8] (by rfl) rfl rfl (by(try simp only [List.map_toArray,List.map_cons,List.map_nil]);first|done|rfl|(simp only [List.length_drop,List.length_take];rfl)) ?_
                with_reducible refine(undercroftplain_CopyBools.calls _ _ l0_8 t175 _ ?side1 ?side2 A4.out).mono ?_
                (case side1=>repeat (first|exact(Kd.C_below HR0_8.out HB.out)|(with_reducible refine Kd.C_alloc ?_ _)|(with_reducible refine Kd.C_drewN ?_ _)|(with_reducible refine Kd.C_drew ?_)))
                (case side2=>exact HC0_8.out)
                rintro e w12 ⟨v176,rfl,ho0,hb⟩
                refine⟨_,rfl,?_⟩
                have n0_:=Aside0.mk (Kd.S_below (by(with_reducible repeat (first|apply Kd.S_alloc|apply Kd.S_drewN|apply Kd.S_drew));exact HO171.out) hb)
                have n1_:=Aside0.mk (Kd.R_below (by(with_reducible repeat (first|apply Kd.R_alloc|apply Kd.R_drewN|apply Kd.R_drew));exact HO174.out) hb)
                have n2_:=Aside0.mk (Kd.R_lower ho0 (below_size (by repeat (first|(with_reducible first|exact HB.out|apply below_alloc|apply pw_below_drewN|apply below_drew1|refine below_set ?_ GE167.out|refine below_set ?_ GE168.out)|exact HB.out))))
                have n3_:=Aside0.mk (blk_below (g:=gb167) (o:=.cells #[.int .i64 a0_0,.int .i64 a0_1,.int .i64 a0_2,.int .i64 a0_3,.int .i64 a0_4,.slice A0_5 l0_5.length c0_5,.int .i64 a0_6,.slice A0_7 l0_7.length c0_7,.slice A0_8 l0_8.length c0_8,.bool a0_9,.slice A0_10 l0_10.length c0_10,.int .i64 a0_11,.int .i64 a0_12,.slice A0_13 l0_13.length c0_13] 44 (0,0)) (by(with_reducible repeat (first|refine blk_drewN ?_ _|refine blk_drew ?_|refine blk_alloc ?_ _));exact BK167.out) hb)
                have n4_:=Aside0.mk (blk_below (g:=gb168) (o:=.cells #[.int .i64 0,.int .i64 0,.int .i64 0,.int .i64 0,.int .i64 0,.slice none 0 0,.int .i64 0,.slice none 0 0,.slice none 0 0,.bool false,.slice none 0 0,.int .i64 0,.int .i64 0,.slice none 0 0] 29 (0,0)) (by(with_reducible repeat (first|refine blk_drewN ?_ _|refine blk_drew ?_|refine blk_alloc ?_ _));exact BK168.out) hb)
                have n5_:=Aside0.mk (below_step (by repeat (first|(with_reducible first|exact HB.out|apply below_alloc|apply pw_below_drewN|apply below_drew1|refine below_set ?_ GE167.out|refine below_set ?_ GE168.out)|exact HB.out)) hb)
                clear HO171
                clear HO174
                clear BK167
                clear BK168
                clear HB
                have HO171:=n0_
                have HO174:=n1_
                have HO177:=n2_
                have BK167:=n3_
                have BK168:=n4_
                have HB:=n5_
                clear n0_ n1_ n2_ n3_ n4_ n5_
                (try clear hb)
                (try clear hb2)
                (try clear hk)
                (try clear hi)
                (try clear ho0)
                refine hK.out _ _ ⟨(blk_cell BK167.out 0).trans rfl,(blk_cell BK167.out 1).trans rfl,(blk_cell BK167.out 2).trans rfl,(blk_cell BK167.out 3).trans rfl,(blk_cell BK167.out 4).trans rfl,(blk_cell BK167.out 5).trans rfl,(blk_cell BK167.out 6).trans rfl,(blk_cell BK167.out 7).trans rfl,(blk_cell BK167.out 8).trans rfl,(blk_cell BK167.out 9).trans rfl,(blk_cell BK167.out 10).trans rfl,(blk_cell BK167.out 11).trans rfl,(blk_cell BK167.out 12).trans rfl,(blk_cell BK167.out 13).trans rfl⟩ (fun hHeld=>?_)
                clear hK K
                refine norm_ (a':=?_) ?_ ?_
                rotate_left
                · show Act.put _ (some 26) _ = _
                  simp only [Act.put,List.setIfInBounds_toArray,List.set_cons_zero,List.set_cons_succ,i64_w,i32_w]
                  rfl
                exact norm_ (by first|(simp only [putAll,Act.put,List.setIfInBounds_toArray,List.set_cons_zero,List.set_cons_succ];done)|(simp only [putAll,Act.put,List.setIfInBounds_toArray,List.set_cons_zero,List.set_cons_succ];rfl)) (hJ12_17_20 (v170,v173,v176) _ ⟨hHeld,(by(with_reducible repeat (first|apply Kd.S_alloc|apply Kd.S_drewN|apply Kd.S_drew));exact HO171.out),(by(with_reducible repeat (first|apply Kd.R_alloc|apply Kd.R_drewN|apply Kd.R_drew));exact HO174.out),(by(with_reducible repeat (first|apply Kd.R_alloc|apply Kd.R_drewN|apply Kd.R_drew));exact HO177.out),(by(with_reducible repeat (first|refine blk_drewN ?_ _|refine blk_drew ?_|refine blk_alloc ?_ _));exact BK167.out),(by(with_reducible repeat (first|refine blk_drewN ?_ _|refine blk_drew ?_|refine blk_alloc ?_ _));exact BK168.out),(by repeat (first|(with_reducible first|exact HB.out|apply below_alloc|apply pw_below_drewN|apply below_drew1|refine below_set ?_ GE167.out|refine below_set ?_ GE168.out)|exact HB.out))⟩)
              · skip
                refine box_step ?hg (N:=3) ?hd (cs:=#[.int .i64 0,.int .i64 0,.int .i64 0,.int .i64 0,.int .i64 0,.slice none 0 0,.int .i64 0,.slice none 0 0,.slice none 0 0,.bool false,.slice none 0 0,.int .i64 0,.int .i64 0,.slice none 0 0]) (t:=29) ?hr ?_;(case hd=>rfl);(case hg=>rfl);(case hr=>first|(go_simp;done)|(go_simp;rfl))
                intro gb181 hg w12 hbox hb
                have n0_:=Aside0.mk (Kd.S_below (by(with_reducible repeat (first|apply Kd.S_alloc|apply Kd.S_drewN|apply Kd.S_drew));exact HO171.out) hb)
                have n1_:=Aside0.mk (Kd.R_below (by(with_reducible repeat (first|apply Kd.R_alloc|apply Kd.R_drewN|apply Kd.R_drew));exact HO174.out) hb)
                have n2_:=Aside0.mk (blk_below (g:=gb167) (o:=.cells #[.int .i64 a0_0,.int .i64 a0_1,.int .i64 a0_2,.int .i64 a0_3,.int .i64 a0_4,.slice A0_5 l0_5.length c0_5,.int .i64 a0_6,.slice A0_7 l0_7.length c0_7,.slice A0_8 l0_8.length c0_8,.bool a0_9,.slice A0_10 l0_10.length c0_10,.int .i64 a0_11,.int .i64 a0_12,.slice A0_13 l0_13.length c0_13] 44 (0,0)) (by(with_reducible repeat (first|refine blk_drewN ?_ _|refine blk_drew ?_|refine blk_alloc ?_ _));exact BK167.out) hb)
                have n3_:=Aside0.mk (blk_below (g:=gb168) (o:=.cells #[.int .i64 0,.int .i64 0,.int .i64 0,.int .i64 0,.int .i64 0,.slice none 0 0,.int .i64 0,.slice none 0 0,.slice none 0 0,.bool false,.slice none 0 0,.int .i64 0,.int .i64 0,.slice none 0 0] 29 (0,0)) (by(with_reducible repeat (first|refine blk_drewN ?_ _|refine blk_drew ?_|refine blk_alloc ?_ _));exact BK168.out) hb)
                have n4_:=Aside0.mk (below_step (by repeat (first|(with_reducible first|exact HB.out|apply below_alloc|apply pw_below_drewN|apply below_drew1|refine below_set ?_ GE167.out|refine below_set ?_ GE168.out)|exact HB.out)) hb)
                have n5_:=Aside0.mk (hbox)
                have n6_:=Aside0.mk ((by rw [hg];exact(below_size (by repeat (first|(with_reducible first|exact HB.out|apply below_alloc|apply pw_below_drewN|apply below_drew1|refine below_set ?_ GE167.out|refine below_set ?_ GE168.out)|exact HB.out))) : w.heap.size ≤ gb181))
                have n7_:=Aside0.mk ((by rw [hg];exact(below_size (by repeat (first|(with_reducible first|exact HB.out|apply below_alloc|apply pw_below_drewN|apply below_drew1|refine below_set ?_ GE167.out|refine below_set ?_ GE168.out)|exact HB.out))) : w.heap.size ≤ gb181))
                have n8_:=Aside0.mk ((by rw [hg];exact Nat.ne_of_lt (blk_lt (g:=gb167) (o:=.cells #[.int .i64 a0_0,.int .i64 a0_1,.int .i64 a0_2,.int .i64 a0_3,.int .i64 a0_4,.slice A0_5 l0_5.length c0_5,.int .i64 a0_6,.slice A0_7 l0_7.length c0_7,.slice A0_8 l0_8.length c0_8,.bool a0_9,.slice A0_10 l0_10.length c0_10,.int .i64 a0_11,.int .i64 a0_12,.slice A0_13 l0_13.length c0_13] 44 (0,0)) (by(with_reducible repeat (first|refine blk_drewN ?_ _|refine blk_drew ?_|refine blk_alloc ?_ _));exact BK167.out)) : gb167 ≠ gb181))
                have n9_:=Aside0.mk ((by rw [hg];exact Nat.ne_of_gt (blk_lt (g:=gb167) (o:=.cells #[.int .i64 a0_0,.int .i64 a0_1,.int .i64 a0_2,.int .i64 a0_3,.int .i64 a0_4,.slice A0_5 l0_5.length c0_5,.int .i64 a0_6,.slice A0_7 l0_7.length c0_7,.slice A0_8 l0_8.length c0_8,.bool a0_9,.slice A0_10 l0_10.length c0_10,.int .i64 a0_11,.int .i64 a0_12,.slice A0_13 l0_13.length c0_13] 44 (0,0)) (by(with_reducible repeat (first|refine blk_drewN ?_ _|refine blk_drew ?_|refine blk_alloc ?_ _));exact BK167.out)) : gb181 ≠ gb167))
                have n10_:=Aside0.mk ((by rw [hg];exact Nat.ne_of_lt (blk_lt (g:=gb168) (o:=.cells #[.int .i64 0,.int .i64 0,.int .i64 0,.int .i64 0,.int .i64 0,.slice none 0 0,.int .i64 0,.slice none 0 0,.slice none 0 0,.bool false,.slice none 0 0,.int .i64 0,.int .i64 0,.slice none 0 0] 29 (0,0)) (by(with_reducible repeat (first|refine blk_drewN ?_ _|refine blk_drew ?_|refine blk_alloc ?_ _));exact BK168.out)) : gb168 ≠ gb181))
                have n11_:=Aside0.mk ((by rw [hg];exact Nat.ne_of_gt (blk_lt (g:=gb168) (o:=.cells #[.int .i64 0,.int .i64 0,.int .i64 0,.int .i64 0,.int .i64 0,.slice none 0 0,.int .i64 0,.slice none 0 0,.slice none 0 0,.bool false,.slice none 0 0,.int .i64 0,.int .i64 0,.slice none 0 0] 29 (0,0)) (by(with_reducible repeat (first|refine blk_drewN ?_ _|refine blk_drew ?_|refine blk_alloc ?_ _));exact BK168.out)) : gb181 ≠ gb168))
                clear HO171
                clear HO174
                clear BK167
                clear BK168
                clear HB
                have HO171:=n0_
                have HO174:=n1_
                have BK167:=n2_
                have BK168:=n3_
                have HB:=n4_
                have BK181:=n5_
                have GW181:=n6_
                have GE181:=n7_
                have NB167_181:=n8_
                have NB181_167:=n9_
                have NB168_181:=n10_
                have NB181_168:=n11_
                clear n0_ n1_ n2_ n3_ n4_ n5_ n6_ n7_ n8_ n9_ n10_ n11_
                clear hb hbox hg
                refine hK.out _ _ ⟨(blk_cell BK167.out 0).trans rfl,(blk_cell BK167.out 1).trans rfl,(blk_cell BK167.out 2).trans rfl,(blk_cell BK167.out 3).trans rfl,(blk_cell BK167.out 4).trans rfl,(blk_cell BK167.out 5).trans rfl,(blk_cell BK167.out 6).trans rfl,(blk_cell BK167.out 7).trans rfl,(blk_cell BK167.out 8).trans rfl,(blk_cell BK167.out 9).trans rfl,(blk_cell BK167.out 10).trans rfl,(blk_cell BK167.out 11).trans rfl,(blk_cell BK167.out 12).trans rfl,(blk_cell BK167.out 13).trans rfl⟩ (fun hHeld=>?_)
                clear hK K
                refine norm_ (a':=?_) ?_ ?_
                rotate_left
                · show Act.put _ (some 3) _ = _
                  simp only [Act.put,List.setIfInBounds_toArray,List.set_cons_zero,List.set_cons_succ,i64_w,i32_w]
                  rfl
                exact norm_ (by first|(simp only [putAll,Act.put,List.setIfInBounds_toArray,List.set_cons_zero,List.set_cons_succ];done)|(simp only [putAll,Act.put,List.setIfInBounds_toArray,List.set_cons_zero,List.set_cons_succ];rfl)) (hJ12_17_31 (v170,v173,gb181) _ ⟨hHeld,(by(with_reducible repeat (first|apply Kd.S_alloc|apply Kd.S_drewN|apply Kd.S_drew));exact HO171.out),(by(with_reducible repeat (first|apply Kd.R_alloc|apply Kd.R_drewN|apply Kd.R_drew));exact HO174.out),(by(with_reducible repeat (first|refine blk_drewN ?_ _|refine blk_drew ?_|refine blk_alloc ?_ _));exact BK167.out),(by(with_reducible repeat (first|refine blk_drewN ?_ _|refine blk_drew ?_|refine blk_alloc ?_ _));exact BK168.out),(by(with_reducible repeat (first|refine blk_drewN ?_ _|refine blk_drew ?_|refine blk_alloc ?_ _));exact BK181.out),GW181.out,GE181.out,NB167_181.out,NB181_167.out,NB168_181.out,NB181_168.out,(by repeat (first|(with_reducible first|exact HB.out|apply below_alloc|apply pw_below_drewN|apply below_drew1|refine below_set ?_ GE167.out|refine below_set ?_ GE168.out|refine below_set ?_ GE181.out)|exact HB.out))⟩)
          · skip
            rintro ⟨v170,v173,gb181⟩ w12 ⟨hS_,h0_,h1_,h2_,h3_,h4_,h5_,h6_,h7_,h8_,h9_,h10_,h11_⟩
            have n0_ : Aside0 (Kd.S (Kd.slice 5 (Kd.int .u8)) 22 w12 w.heap.size (fun _=>True) v170 t169):=⟨h0_⟩
            have n1_ : Aside0 (Kd.R (Kd.int .i64) 3 w12 w.heap.size (fun _=>True) v173 t172):=⟨h1_⟩
            have n2_ : Aside0 (w12.heap[gb167]? = some (.cells #[.int .i64 a0_0,.int .i64 a0_1,.int .i64 a0_2,.int .i64 a0_3,.int .i64 a0_4,.slice A0_5 l0_5.length c0_5,.int .i64 a0_6,.slice A0_7 l0_7.length c0_7,.slice A0_8 l0_8.length c0_8,.bool a0_9,.slice A0_10 l0_10.length c0_10,.int .i64 a0_11,.int .i64 a0_12,.slice A0_13 l0_13.length c0_13] 44 (0,0))):=⟨h2_⟩
            have n3_ : Aside0 (w12.heap[gb168]? = some (.cells #[.int .i64 0,.int .i64 0,.int .i64 0,.int .i64 0,.int .i64 0,.slice none 0 0,.int .i64 0,.slice none 0 0,.slice none 0 0,.bool false,.slice none 0 0,.int .i64 0,.int .i64 0,.slice none 0 0] 29 (0,0))):=⟨h3_⟩
            have n4_ : Aside0 (w12.heap[gb181]? = some (.cells #[.int .i64 0,.int .i64 0,.int .i64 0,.int .i64 0,.int .i64 0,.slice none 0 0,.int .i64 0,.slice none 0 0,.slice none 0 0,.bool false,.slice none 0 0,.int .i64 0,.int .i64 0,.slice none 0 0] 29 (0,0))):=⟨h4_⟩
            have n5_ : Aside0 (w.heap.size ≤ gb181):=⟨h5_⟩
            have n6_ : Aside0 (w.heap.size ≤ gb181):=⟨h6_⟩
            have n7_ : Aside0 (gb167 ≠ gb181):=⟨h7_⟩
            have n8_ : Aside0 (gb181 ≠ gb167):=⟨h8_⟩
            have n9_ : Aside0 (gb168 ≠ gb181):=⟨h9_⟩
            have n10_ : Aside0 (gb181 ≠ gb168):=⟨h10_⟩
            have n11_ : Aside0 (Below w.heap.size w w12):=⟨h11_⟩
            clear BK167
            clear BK168
            clear HB
            clear h0_ h1_ h2_ h3_ h4_ h5_ h6_ h7_ h8_ h9_ h10_ h11_
            have HO171:=n0_
            have HO174:=n1_
            have BK167:=n2_
            have BK168:=n3_
            have BK181:=n4_
            have GW181:=n5_
            have GE181:=n6_
            have NB167_181:=n7_
            have NB181_167:=n8_
            have NB168_181:=n9_
            have NB181_168:=n10_
            have HB:=n11_
            clear n0_ n1_ n2_ n3_ n4_ n5_ n6_ n7_ n8_ n9_ n10_ n11_
            have hHeld : w12.cell? ⟨gb167,0,none⟩ = some (.int .i64 a0_0)∧w12.cell? ⟨gb167,1,none⟩ = some (.int .i64 a0_1)∧w12.cell? ⟨gb167,2,none⟩ = some (.int .i64 a0_2)∧w12.cell? ⟨gb167,3,none⟩ = some (.int .i64 a0_3)∧w12.cell? ⟨gb167,4,none⟩ = some (.int .i64 a0_4)∧w12.cell? ⟨gb167,5,none⟩ = some (.slice A0_5 l0_5.length c0_5)∧w12.cell? ⟨gb167,6,none⟩ = some (.int .i64 a0_6)∧w12.cell? ⟨gb167,7,none⟩ = some (.slice A0_7 l0_7.length c0_7)∧w12.cell? ⟨gb167,8,none⟩ = some (.slice A0_8 l0_8.length c0_8)∧w12.cell? ⟨gb167,9,none⟩ = some (.bool a0_9)∧w12.cell? ⟨gb167,10,none⟩ = some (.slice A0_10 l0_10.length c0_10)∧w12.cell? ⟨gb167,11,none⟩ = some (.int .i64 a0_11)∧w12.cell? ⟨gb167,12,none⟩ = some (.int .i64 a0_12)∧w12.cell? ⟨gb167,13,none⟩ = some (.slice A0_13 l0_13.length c0_13):=hS_
            refine norm_ (a':=?_) ?_ ?_
            rotate_left
            · simp only [putAll,Act.put,List.setIfInBounds_toArray,List.set_cons_zero,List.set_cons_succ]
              rfl
            refine one_ (i:=20) (N:=some 26) #[true,true,true,true,true,true,true,true,true,true,true,true,true,true,true,true,true,true,true,true,true,true,true,true,true,true,true,true,true,false,false,true,false] rfl rfl (one_of HT_.out (by kernel_rfl)) (by decide) (fun K hK=>?_)
            refine goes_ Try.func27 (by kernel_rfl) rfl #[.slice A0_8 l0_8.length c0_8] (by rfl) rfl rfl (by(try simp only [List.map_toArray,List.map_cons,List.map_nil]);first|done|rfl|(simp only [List.length_drop,List.length_take];rfl)) ?_
            with_reducible refine(undercroftplain_CopyBools.calls _ _ l0_8 t175 _ ?side1 ?side2 A4.out).mono ?_
            (case side1=>repeat (first|exact(Kd.C_below HR0_8.out HB.out)|(with_reducible refine Kd.C_alloc ?_ _)|(with_reducible refine Kd.C_drewN ?_ _)|(with_reducible refine Kd.C_drew ?_)))
            (case side2=>exact HC0_8.out)
            rintro e w13 ⟨v176,rfl,ho0,hb⟩
            refine⟨_,rfl,?_⟩
            have n0_:=Aside0.mk (Kd.S_below (by(with_reducible repeat (first|apply Kd.S_alloc|apply Kd.S_drewN|apply Kd.S_drew));exact HO171.out) hb)
            have n1_:=Aside0.mk (Kd.R_below (by(with_reducible repeat (first|apply Kd.R_alloc|apply Kd.R_drewN|apply Kd.R_drew));exact HO174.out) hb)
            have n2_:=Aside0.mk (Kd.R_lower ho0 (below_size (by repeat (first|(with_reducible first|exact HB.out|apply below_alloc|apply pw_below_drewN|apply below_drew1|refine below_set ?_ GE167.out|refine below_set ?_ GE168.out|refine below_set ?_ GE181.out)|exact HB.out))))
            have n3_:=Aside0.mk (blk_below (g:=gb167) (o:=.cells #[.int .i64 a0_0,.int .i64 a0_1,.int .i64 a0_2,.int .i64 a0_3,.int .i64 a0_4,.slice A0_5 l0_5.length c0_5,.int .i64 a0_6,.slice A0_7 l0_7.length c0_7,.slice A0_8 l0_8.length c0_8,.bool a0_9,.slice A0_10 l0_10.length c0_10,.int .i64 a0_11,.int .i64 a0_12,.slice A0_13 l0_13.length c0_13] 44 (0,0)) (by(with_reducible repeat (first|refine blk_drewN ?_ _|refine blk_drew ?_|refine blk_alloc ?_ _));exact BK167.out) hb)
            have n4_:=Aside0.mk (blk_below (g:=gb168) (o:=.cells #[.int .i64 0,.int .i64 0,.int .i64 0,.int .i64 0,.int .i64 0,.slice none 0 0,.int .i64 0,.slice none 0 0,.slice none 0 0,.bool false,.slice none 0 0,.int .i64 0,.int .i64 0,.slice none 0 0] 29 (0,0)) (by(with_reducible repeat (first|refine blk_drewN ?_ _|refine blk_drew ?_|refine blk_alloc ?_ _));exact BK168.out) hb)
            have n5_:=Aside0.mk (blk_below (g:=gb181) (o:=.cells #[.int .i64 0,.int .i64 0,.int .i64 0,.int .i64 0,.int .i64 0,.slice none 0 0,.int .i64 0,.slice none 0 0,.slice none 0 0,.bool false,.slice none 0 0,.int .i64 0,.int .i64 0,.slice none 0 0] 29 (0,0)) (by(with_reducible repeat (first|refine blk_drewN ?_ _|refine blk_drew ?_|refine blk_alloc ?_ _));exact BK181.out) hb)
            have n6_:=Aside0.mk (below_step (by repeat (first|(with_reducible first|exact HB.out|apply below_alloc|apply pw_below_drewN|apply below_drew1|refine below_set ?_ GE167.out|refine below_set ?_ GE168.out|refine below_set ?_ GE181.out)|exact HB.out)) hb)
            clear HO171
            clear HO174
            clear BK167
            clear BK168
            clear BK181
            clear HB
            have HO171:=n0_
            have HO174:=n1_
            have HO177:=n2_
            have BK167:=n3_
            have BK168:=n4_
            have BK181:=n5_
            have HB:=n6_
            clear n0_ n1_ n2_ n3_ n4_ n5_ n6_
            (try clear hb)
            (try clear hb2)
            (try clear hk)
            (try clear hi)
            (try clear ho0)
            refine hK.out _ _ ⟨(blk_cell BK167.out 0).trans rfl,(blk_cell BK167.out 1).trans rfl,(blk_cell BK167.out 2).trans rfl,(blk_cell BK167.out 3).trans rfl,(blk_cell BK167.out 4).trans rfl,(blk_cell BK167.out 5).trans rfl,(blk_cell BK167.out 6).trans rfl,(blk_cell BK167.out 7).trans rfl,(blk_cell BK167.out 8).trans rfl,(blk_cell BK167.out 9).trans rfl,(blk_cell BK167.out 10).trans rfl,(blk_cell BK167.out 11).trans rfl,(blk_cell BK167.out 12).trans rfl,(blk_cell BK167.out 13).trans rfl⟩ (fun hHeld=>?_)
            clear hK K
            refine norm_ (a':=?_) ?_ ?_
            rotate_left
            · show Act.put _ (some 26) _ = _
              simp only [Act.put,List.setIfInBounds_toArray,List.set_cons_zero,List.set_cons_succ,i64_w,i32_w]
              rfl
            exact norm_ (by first|(simp only [putAll,Act.put,List.setIfInBounds_toArray,List.set_cons_zero,List.set_cons_succ];done)|(simp only [putAll,Act.put,List.setIfInBounds_toArray,List.set_cons_zero,List.set_cons_succ];rfl)) (hJ12_17_20_31 (v170,v173,v176,gb181) _ ⟨hHeld,(by(with_reducible repeat (first|apply Kd.S_alloc|apply Kd.S_drewN|apply Kd.S_drew));exact HO171.out),(by(with_reducible repeat (first|apply Kd.R_alloc|apply Kd.R_drewN|apply Kd.R_drew));exact HO174.out),(by(with_reducible repeat (first|apply Kd.R_alloc|apply Kd.R_drewN|apply Kd.R_drew));exact HO177.out),(by(with_reducible repeat (first|refine blk_drewN ?_ _|refine blk_drew ?_|refine blk_alloc ?_ _));exact BK167.out),(by(with_reducible repeat (first|refine blk_drewN ?_ _|refine blk_drew ?_|refine blk_alloc ?_ _));exact BK168.out),(by(with_reducible repeat (first|refine blk_drewN ?_ _|refine blk_drew ?_|refine blk_alloc ?_ _));exact BK181.out),GW181.out,GE181.out,NB167_181.out,NB181_167.out,NB168_181.out,NB181_168.out,(by repeat (first|(with_reducible first|exact HB.out|apply below_alloc|apply pw_below_drewN|apply below_drew1|refine below_set ?_ GE167.out|refine below_set ?_ GE168.out|refine below_set ?_ GE181.out)|exact HB.out))⟩)
        · skip
          rintro ⟨v170,v173,v176⟩ w12 ⟨hS_,h0_,h1_,h2_,h3_,h4_,h5_⟩
          have n0_ : Aside0 (Kd.S (Kd.slice 5 (Kd.int .u8)) 22 w12 w.heap.size (fun _=>True) v170 t169):=⟨h0_⟩
          have n1_ : Aside0 (Kd.R (Kd.int .i64) 3 w12 w.heap.size (fun _=>True) v173 t172):=⟨h1_⟩
          have n2_ : Aside0 (Kd.R Kd.bool 4 w12 w.heap.size (fun _=>True) v176 t175):=⟨h2_⟩
          have n3_ : Aside0 (w12.heap[gb167]? = some (.cells #[.int .i64 a0_0,.int .i64 a0_1,.int .i64 a0_2,.int .i64 a0_3,.int .i64 a0_4,.slice A0_5 l0_5.length c0_5,.int .i64 a0_6,.slice A0_7 l0_7.length c0_7,.slice A0_8 l0_8.length c0_8,.bool a0_9,.slice A0_10 l0_10.length c0_10,.int .i64 a0_11,.int .i64 a0_12,.slice A0_13 l0_13.length c0_13] 44 (0,0))):=⟨h3_⟩
          have n4_ : Aside0 (w12.heap[gb168]? = some (.cells #[.int .i64 0,.int .i64 0,.int .i64 0,.int .i64 0,.int .i64 0,.slice none 0 0,.int .i64 0,.slice none 0 0,.slice none 0 0,.bool false,.slice none 0 0,.int .i64 0,.int .i64 0,.slice none 0 0] 29 (0,0))):=⟨h4_⟩
          have n5_ : Aside0 (Below w.heap.size w w12):=⟨h5_⟩
          clear BK167
          clear BK168
          clear HB
          clear h0_ h1_ h2_ h3_ h4_ h5_
          have HO171:=n0_
          have HO174:=n1_
          have HO177:=n2_
          have BK167:=n3_
          have BK168:=n4_
          have HB:=n5_
          clear n0_ n1_ n2_ n3_ n4_ n5_
          have hHeld : w12.cell? ⟨gb167,0,none⟩ = some (.int .i64 a0_0)∧w12.cell? ⟨gb167,1,none⟩ = some (.int .i64 a0_1)∧w12.cell? ⟨gb167,2,none⟩ = some (.int .i64 a0_2)∧w12.cell? ⟨gb167,3,none⟩ = some (.int .i64 a0_3)∧w12.cell? ⟨gb167,4,none⟩ = some (.int .i64 a0_4)∧w12.cell? ⟨gb167,5,none⟩ = some (.slice A0_5 l0_5.length c0_5)∧w12.cell? ⟨gb167,6,none⟩ = some (.int .i64 a0_6)∧w12.cell? ⟨gb167,7,none⟩ = some (.slice A0_7 l0_7.length c0_7)∧w12.cell? ⟨gb167,8,none⟩ = some (.slice A0_8 l0_8.length c0_8)∧w12.cell? ⟨gb167,9,none⟩ = some (.bool a0_9)∧w12.cell? ⟨gb167,10,none⟩ = some (.slice A0_10 l0_10.length c0_10)∧w12.cell? ⟨gb167,11,none⟩ = some (.int .i64 a0_11)∧w12.cell? ⟨gb167,12,none⟩ = some (.int .i64 a0_12)∧w12.cell? ⟨gb167,13,none⟩ = some (.slice A0_13 l0_13.length c0_13):=hS_
          refine norm_ (a':=?_) ?_ ?_
          rotate_left
          · simp only [putAll,Act.put,List.setIfInBounds_toArray,List.set_cons_zero,List.set_cons_succ]
            rfl
          refine two_ (i:=29) (j:=31) (Ni:=some 35) (Nj:=some 3) #[true,true,true,true,true,true,true,true,true,true,true,true,true,true,true,true,true,true,true,true,true,true,true,true,true,true,true,true,true,true,false,false,false] #[true,true,true,true,true,true,true,true,true,true,true,true,true,true,true,true,true,true,true,true,true,true,true,true,true,true,true,true,true,false,false,true,false] rfl rfl rfl rfl (two_of HT_.out (by kernel_rfl)) (by decide) (by decide) (fun K hK=>?_) (fun K hK=>?_)
          · skip
            refine goes_ Try.func26 (by kernel_rfl) rfl #[.slice A0_13 l0_13.length c0_13] (by rfl) rfl rfl (by(try simp only [List.map_toArray,List.map_cons,List.map_nil]);first|done|rfl|(simp only [List.length_drop,List.length_take];rfl)) ?_
            with_reducible refine(undercroftplain_CopyInts.calls _ _ l0_13 t178 _ ?side1 ?side2 A5.out).mono ?_
            (case side1=>repeat (first|exact(Kd.C_below HR0_13.out HB.out)|(with_reducible refine Kd.C_alloc ?_ _)|(with_reducible refine Kd.C_drewN ?_ _)|(with_reducible refine Kd.C_drew ?_)))
            (case side2=>exact HC0_13.out)
            rintro e w13 ⟨v179,rfl,ho0,hb⟩
            refine⟨_,rfl,?_⟩
            have n0_:=Aside0.mk (Kd.S_below (by(with_reducible repeat (first|apply Kd.S_alloc|apply Kd.S_drewN|apply Kd.S_drew));exact HO171.out) hb)
            have n1_:=Aside0.mk (Kd.R_elder' (by(with_reducible repeat (first|apply Kd.R_alloc|apply Kd.R_drewN|apply Kd.R_drew));exact HO174.out) (Kd.R_base ho0) hb)
            have n2_:=Aside0.mk (Kd.R_below (by(with_reducible repeat (first|apply Kd.R_alloc|apply Kd.R_drewN|apply Kd.R_drew));exact HO177.out) hb)
            have n3_:=Aside0.mk (Kd.R_lower (Kd.R_new' ho0 (Kd.R_lt (by(with_reducible repeat (first|apply Kd.R_alloc|apply Kd.R_drewN|apply Kd.R_drew));exact HO174.out))) (below_size (by repeat (first|(with_reducible first|exact HB.out|apply below_alloc|apply pw_below_drewN|apply below_drew1|refine below_set ?_ GE167.out|refine below_set ?_ GE168.out)|exact HB.out))))
            have n4_:=Aside0.mk (blk_below (g:=gb167) (o:=.cells #[.int .i64 a0_0,.int .i64 a0_1,.int .i64 a0_2,.int .i64 a0_3,.int .i64 a0_4,.slice A0_5 l0_5.length c0_5,.int .i64 a0_6,.slice A0_7 l0_7.length c0_7,.slice A0_8 l0_8.length c0_8,.bool a0_9,.slice A0_10 l0_10.length c0_10,.int .i64 a0_11,.int .i64 a0_12,.slice A0_13 l0_13.length c0_13] 44 (0,0)) (by(with_reducible repeat (first|refine blk_drewN ?_ _|refine blk_drew ?_|refine blk_alloc ?_ _));exact BK167.out) hb)
            have n5_:=Aside0.mk (blk_below (g:=gb168) (o:=.cells #[.int .i64 0,.int .i64 0,.int .i64 0,.int .i64 0,.int .i64 0,.slice none 0 0,.int .i64 0,.slice none 0 0,.slice none 0 0,.bool false,.slice none 0 0,.int .i64 0,.int .i64 0,.slice none 0 0] 29 (0,0)) (by(with_reducible repeat (first|refine blk_drewN ?_ _|refine blk_drew ?_|refine blk_alloc ?_ _));exact BK168.out) hb)
            have n6_:=Aside0.mk (below_step (by repeat (first|(with_reducible first|exact HB.out|apply below_alloc|apply pw_below_drewN|apply below_drew1|refine below_set ?_ GE167.out|refine below_set ?_ GE168.out)|exact HB.out)) hb)
            clear HO171
            clear HO174
            clear HO177
            clear BK167
            clear BK168
            clear HB
            have HO171:=n0_
            have HO174:=n1_
            have HO177:=n2_
            have HO180:=n3_
            have BK167:=n4_
            have BK168:=n5_
            have HB:=n6_
            clear n0_ n1_ n2_ n3_ n4_ n5_ n6_
            (try clear hb)
            (try clear hb2)
            (try clear hk)
            (try clear hi)
            (try clear ho0)
            obtain ⟨Ao14,co14,eo14⟩:=Kd.R_slice HO180.out
            (first|subst eo14|(injection eo14 with f1_ f2_ f3_;have f4_:=f1_.symm;have f5_:=f3_.symm;clear f1_ f2_ f3_;subst f4_;subst f5_))
            obtain ⟨Ao15,co15,eo15⟩:=Kd.R_slice HO177.out
            (first|subst eo15|(injection eo15 with f1_ f2_ f3_;have f4_:=f1_.symm;have f5_:=f3_.symm;clear f1_ f2_ f3_;subst f4_;subst f5_))
            obtain ⟨Ao16,co16,eo16⟩:=Kd.R_slice HO174.out
            (first|subst eo16|(injection eo16 with f1_ f2_ f3_;have f4_:=f1_.symm;have f5_:=f3_.symm;clear f1_ f2_ f3_;subst f4_;subst f5_))
            obtain ⟨Ao17,co17,eo17⟩:=Kd.S_slice HO171.out
            (first|subst eo17|(injection eo17 with f1_ f2_ f3_;have f4_:=f1_.symm;have f5_:=f3_.symm;clear f1_ f2_ f3_;subst f4_;subst f5_))
            refine hK.out _ _ ⟨(blk_cell BK167.out 0).trans rfl,(blk_cell BK167.out 1).trans rfl,(blk_cell BK167.out 2).trans rfl,(blk_cell BK167.out 3).trans rfl,(blk_cell BK167.out 4).trans rfl,(blk_cell BK167.out 5).trans rfl,(blk_cell BK167.out 6).trans rfl,(blk_cell BK167.out 7).trans rfl,(blk_cell BK167.out 8).trans rfl,(blk_cell BK167.out 9).trans rfl,(blk_cell BK167.out 10).trans rfl,(blk_cell BK167.out 11).trans rfl,(blk_cell BK167.out 12).trans rfl,(blk_cell BK167.out 13).trans rfl⟩ (fun hHeld=>?_)
            clear hK K
            refine norm_ (a':=?_) ?_ ?_
            rotate_left
            · show Act.put _ (some 35) _ = _
              simp only [Act.put,List.setIfInBounds_toArray,List.set_cons_zero,List.set_cons_succ,i64_w,i32_w]
              rfl
            refine pure_ (i:=30) (N:=some 36) (v:=?_) (a':=?_) #[true,true,true,true,true,true,true,true,true,true,true,true,true,true,true,true,true,true,true,true,true,true,true,true,true,true,true,true,true,true,true,false,false] rfl rfl (any_of HT_.out (by kernel_rfl)) (fun _ _ _ h=>h) (Or.inl ⟨by rfl,?_⟩) ?_ ?_
            rotate_left
            · intro w'
              go_simp
              with_reducible rfl
            rotate_left
            · simp only [Act.put,List.setIfInBounds_toArray,List.set_cons_zero,List.set_cons_succ,i64_w,i32_w]
              rfl
            exact norm_ (by first|(simp only [putAll,Act.put,List.setIfInBounds_toArray,List.set_cons_zero,List.set_cons_succ];done)|(simp only [putAll,Act.put,List.setIfInBounds_toArray,List.set_cons_zero,List.set_cons_succ];rfl)) (hJ12_17_20_29 (.slice Ao17 t169.length co17,.slice Ao16 t172.length co16,.slice Ao15 t175.length co15,.slice Ao14 t178.length co14) _ ⟨hHeld,(by(with_reducible repeat (first|apply Kd.S_alloc|apply Kd.S_drewN|apply Kd.S_drew));exact HO171.out),(by(with_reducible repeat (first|apply Kd.R_alloc|apply Kd.R_drewN|apply Kd.R_drew));exact Kd.R_mono HO174.out (fun _ hk=>hk.2)),(by(with_reducible repeat (first|apply Kd.R_alloc|apply Kd.R_drewN|apply Kd.R_drew));exact HO177.out),(by(with_reducible repeat (first|apply Kd.R_alloc|apply Kd.R_drewN|apply Kd.R_drew));exact Kd.R_mono HO180.out (fun _ hk=>hk.2)),(by(with_reducible repeat (first|refine blk_drewN ?_ _|refine blk_drew ?_|refine blk_alloc ?_ _));exact BK167.out),(by(with_reducible repeat (first|refine blk_drewN ?_ _|refine blk_drew ?_|refine blk_alloc ?_ _));exact BK168.out),(by repeat (first|(with_reducible first|exact HB.out|apply below_alloc|apply pw_below_drewN|apply below_drew1|refine below_set ?_ GE167.out|refine below_set ?_ GE168.out)|exact HB.out))⟩)
          · skip
            refine box_step ?hg (N:=3) ?hd (cs:=#[.int .i64 0,.int .i64 0,.int .i64 0,.int .i64 0,.int .i64 0,.slice none 0 0,.int .i64 0,.slice none 0 0,.slice none 0 0,.bool false,.slice none 0 0,.int .i64 0,.int .i64 0,.slice none 0 0]) (t:=29) ?hr ?_;(case hd=>rfl);(case hg=>rfl);(case hr=>first|(go_simp;done)|(go_simp;rfl))
            intro gb181 hg w13 hbox hb
            have n0_:=Aside0.mk (Kd.S_below (by(with_reducible repeat (first|apply Kd.S_alloc|apply Kd.S_drewN|apply Kd.S_drew));exact HO171.out) hb)
            have n1_:=Aside0.mk (Kd.R_below (by(with_reducible repeat (first|apply Kd.R_alloc|apply Kd.R_drewN|apply Kd.R_drew));exact HO174.out) hb)
            have n2_:=Aside0.mk (Kd.R_below (by(with_reducible repeat (first|apply Kd.R_alloc|apply Kd.R_drewN|apply Kd.R_drew));exact HO177.out) hb)
            have n3_:=Aside0.mk (blk_below (g:=gb167) (o:=.cells #[.int .i64 a0_0,.int .i64 a0_1,.int .i64 a0_2,.int .i64 a0_3,.int .i64 a0_4,.slice A0_5 l0_5.length c0_5,.int .i64 a0_6,.slice A0_7 l0_7.length c0_7,.slice A0_8 l0_8.length c0_8,.bool a0_9,.slice A0_10 l0_10.length c0_10,.int .i64 a0_11,.int .i64 a0_12,.slice A0_13 l0_13.length c0_13] 44 (0,0)) (by(with_reducible repeat (first|refine blk_drewN ?_ _|refine blk_drew ?_|refine blk_alloc ?_ _));exact BK167.out) hb)
            have n4_:=Aside0.mk (blk_below (g:=gb168) (o:=.cells #[.int .i64 0,.int .i64 0,.int .i64 0,.int .i64 0,.int .i64 0,.slice none 0 0,.int .i64 0,.slice none 0 0,.slice none 0 0,.bool false,.slice none 0 0,.int .i64 0,.int .i64 0,.slice none 0 0] 29 (0,0)) (by(with_reducible repeat (first|refine blk_drewN ?_ _|refine blk_drew ?_|refine blk_alloc ?_ _));exact BK168.out) hb)
            have n5_:=Aside0.mk (below_step (by repeat (first|(with_reducible first|exact HB.out|apply below_alloc|apply pw_below_drewN|apply below_drew1|refine below_set ?_ GE167.out|refine below_set ?_ GE168.out)|exact HB.out)) hb)
            have n6_:=Aside0.mk (hbox)
            have n7_:=Aside0.mk ((by rw [hg];exact(below_size (by repeat (first|(with_reducible first|exact HB.out|apply below_alloc|apply pw_below_drewN|apply below_drew1|refine below_set ?_ GE167.out|refine below_set ?_ GE168.out)|exact HB.out))) : w.heap.size ≤ gb181))
            have n8_:=Aside0.mk ((by rw [hg];exact(below_size (by repeat (first|(with_reducible first|exact HB.out|apply below_alloc|apply pw_below_drewN|apply below_drew1|refine below_set ?_ GE167.out|refine below_set ?_ GE168.out)|exact HB.out))) : w.heap.size ≤ gb181))
            have n9_:=Aside0.mk ((by rw [hg];exact Nat.ne_of_lt (blk_lt (g:=gb167) (o:=.cells #[.int .i64 a0_0,.int .i64 a0_1,.int .i64 a0_2,.int .i64 a0_3,.int .i64 a0_4,.slice A0_5 l0_5.length c0_5,.int .i64 a0_6,.slice A0_7 l0_7.length c0_7,.slice A0_8 l0_8.length c0_8,.bool a0_9,.slice A0_10 l0_10.length c0_10,.int .i64 a0_11,.int .i64 a0_12,.slice A0_13 l0_13.length c0_13] 44 (0,0)) (by(with_reducible repeat (first|refine blk_drewN ?_ _|refine blk_drew ?_|refine blk_alloc ?_ _));exact BK167.out)) : gb167 ≠ gb181))
            have n10_:=Aside0.mk ((by rw [hg];exact Nat.ne_of_gt (blk_lt (g:=gb167) (o:=.cells #[.int .i64 a0_0,.int .i64 a0_1,.int .i64 a0_2,.int .i64 a0_3,.int .i64 a0_4,.slice A0_5 l0_5.length c0_5,.int .i64 a0_6,.slice A0_7 l0_7.length c0_7,.slice A0_8 l0_8.length c0_8,.bool a0_9,.slice A0_10 l0_10.length c0_10,.int .i64 a0_11,.int .i64 a0_12,.slice A0_13 l0_13.length c0_13] 44 (0,0)) (by(with_reducible repeat (first|refine blk_drewN ?_ _|refine blk_drew ?_|refine blk_alloc ?_ _));exact BK167.out)) : gb181 ≠ gb167))
            have n11_:=Aside0.mk ((by rw [hg];exact Nat.ne_of_lt (blk_lt (g:=gb168) (o:=.cells #[.int .i64 0,.int .i64 0,.int .i64 0,.int .i64 0,.int .i64 0,.slice none 0 0,.int .i64 0,.slice none 0 0,.slice none 0 0,.bool false,.slice none 0 0,.int .i64 0,.int .i64 0,.slice none 0 0] 29 (0,0)) (by(with_reducible repeat (first|refine blk_drewN ?_ _|refine blk_drew ?_|refine blk_alloc ?_ _));exact BK168.out)) : gb168 ≠ gb181))
            have n12_:=Aside0.mk ((by rw [hg];exact Nat.ne_of_gt (blk_lt (g:=gb168) (o:=.cells #[.int .i64 0,.int .i64 0,.int .i64 0,.int .i64 0,.int .i64 0,.slice none 0 0,.int .i64 0,.slice none 0 0,.slice none 0 0,.bool false,.slice none 0 0,.int .i64 0,.int .i64 0,.slice none 0 0] 29 (0,0)) (by(with_reducible repeat (first|refine blk_drewN ?_ _|refine blk_drew ?_|refine blk_alloc ?_ _));exact BK168.out)) : gb181 ≠ gb168))
            clear HO171
            clear HO174
            clear HO177
            clear BK167
            clear BK168
            clear HB
            have HO171:=n0_
            have HO174:=n1_
            have HO177:=n2_
            have BK167:=n3_
            have BK168:=n4_
            have HB:=n5_
            have BK181:=n6_
            have GW181:=n7_
            have GE181:=n8_
            have NB167_181:=n9_
            have NB181_167:=n10_
            have NB168_181:=n11_
            have NB181_168:=n12_
            clear n0_ n1_ n2_ n3_ n4_ n5_ n6_ n7_ n8_ n9_ n10_ n11_ n12_
            clear hb hbox hg
            refine hK.out _ _ ⟨(blk_cell BK167.out 0).trans rfl,(blk_cell BK167.out 1).trans rfl,(blk_cell BK167.out 2).trans rfl,(blk_cell BK167.out 3).trans rfl,(blk_cell BK167.out 4).trans rfl,(blk_cell BK167.out 5).trans rfl,(blk_cell BK167.out 6).trans rfl,(blk_cell BK167.out 7).trans rfl,(blk_cell BK167.out 8).trans rfl,(blk_cell BK167.out 9).trans rfl,(blk_cell BK167.out 10).trans rfl,(blk_cell BK167.out 11).trans rfl,(blk_cell BK167.out 12).trans rfl,(blk_cell BK167.out 13).trans rfl⟩ (fun hHeld=>?_)
            clear hK K
            refine norm_ (a':=?_) ?_ ?_
            rotate_left
            · show Act.put _ (some 3) _ = _
              simp only [Act.put,List.setIfInBounds_toArray,List.set_cons_zero,List.set_cons_succ,i64_w,i32_w]
              rfl
            exact norm_ (by first|(simp only [putAll,Act.put,List.setIfInBounds_toArray,List.set_cons_zero,List.set_cons_succ];done)|(simp only [putAll,Act.put,List.setIfInBounds_toArray,List.set_cons_zero,List.set_cons_succ];rfl)) (hJ12_17_20_31 (v170,v173,v176,gb181) _ ⟨hHeld,(by(with_reducible repeat (first|apply Kd.S_alloc|apply Kd.S_drewN|apply Kd.S_drew));exact HO171.out),(by(with_reducible repeat (first|apply Kd.R_alloc|apply Kd.R_drewN|apply Kd.R_drew));exact HO174.out),(by(with_reducible repeat (first|apply Kd.R_alloc|apply Kd.R_drewN|apply Kd.R_drew));exact HO177.out),(by(with_reducible repeat (first|refine blk_drewN ?_ _|refine blk_drew ?_|refine blk_alloc ?_ _));exact BK167.out),(by(with_reducible repeat (first|refine blk_drewN ?_ _|refine blk_drew ?_|refine blk_alloc ?_ _));exact BK168.out),(by(with_reducible repeat (first|refine blk_drewN ?_ _|refine blk_drew ?_|refine blk_alloc ?_ _));exact BK181.out),GW181.out,GE181.out,NB167_181.out,NB181_167.out,NB168_181.out,NB181_168.out,(by repeat (first|(with_reducible first|exact HB.out|apply below_alloc|apply pw_below_drewN|apply below_drew1|refine below_set ?_ GE167.out|refine below_set ?_ GE168.out|refine below_set ?_ GE181.out)|exact HB.out))⟩)
      · skip
        rintro ⟨v170,v173,v176,gb181⟩ w13 ⟨hS_,h0_,h1_,h2_,h3_,h4_,h5_,h6_,h7_,h8_,h9_,h10_,h11_,h12_⟩
        have n0_ : Aside0 (Kd.S (Kd.slice 5 (Kd.int .u8)) 22 w13 w.heap.size (fun _=>True) v170 t169):=⟨h0_⟩
        have n1_ : Aside0 (Kd.R (Kd.int .i64) 3 w13 w.heap.size (fun _=>True) v173 t172):=⟨h1_⟩
        have n2_ : Aside0 (Kd.R Kd.bool 4 w13 w.heap.size (fun _=>True) v176 t175):=⟨h2_⟩
        have n3_ : Aside0 (w13.heap[gb167]? = some (.cells #[.int .i64 a0_0,.int .i64 a0_1,.int .i64 a0_2,.int .i64 a0_3,.int .i64 a0_4,.slice A0_5 l0_5.length c0_5,.int .i64 a0_6,.slice A0_7 l0_7.length c0_7,.slice A0_8 l0_8.length c0_8,.bool a0_9,.slice A0_10 l0_10.length c0_10,.int .i64 a0_11,.int .i64 a0_12,.slice A0_13 l0_13.length c0_13] 44 (0,0))):=⟨h3_⟩
        have n4_ : Aside0 (w13.heap[gb168]? = some (.cells #[.int .i64 0,.int .i64 0,.int .i64 0,.int .i64 0,.int .i64 0,.slice none 0 0,.int .i64 0,.slice none 0 0,.slice none 0 0,.bool false,.slice none 0 0,.int .i64 0,.int .i64 0,.slice none 0 0] 29 (0,0))):=⟨h4_⟩
        have n5_ : Aside0 (w13.heap[gb181]? = some (.cells #[.int .i64 0,.int .i64 0,.int .i64 0,.int .i64 0,.int .i64 0,.slice none 0 0,.int .i64 0,.slice none 0 0,.slice none 0 0,.bool false,.slice none 0 0,.int .i64 0,.int .i64 0,.slice none 0 0] 29 (0,0))):=⟨h5_⟩
        have n6_ : Aside0 (w.heap.size ≤ gb181):=⟨h6_⟩
        have n7_ : Aside0 (w.heap.size ≤ gb181):=⟨h7_⟩
        have n8_ : Aside0 (gb167 ≠ gb181):=⟨h8_⟩
        have n9_ : Aside0 (gb181 ≠ gb167):=⟨h9_⟩
        have n10_ : Aside0 (gb168 ≠ gb181):=⟨h10_⟩
        have n11_ : Aside0 (gb181 ≠ gb168):=⟨h11_⟩
        have n12_ : Aside0 (Below w.heap.size w w13):=⟨h12_⟩
        clear BK167
        clear BK168
        clear HB
        clear h0_ h1_ h2_ h3_ h4_ h5_ h6_ h7_ h8_ h9_ h10_ h11_ h12_
        have HO171:=n0_
        have HO174:=n1_
        have HO177:=n2_
        have BK167:=n3_
        have BK168:=n4_
        have BK181:=n5_
        have GW181:=n6_
        have GE181:=n7_
        have NB167_181:=n8_
        have NB181_167:=n9_
        have NB168_181:=n10_
        have NB181_168:=n11_
        have HB:=n12_
        clear n0_ n1_ n2_ n3_ n4_ n5_ n6_ n7_ n8_ n9_ n10_ n11_ n12_
        have hHeld : w13.cell? ⟨gb167,0,none⟩ = some (.int .i64 a0_0)∧w13.cell? ⟨gb167,1,none⟩ = some (.int .i64 a0_1)∧w13.cell? ⟨gb167,2,none⟩ = some (.int .i64 a0_2)∧w13.cell? ⟨gb167,3,none⟩ = some (.int .i64 a0_3)∧w13.cell? ⟨gb167,4,none⟩ = some (.int .i64 a0_4)∧w13.cell? ⟨gb167,5,none⟩ = some (.slice A0_5 l0_5.length c0_5)∧w13.cell? ⟨gb167,6,none⟩ = some (.int .i64 a0_6)∧w13.cell? ⟨gb167,7,none⟩ = some (.slice A0_7 l0_7.length c0_7)∧w13.cell? ⟨gb167,8,none⟩ = some (.slice A0_8 l0_8.length c0_8)∧w13.cell? ⟨gb167,9,none⟩ = some (.bool a0_9)∧w13.cell? ⟨gb167,10,none⟩ = some (.slice A0_10 l0_10.length c0_10)∧w13.cell? ⟨gb167,11,none⟩ = some (.int .i64 a0_11)∧w13.cell? ⟨gb167,12,none⟩ = some (.int .i64 a0_12)∧w13.cell? ⟨gb167,13,none⟩ = some (.slice A0_13 l0_13.length c0_13):=hS_
        refine norm_ (a':=?_) ?_ ?_
        rotate_left
        · simp only [putAll,Act.put,List.setIfInBounds_toArray,List.set_cons_zero,List.set_cons_succ]
          rfl
        refine one_ (i:=29) (N:=some 35) #[true,true,true,true,true,true,true,true,true,true,true,true,true,true,true,true,true,true,true,true,true,true,true,true,true,true,true,true,true,true,false,true,false] rfl rfl (one_of HT_.out (by kernel_rfl)) (by decide) (fun K hK=>?_)
        refine goes_ Try.func26 (by kernel_rfl) rfl #[.slice A0_13 l0_13.length c0_13] (by rfl) rfl rfl (by(try simp only [List.map_toArray,List.map_cons,List.map_nil]);first|done|rfl|(simp only [List.length_drop,List.length_take];rfl)) ?_
        with_reducible refine(undercroftplain_CopyInts.calls _ _ l0_13 t178 _ ?side1 ?side2 A5.out).mono ?_
        (case side1=>repeat (first|exact(Kd.C_below HR0_13.out HB.out)|(with_reducible refine Kd.C_alloc ?_ _)|(with_reducible refine Kd.C_drewN ?_ _)|(with_reducible refine Kd.C_drew ?_)))
        (case side2=>exact HC0_13.out)
        rintro e w14 ⟨v179,rfl,ho0,hb⟩
        refine⟨_,rfl,?_⟩
        have n0_:=Aside0.mk (Kd.S_below (by(with_reducible repeat (first|apply Kd.S_alloc|apply Kd.S_drewN|apply Kd.S_drew));exact HO171.out) hb)
        have n1_:=Aside0.mk (Kd.R_elder' (by(with_reducible repeat (first|apply Kd.R_alloc|apply Kd.R_drewN|apply Kd.R_drew));exact HO174.out) (Kd.R_base ho0) hb)
        have n2_:=Aside0.mk (Kd.R_below (by(with_reducible repeat (first|apply Kd.R_alloc|apply Kd.R_drewN|apply Kd.R_drew));exact HO177.out) hb)
        have n3_:=Aside0.mk (Kd.R_lower (Kd.R_new' ho0 (Kd.R_lt (by(with_reducible repeat (first|apply Kd.R_alloc|apply Kd.R_drewN|apply Kd.R_drew));exact HO174.out))) (below_size (by repeat (first|(with_reducible first|exact HB.out|apply below_alloc|apply pw_below_drewN|apply below_drew1|refine below_set ?_ GE167.out|refine below_set ?_ GE168.out|refine below_set ?_ GE181.out)|exact HB.out))))
        have n4_:=Aside0.mk (blk_below (g:=gb167) (o:=.cells #[.int .i64 a0_0,.int .i64 a0_1,.int .i64 a0_2,.int .i64 a0_3,.int .i64 a0_4,.slice A0_5 l0_5.length c0_5,.int .i64 a0_6,.slice A0_7 l0_7.length c0_7,.slice A0_8 l0_8.length c0_8,.bool a0_9,.slice A0_10 l0_10.length c0_10,.int .i64 a0_11,.int .i64 a0_12,.slice A0_13 l0_13.length c0_13] 44 (0,0)) (by(with_reducible repeat (first|refine blk_drewN ?_ _|refine blk_drew ?_|refine blk_alloc ?_ _));exact BK167.out) hb)
        have n5_:=Aside0.mk (blk_below (g:=gb168) (o:=.cells #[.int .i64 0,.int .i64 0,.int .i64 0,.int .i64 0,.int .i64 0,.slice none 0 0,.int .i64 0,.slice none 0 0,.slice none 0 0,.bool false,.slice none 0 0,.int .i64 0,.int .i64 0,.slice none 0 0] 29 (0,0)) (by(with_reducible repeat (first|refine blk_drewN ?_ _|refine blk_drew ?_|refine blk_alloc ?_ _));exact BK168.out) hb)
        have n6_:=Aside0.mk (blk_below (g:=gb181) (o:=.cells #[.int .i64 0,.int .i64 0,.int .i64 0,.int .i64 0,.int .i64 0,.slice none 0 0,.int .i64 0,.slice none 0 0,.slice none 0 0,.bool false,.slice none 0 0,.int .i64 0,.int .i64 0,.slice none 0 0] 29 (0,0)) (by(with_reducible repeat (first|refine blk_drewN ?_ _|refine blk_drew ?_|refine blk_alloc ?_ _));exact BK181.out) hb)
        have n7_:=Aside0.mk (below_step (by repeat (first|(with_reducible first|exact HB.out|apply below_alloc|apply pw_below_drewN|apply below_drew1|refine below_set ?_ GE167.out|refine below_set ?_ GE168.out|refine below_set ?_ GE181.out)|exact HB.out)) hb)
        clear HO171
        clear HO174
        clear HO177
        clear BK167
        clear BK168
        clear BK181
        clear HB
        have HO171:=n0_
        have HO174:=n1_
        have HO177:=n2_
        have HO180:=n3_
        have BK167:=n4_
        have BK168:=n5_
        have BK181:=n6_
        have HB:=n7_
        clear n0_ n1_ n2_ n3_ n4_ n5_ n6_ n7_
        (try clear hb)
        (try clear hb2)
        (try clear hk)
        (try clear hi)
        (try clear ho0)
        obtain ⟨Ao15,co15,eo15⟩:=Kd.R_slice HO180.out
        (first|subst eo15|(injection eo15 with f1_ f2_ f3_;have f4_:=f1_.symm;have f5_:=f3_.symm;clear f1_ f2_ f3_;subst f4_;subst f5_))
        obtain ⟨Ao16,co16,eo16⟩:=Kd.R_slice HO177.out
        (first|subst eo16|(injection eo16 with f1_ f2_ f3_;have f4_:=f1_.symm;have f5_:=f3_.symm;clear f1_ f2_ f3_;subst f4_;subst f5_))
        obtain ⟨Ao17,co17,eo17⟩:=Kd.R_slice HO174.out
        (first|subst eo17|(injection eo17 with f1_ f2_ f3_;have f4_:=f1_.symm;have f5_:=f3_.symm;clear f1_ f2_ f3_;subst f4_;subst f5_))
        obtain ⟨Ao18,co18,eo18⟩:=Kd.S_slice HO171.out
        (first|subst eo18|(injection eo18 with f1_ f2_ f3_;have f4_:=f1_.symm;have f5_:=f3_.symm;clear f1_ f2_ f3_;subst f4_;subst f5_))
        refine hK.out _ _ ⟨(blk_cell BK167.out 0).trans rfl,(blk_cell BK167.out 1).trans rfl,(blk_cell BK167.out 2).trans rfl,(blk_cell BK167.out 3).trans rfl,(blk_cell BK167.out 4).trans rfl,(blk_cell BK167.out 5).trans rfl,(blk_cell BK167.out 6).trans rfl,(blk_cell BK167.out 7).trans rfl,(blk_cell BK167.out 8).trans rfl,(blk_cell BK167.out 9).trans rfl,(blk_cell BK167.out 10).trans rfl,(blk_cell BK167.out 11).trans rfl,(blk_cell BK167.out 12).trans rfl,(blk_cell BK167.out 13).trans rfl⟩ (fun hHeld=>?_)
        clear hK K
        refine norm_ (a':=?_) ?_ ?_
        rotate_left
        · show Act.put _ (some 35) _ = _
          simp only [Act.put,List.setIfInBounds_toArray,List.set_cons_zero,List.set_cons_succ,i64_w,i32_w]
          rfl
        refine pure_ (i:=30) (N:=some 36) (v:=?_) (a':=?_) #[true,true,true,true,true,true,true,true,true,true,true,true,true,true,true,true,true,true,true,true,true,true,true,true,true,true,true,true,true,true,true,true,false] rfl rfl (any_of HT_.out (by kernel_rfl)) (fun _ _ _ h=>h) (Or.inl ⟨by rfl,?_⟩) ?_ ?_
        rotate_left
        · intro w'
          go_simp
          with_reducible rfl
        rotate_left
        · simp only [Act.put,List.setIfInBounds_toArray,List.set_cons_zero,List.set_cons_succ,i64_w,i32_w]
          rfl
        exact norm_ (by first|(simp only [putAll,Act.put,List.setIfInBounds_toArray,List.set_cons_zero,List.set_cons_succ];done)|(simp only [putAll,Act.put,List.setIfInBounds_toArray,List.set_cons_zero,List.set_cons_succ];rfl)) (hJ12_17_20_29_31 (.slice Ao18 t169.length co18,.slice Ao17 t172.length co17,.slice Ao16 t175.length co16,.slice Ao15 t178.length co15,gb181) _ ⟨hHeld,(by(with_reducible repeat (first|apply Kd.S_alloc|apply Kd.S_drewN|apply Kd.S_drew));exact HO171.out),(by(with_reducible repeat (first|apply Kd.R_alloc|apply Kd.R_drewN|apply Kd.R_drew));exact Kd.R_mono HO174.out (fun _ hk=>hk.2)),(by(with_reducible repeat (first|apply Kd.R_alloc|apply Kd.R_drewN|apply Kd.R_drew));exact HO177.out),(by(with_reducible repeat (first|apply Kd.R_alloc|apply Kd.R_drewN|apply Kd.R_drew));exact Kd.R_mono HO180.out (fun _ hk=>hk.2)),(by(with_reducible repeat (first|refine blk_drewN ?_ _|refine blk_drew ?_|refine blk_alloc ?_ _));exact BK167.out),(by(with_reducible repeat (first|refine blk_drewN ?_ _|refine blk_drew ?_|refine blk_alloc ?_ _));exact BK168.out),(by(with_reducible repeat (first|refine blk_drewN ?_ _|refine blk_drew ?_|refine blk_alloc ?_ _));exact BK181.out),GW181.out,GE181.out,NB167_181.out,NB181_167.out,NB168_181.out,NB181_168.out,(by repeat (first|(with_reducible first|exact HB.out|apply below_alloc|apply pw_below_drewN|apply below_drew1|refine below_set ?_ GE167.out|refine below_set ?_ GE168.out|refine below_set ?_ GE181.out)|exact HB.out))⟩)
    · skip
      rintro ⟨v170,v173,v176,v179⟩ w17 ⟨hS_,h0_,h1_,h2_,h3_,h4_,h5_,h6_⟩
      have n0_ : Aside0 (Kd.S (Kd.slice 5 (Kd.int .u8)) 22 w17 w.heap.size (fun _=>True) v170 t169):=⟨h0_⟩
      have n1_ : Aside0 (Kd.R (Kd.int .i64) 3 w17 w.heap.size (fun k_=>some k_ ≠ (v179 : Value).ownBlock) v173 t172):=⟨h1_⟩
      have n2_ : Aside0 (Kd.R Kd.bool 4 w17 w.heap.size (fun _=>True) v176 t175):=⟨h2_⟩
      have n3_ : Aside0 (Kd.R (Kd.int .i64) 3 w17 w.heap.size (fun k_=>some k_ ≠ (v173 : Value).ownBlock) v179 t178):=⟨h3_⟩
      have n4_ : Aside0 (w17.heap[gb167]? = some (.cells #[.int .i64 a0_0,.int .i64 a0_1,.int .i64 a0_2,.int .i64 a0_3,.int .i64 a0_4,.slice A0_5 l0_5.length c0_5,.int .i64 a0_6,.slice A0_7 l0_7.length c0_7,.slice A0_8 l0_8.length c0_8,.bool a0_9,.slice A0_10 l0_10.length c0_10,.int .i64 a0_11,.int .i64 a0_12,.slice A0_13 l0_13.length c0_13] 44 (0,0))):=⟨h4_⟩
      have n5_ : Aside0 (w17.heap[gb168]? = some (.cells #[.int .i64 0,.int .i64 0,.int .i64 0,.int .i64 0,.int .i64 0,.slice none 0 0,.int .i64 0,.slice none 0 0,.slice none 0 0,.bool false,.slice none 0 0,.int .i64 0,.int .i64 0,.slice none 0 0] 29 (0,0))):=⟨h5_⟩
      have n6_ : Aside0 (Below w.heap.size w w17):=⟨h6_⟩
      clear BK167
      clear BK168
      clear HB
      clear h0_ h1_ h2_ h3_ h4_ h5_ h6_
      have HO171:=n0_
      have HO174:=n1_
      have HO177:=n2_
      have HO180:=n3_
      have BK167:=n4_
      have BK168:=n5_
      have HB:=n6_
      clear n0_ n1_ n2_ n3_ n4_ n5_ n6_
      have hHeld : w17.cell? ⟨gb167,0,none⟩ = some (.int .i64 a0_0)∧w17.cell? ⟨gb167,1,none⟩ = some (.int .i64 a0_1)∧w17.cell? ⟨gb167,2,none⟩ = some (.int .i64 a0_2)∧w17.cell? ⟨gb167,3,none⟩ = some (.int .i64 a0_3)∧w17.cell? ⟨gb167,4,none⟩ = some (.int .i64 a0_4)∧w17.cell? ⟨gb167,5,none⟩ = some (.slice A0_5 l0_5.length c0_5)∧w17.cell? ⟨gb167,6,none⟩ = some (.int .i64 a0_6)∧w17.cell? ⟨gb167,7,none⟩ = some (.slice A0_7 l0_7.length c0_7)∧w17.cell? ⟨gb167,8,none⟩ = some (.slice A0_8 l0_8.length c0_8)∧w17.cell? ⟨gb167,9,none⟩ = some (.bool a0_9)∧w17.cell? ⟨gb167,10,none⟩ = some (.slice A0_10 l0_10.length c0_10)∧w17.cell? ⟨gb167,11,none⟩ = some (.int .i64 a0_11)∧w17.cell? ⟨gb167,12,none⟩ = some (.int .i64 a0_12)∧w17.cell? ⟨gb167,13,none⟩ = some (.slice A0_13 l0_13.length c0_13):=hS_
      obtain ⟨Ao18,co18,eo18⟩:=Kd.R_slice HO180.out
      (first|subst eo18|(injection eo18 with f1_ f2_ f3_;have f4_:=f1_.symm;have f5_:=f3_.symm;clear f1_ f2_ f3_;subst f4_;subst f5_))
      obtain ⟨Ao19,co19,eo19⟩:=Kd.R_slice HO177.out
      (first|subst eo19|(injection eo19 with f1_ f2_ f3_;have f4_:=f1_.symm;have f5_:=f3_.symm;clear f1_ f2_ f3_;subst f4_;subst f5_))
      obtain ⟨Ao20,co20,eo20⟩:=Kd.R_slice HO174.out
      (first|subst eo20|(injection eo20 with f1_ f2_ f3_;have f4_:=f1_.symm;have f5_:=f3_.symm;clear f1_ f2_ f3_;subst f4_;subst f5_))
      obtain ⟨Ao21,co21,eo21⟩:=Kd.S_slice HO171.out
      (first|subst eo21|(injection eo21 with f1_ f2_ f3_;have f4_:=f1_.symm;have f5_:=f3_.symm;clear f1_ f2_ f3_;subst f4_;subst f5_))
      refine norm_ (a':=?_) ?_ ?_
      rotate_left
      · simp only [putAll,Act.put,List.setIfInBounds_toArray,List.set_cons_zero,List.set_cons_succ]
        rfl
      refine one_ (i:=31) (N:=some 3) #[true,true,true,true,true,true,true,true,true,true,true,true,true,true,true,true,true,true,true,true,true,true,true,true,true,true,true,true,true,true,true,true,false] rfl rfl (one_of HT_.out (by kernel_rfl)) (by decide) (fun K hK=>?_)
      refine box_step ?hg (N:=3) ?hd (cs:=#[.int .i64 0,.int .i64 0,.int .i64 0,.int .i64 0,.int .i64 0,.slice none 0 0,.int .i64 0,.slice none 0 0,.slice none 0 0,.bool false,.slice none 0 0,.int .i64 0,.int .i64 0,.slice none 0 0]) (t:=29) ?hr ?_;(case hd=>rfl);(case hg=>rfl);(case hr=>first|(go_simp;done)|(go_simp;rfl))
      intro gb181 hg w22 hbox hb
      have n0_:=Aside0.mk (Kd.S_below (by(with_reducible repeat (first|apply Kd.S_alloc|apply Kd.S_drewN|apply Kd.S_drew));exact HO171.out) hb)
      have n1_:=Aside0.mk (Kd.R_below (by(with_reducible repeat (first|apply Kd.R_alloc|apply Kd.R_drewN|apply Kd.R_drew));exact HO174.out) hb)
      have n2_:=Aside0.mk (Kd.R_below (by(with_reducible repeat (first|apply Kd.R_alloc|apply Kd.R_drewN|apply Kd.R_drew));exact HO177.out) hb)
      have n3_:=Aside0.mk (Kd.R_below (by(with_reducible repeat (first|apply Kd.R_alloc|apply Kd.R_drewN|apply Kd.R_drew));exact HO180.out) hb)
      have n4_:=Aside0.mk (blk_below (g:=gb167) (o:=.cells #[.int .i64 a0_0,.int .i64 a0_1,.int .i64 a0_2,.int .i64 a0_3,.int .i64 a0_4,.slice A0_5 l0_5.length c0_5,.int .i64 a0_6,.slice A0_7 l0_7.length c0_7,.slice A0_8 l0_8.length c0_8,.bool a0_9,.slice A0_10 l0_10.length c0_10,.int .i64 a0_11,.int .i64 a0_12,.slice A0_13 l0_13.length c0_13] 44 (0,0)) (by(with_reducible repeat (first|refine blk_drewN ?_ _|refine blk_drew ?_|refine blk_alloc ?_ _));exact BK167.out) hb)
      have n5_:=Aside0.mk (blk_below (g:=gb168) (o:=.cells #[.int .i64 0,.int .i64 0,.int .i64 0,.int .i64 0,.int .i64 0,.slice none 0 0,.int .i64 0,.slice none 0 0,.slice none 0 0,.bool false,.slice none 0 0,.int .i64 0,.int .i64 0,.slice none 0 0] 29 (0,0)) (by(with_reducible repeat (first|refine blk_drewN ?_ _|refine blk_drew ?_|refine blk_alloc ?_ _));exact BK168.out) hb)
      have n6_:=Aside0.mk (below_step (by repeat (first|(with_reducible first|exact HB.out|apply below_alloc|apply pw_below_drewN|apply below_drew1|refine below_set ?_ GE167.out|refine below_set ?_ GE168.out)|exact HB.out)) hb)
      have n7_:=Aside0.mk (hbox)
      have n8_:=Aside0.mk ((by rw [hg];exact(below_size (by repeat (first|(with_reducible first|exact HB.out|apply below_alloc|apply pw_below_drewN|apply below_drew1|refine below_set ?_ GE167.out|refine below_set ?_ GE168.out)|exact HB.out))) : w.heap.size ≤ gb181))
      have n9_:=Aside0.mk ((by rw [hg];exact(below_size (by repeat (first|(with_reducible first|exact HB.out|apply below_alloc|apply pw_below_drewN|apply below_drew1|refine below_set ?_ GE167.out|refine below_set ?_ GE168.out)|exact HB.out))) : w.heap.size ≤ gb181))
      have n10_:=Aside0.mk ((by rw [hg];exact Nat.ne_of_lt (blk_lt (g:=gb167) (o:=.cells #[.int .i64 a0_0,.int .i64 a0_1,.int .i64 a0_2,.int .i64 a0_3,.int .i64 a0_4,.slice A0_5 l0_5.length c0_5,.int .i64 a0_6,.slice A0_7 l0_7.length c0_7,.slice A0_8 l0_8.length c0_8,.bool a0_9,.slice A0_10 l0_10.length c0_10,.int .i64 a0_11,.int .i64 a0_12,.slice A0_13 l0_13.length c0_13] 44 (0,0)) (by(with_reducible repeat (first|refine blk_drewN ?_ _|refine blk_drew ?_|refine blk_alloc ?_ _));exact BK167.out)) : gb167 ≠ gb181))
      have n11_:=Aside0.mk ((by rw [hg];exact Nat.ne_of_gt (blk_lt (g:=gb167) (o:=.cells #[.int .i64 a0_0,.int .i64 a0_1,.int .i64 a0_2,.int .i64 a0_3,.int .i64 a0_4,.slice A0_5 l0_5.length c0_5,.int .i64 a0_6,.slice A0_7 l0_7.length c0_7,.slice A0_8 l0_8.length c0_8,.bool a0_9,.slice A0_10 l0_10.length c0_10,.int .i64 a0_11,.int .i64 a0_12,.slice A0_13 l0_13.length c0_13] 44 (0,0)) (by(with_reducible repeat (first|refine blk_drewN ?_ _|refine blk_drew ?_|refine blk_alloc ?_ _));exact BK167.out)) : gb181 ≠ gb167))
      have n12_:=Aside0.mk ((by rw [hg];exact Nat.ne_of_lt (blk_lt (g:=gb168) (o:=.cells #[.int .i64 0,.int .i64 0,.int .i64 0,.int .i64 0,.int .i64 0,.slice none 0 0,.int .i64 0,.slice none 0 0,.slice none 0 0,.bool false,.slice none 0 0,.int .i64 0,.int .i64 0,.slice none 0 0] 29 (0,0)) (by(with_reducible repeat (first|refine blk_drewN ?_ _|refine blk_drew ?_|refine blk_alloc ?_ _));exact BK168.out)) : gb168 ≠ gb181))
      have n13_:=Aside0.mk ((by rw [hg];exact Nat.ne_of_gt (blk_lt (g:=gb168) (o:=.cells #[.int .i64 0,.int .i64 0,.int .i64 0,.int .i64 0,.int .i64 0,.slice none 0 0,.int .i64 0,.slice none 0 0,.slice none 0 0,.bool false,.slice none 0 0,.int .i64 0,.int .i64 0,.slice none 0 0] 29 (0,0)) (by(with_reducible repeat (first|refine blk_drewN ?_ _|refine blk_drew ?_|refine blk_alloc ?_ _));exact BK168.out)) : gb181 ≠ gb168))
      clear HO171
      clear HO174
      clear HO177
      clear HO180
      clear BK167
      clear BK168
      clear HB
      have HO171:=n0_
      have HO174:=n1_
      have HO177:=n2_
      have HO180:=n3_
      have BK167:=n4_
      have BK168:=n5_
      have HB:=n6_
      have BK181:=n7_
      have GW181:=n8_
      have GE181:=n9_
      have NB167_181:=n10_
      have NB181_167:=n11_
      have NB168_181:=n12_
      have NB181_168:=n13_
      clear n0_ n1_ n2_ n3_ n4_ n5_ n6_ n7_ n8_ n9_ n10_ n11_ n12_ n13_
      clear hb hbox hg
      refine hK.out _ _ ⟨(blk_cell BK167.out 0).trans rfl,(blk_cell BK167.out 1).trans rfl,(blk_cell BK167.out 2).trans rfl,(blk_cell BK167.out 3).trans rfl,(blk_cell BK167.out 4).trans rfl,(blk_cell BK167.out 5).trans rfl,(blk_cell BK167.out 6).trans rfl,(blk_cell BK167.out 7).trans rfl,(blk_cell BK167.out 8).trans rfl,(blk_cell BK167.out 9).trans rfl,(blk_cell BK167.out 10).trans rfl,(blk_cell BK167.out 11).trans rfl,(blk_cell BK167.out 12).trans rfl,(blk_cell BK167.out 13).trans rfl⟩ (fun hHeld=>?_)
      clear hK K
      refine norm_ (a':=?_) ?_ ?_
      rotate_left
      · show Act.put _ (some 3) _ = _
        simp only [Act.put,List.setIfInBounds_toArray,List.set_cons_zero,List.set_cons_succ,i64_w,i32_w]
        rfl
      exact norm_ (by first|(simp only [putAll,Act.put,List.setIfInBounds_toArray,List.set_cons_zero,List.set_cons_succ];done)|(simp only [putAll,Act.put,List.setIfInBounds_toArray,List.set_cons_zero,List.set_cons_succ];rfl)) (hJ12_17_20_29_31 (.slice Ao21 t169.length co21,.slice Ao20 t172.length co20,.slice Ao19 t175.length co19,.slice Ao18 t178.length co18,gb181) _ ⟨hHeld,(by(with_reducible repeat (first|apply Kd.S_alloc|apply Kd.S_drewN|apply Kd.S_drew));exact HO171.out),(by(with_reducible repeat (first|apply Kd.R_alloc|apply Kd.R_drewN|apply Kd.R_drew));exact HO174.out),(by(with_reducible repeat (first|apply Kd.R_alloc|apply Kd.R_drewN|apply Kd.R_drew));exact HO177.out),(by(with_reducible repeat (first|apply Kd.R_alloc|apply Kd.R_drewN|apply Kd.R_drew));exact HO180.out),(by(with_reducible repeat (first|refine blk_drewN ?_ _|refine blk_drew ?_|refine blk_alloc ?_ _));exact BK167.out),(by(with_reducible repeat (first|refine blk_drewN ?_ _|refine blk_drew ?_|refine blk_alloc ?_ _));exact BK168.out),(by(with_reducible repeat (first|refine blk_drewN ?_ _|refine blk_drew ?_|refine blk_alloc ?_ _));exact BK181.out),GW181.out,GE181.out,NB167_181.out,NB181_167.out,NB168_181.out,NB181_168.out,(by repeat (first|(with_reducible first|exact HB.out|apply below_alloc|apply pw_below_drewN|apply below_drew1|refine below_set ?_ GE167.out|refine below_set ?_ GE168.out|refine below_set ?_ GE181.out)|exact HB.out))⟩)
  rintro ⟨v170,v173,v176,v179,gb181⟩ w18 ⟨hS_,h0_,h1_,h2_,h3_,h4_,h5_,h6_,h7_,h8_,h9_,h10_,h11_,h12_,h13_⟩
  have n0_ : Aside0 (Kd.S (Kd.slice 5 (Kd.int .u8)) 22 w18 w.heap.size (fun _=>True) v170 t169):=⟨h0_⟩
  have n1_ : Aside0 (Kd.R (Kd.int .i64) 3 w18 w.heap.size (fun k_=>some k_ ≠ (v179 : Value).ownBlock) v173 t172):=⟨h1_⟩
  have n2_ : Aside0 (Kd.R Kd.bool 4 w18 w.heap.size (fun _=>True) v176 t175):=⟨h2_⟩
  have n3_ : Aside0 (Kd.R (Kd.int .i64) 3 w18 w.heap.size (fun k_=>some k_ ≠ (v173 : Value).ownBlock) v179 t178):=⟨h3_⟩
  have n4_ : Aside0 (w18.heap[gb167]? = some (.cells #[.int .i64 a0_0,.int .i64 a0_1,.int .i64 a0_2,.int .i64 a0_3,.int .i64 a0_4,.slice A0_5 l0_5.length c0_5,.int .i64 a0_6,.slice A0_7 l0_7.length c0_7,.slice A0_8 l0_8.length c0_8,.bool a0_9,.slice A0_10 l0_10.length c0_10,.int .i64 a0_11,.int .i64 a0_12,.slice A0_13 l0_13.length c0_13] 44 (0,0))):=⟨h4_⟩
  have n5_ : Aside0 (w18.heap[gb168]? = some (.cells #[.int .i64 0,.int .i64 0,.int .i64 0,.int .i64 0,.int .i64 0,.slice none 0 0,.int .i64 0,.slice none 0 0,.slice none 0 0,.bool false,.slice none 0 0,.int .i64 0,.int .i64 0,.slice none 0 0] 29 (0,0))):=⟨h5_⟩
  have n6_ : Aside0 (w18.heap[gb181]? = some (.cells #[.int .i64 0,.int .i64 0,.int .i64 0,.int .i64 0,.int .i64 0,.slice none 0 0,.int .i64 0,.slice none 0 0,.slice none 0 0,.bool false,.slice none 0 0,.int .i64 0,.int .i64 0,.slice none 0 0] 29 (0,0))):=⟨h6_⟩
  have n7_ : Aside0 (w.heap.size ≤ gb181):=⟨h7_⟩
  have n8_ : Aside0 (w.heap.size ≤ gb181):=⟨h8_⟩
  have n9_ : Aside0 (gb167 ≠ gb181):=⟨h9_⟩
  have n10_ : Aside0 (gb181 ≠ gb167):=⟨h10_⟩
  have n11_ : Aside0 (gb168 ≠ gb181):=⟨h11_⟩
  have n12_ : Aside0 (gb181 ≠ gb168):=⟨h12_⟩
  have n13_ : Aside0 (Below w.heap.size w w18):=⟨h13_⟩
  clear BK167
  clear BK168
  clear HB
  clear h0_ h1_ h2_ h3_ h4_ h5_ h6_ h7_ h8_ h9_ h10_ h11_ h12_ h13_
  have HO171:=n0_
  have HO174:=n1_
  have HO177:=n2_
  have HO180:=n3_
  have BK167:=n4_
  have BK168:=n5_
  have BK181:=n6_
  have GW181:=n7_
  have GE181:=n8_
  have NB167_181:=n9_
  have NB181_167:=n10_
  have NB168_181:=n11_
  have NB181_168:=n12_
  have HB:=n13_
  clear n0_ n1_ n2_ n3_ n4_ n5_ n6_ n7_ n8_ n9_ n10_ n11_ n12_ n13_
  have hHeld : w18.cell? ⟨gb167,0,none⟩ = some (.int .i64 a0_0)∧w18.cell? ⟨gb167,1,none⟩ = some (.int .i64 a0_1)∧w18.cell? ⟨gb167,2,none⟩ = some (.int .i64 a0_2)∧w18.cell? ⟨gb167,3,none⟩ = some (.int .i64 a0_3)∧w18.cell? ⟨gb167,4,none⟩ = some (.int .i64 a0_4)∧w18.cell? ⟨gb167,5,none⟩ = some (.slice A0_5 l0_5.length c0_5)∧w18.cell? ⟨gb167,6,none⟩ = some (.int .i64 a0_6)∧w18.cell? ⟨gb167,7,none⟩ = some (.slice A0_7 l0_7.length c0_7)∧w18.cell? ⟨gb167,8,none⟩ = some (.slice A0_8 l0_8.length c0_8)∧w18.cell? ⟨gb167,9,none⟩ = some (.bool a0_9)∧w18.cell? ⟨gb167,10,none⟩ = some (.slice A0_10 l0_10.length c0_10)∧w18.cell? ⟨gb167,11,none⟩ = some (.int .i64 a0_11)∧w18.cell? ⟨gb167,12,none⟩ = some (.int .i64 a0_12)∧w18.cell? ⟨gb167,13,none⟩ = some (.slice A0_13 l0_13.length c0_13):=hS_
  obtain ⟨Ao19,co19,eo19⟩:=Kd.R_slice HO180.out
  (first|subst eo19|(injection eo19 with f1_ f2_ f3_;have f4_:=f1_.symm;have f5_:=f3_.symm;clear f1_ f2_ f3_;subst f4_;subst f5_))
  obtain ⟨Ao20,co20,eo20⟩:=Kd.R_slice HO177.out
  (first|subst eo20|(injection eo20 with f1_ f2_ f3_;have f4_:=f1_.symm;have f5_:=f3_.symm;clear f1_ f2_ f3_;subst f4_;subst f5_))
  obtain ⟨Ao21,co21,eo21⟩:=Kd.R_slice HO174.out
  (first|subst eo21|(injection eo21 with f1_ f2_ f3_;have f4_:=f1_.symm;have f5_:=f3_.symm;clear f1_ f2_ f3_;subst f4_;subst f5_))
  obtain ⟨Ao22,co22,eo22⟩:=Kd.S_slice HO171.out
  (first|subst eo22|(injection eo22 with f1_ f2_ f3_;have f4_:=f1_.symm;have f5_:=f3_.symm;clear f1_ f2_ f3_;subst f4_;subst f5_))
  refine norm_ (a':=?_) ?_ ?_
  rotate_left
  · simp only [putAll,Act.put,List.setIfInBounds_toArray,List.set_cons_zero,List.set_cons_succ]
    rfl
  refine one_ (i:=32) (N:=none) #[true,true,true,true,true,true,true,true,true,true,true,true,true,true,true,true,true,true,true,true,true,true,true,true,true,true,true,true,true,true,true,true,true] rfl rfl (one_of HT_.out (by kernel_rfl)) (by decide) (fun K hK=>?_)
  have hs23 : w18.cell? ⟨gb181,0,none⟩ = some (.int .i64 0):=(blk_cell BK181.out 0).trans rfl
  have hfs23:=blk_frozen BK181.out 0
  have hns23_0:=NB167_181.out
  have hns23_1:=NB168_181.out
  have hms23_0:=NB181_167.out
  have hms23_1:=NB181_168.out
  have hs24 : w18.cell? ⟨gb181,1,none⟩ = some (.int .i64 0):=(blk_cell BK181.out 1).trans rfl
  have hfs24:=blk_frozen BK181.out 1
  have hns24_0:=NB167_181.out
  have hns24_1:=NB168_181.out
  have hms24_0:=NB181_167.out
  have hms24_1:=NB181_168.out
  have hs25 : w18.cell? ⟨gb181,2,none⟩ = some (.int .i64 0):=(blk_cell BK181.out 2).trans rfl
  have hfs25:=blk_frozen BK181.out 2
  have hns25_0:=NB167_181.out
  have hns25_1:=NB168_181.out
  have hms25_0:=NB181_167.out
  have hms25_1:=NB181_168.out
  have hs26 : w18.cell? ⟨gb181,3,none⟩ = some (.int .i64 0):=(blk_cell BK181.out 3).trans rfl
  have hfs26:=blk_frozen BK181.out 3
  have hns26_0:=NB167_181.out
  have hns26_1:=NB168_181.out
  have hms26_0:=NB181_167.out
  have hms26_1:=NB181_168.out
  have hs27 : w18.cell? ⟨gb181,4,none⟩ = some (.int .i64 0):=(blk_cell BK181.out 4).trans rfl
  have hfs27:=blk_frozen BK181.out 4
  have hns27_0:=NB167_181.out
  have hns27_1:=NB168_181.out
  have hms27_0:=NB181_167.out
  have hms27_1:=NB181_168.out
  have hs28 : w18.cell? ⟨gb181,5,none⟩ = some (.slice none 0 0):=(blk_cell BK181.out 5).trans rfl
  have hfs28:=blk_frozen BK181.out 5
  have hns28_0:=NB167_181.out
  have hns28_1:=NB168_181.out
  have hms28_0:=NB181_167.out
  have hms28_1:=NB181_168.out
  have hs29 : w18.cell? ⟨gb181,6,none⟩ = some (.int .i64 0):=(blk_cell BK181.out 6).trans rfl
  have hfs29:=blk_frozen BK181.out 6
  have hns29_0:=NB167_181.out
  have hns29_1:=NB168_181.out
  have hms29_0:=NB181_167.out
  have hms29_1:=NB181_168.out
  have hs30 : w18.cell? ⟨gb181,7,none⟩ = some (.slice none 0 0):=(blk_cell BK181.out 7).trans rfl
  have hfs30:=blk_frozen BK181.out 7
  have hns30_0:=NB167_181.out
  have hns30_1:=NB168_181.out
  have hms30_0:=NB181_167.out
  have hms30_1:=NB181_168.out
  have hs31 : w18.cell? ⟨gb181,8,none⟩ = some (.slice none 0 0):=(blk_cell BK181.out 8).trans rfl
  have hfs31:=blk_frozen BK181.out 8
  have hns31_0:=NB167_181.out
  have hns31_1:=NB168_181.out
  have hms31_0:=NB181_167.out
  have hms31_1:=NB181_168.out
  have hs32 : w18.cell? ⟨gb181,9,none⟩ = some (.bool false):=(blk_cell BK181.out 9).trans rfl
  have hfs32:=blk_frozen BK181.out 9
  have hns32_0:=NB167_181.out
  have hns32_1:=NB168_181.out
  have hms32_0:=NB181_167.out
  have hms32_1:=NB181_168.out
  have hs33 : w18.cell? ⟨gb181,10,none⟩ = some (.slice none 0 0):=(blk_cell BK181.out 10).trans rfl
  have hfs33:=blk_frozen BK181.out 10
  have hns33_0:=NB167_181.out
  have hns33_1:=NB168_181.out
  have hms33_0:=NB181_167.out
  have hms33_1:=NB181_168.out
  have hs34 : w18.cell? ⟨gb181,11,none⟩ = some (.int .i64 0):=(blk_cell BK181.out 11).trans rfl
  have hfs34:=blk_frozen BK181.out 11
  have hns34_0:=NB167_181.out
  have hns34_1:=NB168_181.out
  have hms34_0:=NB181_167.out
  have hms34_1:=NB181_168.out
  have hs35 : w18.cell? ⟨gb181,12,none⟩ = some (.int .i64 0):=(blk_cell BK181.out 12).trans rfl
  have hfs35:=blk_frozen BK181.out 12
  have hns35_0:=NB167_181.out
  have hns35_1:=NB168_181.out
  have hms35_0:=NB181_167.out
  have hms35_1:=NB181_168.out
  have hs36 : w18.cell? ⟨gb181,13,none⟩ = some (.slice none 0 0):=(blk_cell BK181.out 13).trans rfl
  have hfs36:=blk_frozen BK181.out 13
  have hns36_0:=NB167_181.out
  have hns36_1:=NB168_181.out
  have hms36_0:=NB181_167.out
  have hms36_1:=NB181_168.out
  refine skip_ (w1:=?_) (by rfl) rfl ?_ ?_
  rotate_left
  · go_simp
    rfl
  refine hK.out _ _ ⟨((cell_far (p:=⟨gb181,_,none⟩) NB167_181.out _).trans (((cell_far (p:=⟨gb181,_,none⟩) NB167_181.out _).trans (((cell_far (p:=⟨gb181,_,none⟩) NB167_181.out _).trans (((cell_far (p:=⟨gb181,_,none⟩) NB167_181.out _).trans (((cell_far (p:=⟨gb181,_,none⟩) NB167_181.out _).trans (((cell_far (p:=⟨gb181,_,none⟩) NB167_181.out _).trans (((cell_far (p:=⟨gb181,_,none⟩) NB167_181.out _).trans (((cell_far (p:=⟨gb181,_,none⟩) NB167_181.out _).trans (((cell_far (p:=⟨gb181,_,none⟩) NB167_181.out _).trans (((cell_far (p:=⟨gb181,_,none⟩) NB167_181.out _).trans (((cell_far (p:=⟨gb181,_,none⟩) NB167_181.out _).trans (((cell_far (p:=⟨gb181,_,none⟩) NB167_181.out _).trans (((cell_far (p:=⟨gb181,_,none⟩) NB167_181.out _).trans (((cell_far (p:=⟨gb181,_,none⟩) NB167_181.out _).trans (hHeld.1)))))))))))))))))))))))))))),((cell_far (p:=⟨gb181,_,none⟩) NB167_181.out _).trans (((cell_far (p:=⟨gb181,_,none⟩) NB167_181.out _).trans (((cell_far (p:=⟨gb181,_,none⟩) NB167_181.out _).trans (((cell_far (p:=⟨gb181,_,none⟩) NB167_181.out _).trans (((cell_far (p:=⟨gb181,_,none⟩) NB167_181.out _).trans (((cell_far (p:=⟨gb181,_,none⟩) NB167_181.out _).trans (((cell_far (p:=⟨gb181,_,none⟩) NB167_181.out _).trans (((cell_far (p:=⟨gb181,_,none⟩) NB167_181.out _).trans (((cell_far (p:=⟨gb181,_,none⟩) NB167_181.out _).trans (((cell_far (p:=⟨gb181,_,none⟩) NB167_181.out _).trans (((cell_far (p:=⟨gb181,_,none⟩) NB167_181.out _).trans (((cell_far (p:=⟨gb181,_,none⟩) NB167_181.out _).trans (((cell_far (p:=⟨gb181,_,none⟩) NB167_181.out _).trans (((cell_far (p:=⟨gb181,_,none⟩) NB167_181.out _).trans (hHeld.2.1)))))))))))))))))))))))))))),((cell_far (p:=⟨gb181,_,none⟩) NB167_181.out _).trans (((cell_far (p:=⟨gb181,_,none⟩) NB167_181.out _).trans (((cell_far (p:=⟨gb181,_,none⟩) NB167_181.out _).trans (((cell_far (p:=⟨gb181,_,none⟩) NB167_181.out _).trans (((cell_far (p:=⟨gb181,_,none⟩) NB167_181.out _).trans (((cell_far (p:=⟨gb181,_,none⟩) NB167_181.out _).trans (((cell_far (p:=⟨gb181,_,none⟩) NB167_181.out _).trans (((cell_far (p:=⟨gb181,_,none⟩) NB167_181.out _).trans (((cell_far (p:=⟨gb181,_,none⟩) NB167_181.out _).trans (((cell_far (p:=⟨gb181,_,none⟩) NB167_181.out _).trans (((cell_far (p:=⟨gb181,_,none⟩) NB167_181.out _).trans (((cell_far (p:=⟨gb181,_,none⟩) NB167_181.out _).trans (((cell_far (p:=⟨gb181,_,none⟩) NB167_181.out _).trans (((cell_far (p:=⟨gb181,_,none⟩) NB167_181.out _).trans (hHeld.2.2.1)))))))))))))))))))))))))))),((cell_far (p:=⟨gb181,_,none⟩) NB167_181.out _).trans (((cell_far (p:=⟨gb181,_,none⟩) NB167_181.out _).trans (((cell_far (p:=⟨gb181,_,none⟩) NB167_181.out _).trans (((cell_far (p:=⟨gb181,_,none⟩) NB167_181.out _).trans (((cell_far (p:=⟨gb181,_,none⟩) NB167_181.out _).trans (((cell_far (p:=⟨gb181,_,none⟩) NB167_181.out _).trans (((cell_far (p:=⟨gb181,_,none⟩) NB167_181.out _).trans (((cell_far (p:=⟨gb181,_,none⟩) NB167_181.out _).trans (((cell_far (p:=⟨gb181,_,none⟩) NB167_181.out _).trans (((cell_far (p:=⟨gb181,_,none⟩) NB167_181.out _).trans (((cell_far (p:=⟨gb181,_,none⟩) NB167_181.out _).trans (((cell_far (p:=⟨gb181,_,none⟩) NB167_181.out _).trans (((cell_far (p:=⟨gb181,_,none⟩) NB167_181.out _).trans (((cell_far (p:=⟨gb181,_,none⟩) NB167_181.out _).trans (hHeld.2.2.2.1)))))))))))))))))))))))))))),((cell_far (p:=⟨gb181,_,none⟩) NB167_181.out _).trans (((cell_far (p:=⟨gb181,_,none⟩) NB167_181.out _).trans (((cell_far (p:=⟨gb181,_,none⟩) NB167_181.out _).trans (((cell_far (p:=⟨gb181,_,none⟩) NB167_181.out _).trans (((cell_far (p:=⟨gb181,_,none⟩) NB167_181.out _).trans (((cell_far (p:=⟨gb181,_,none⟩) NB167_181.out _).trans (((cell_far (p:=⟨gb181,_,none⟩) NB167_181.out _).trans (((cell_far (p:=⟨gb181,_,none⟩) NB167_181.out _).trans (((cell_far (p:=⟨gb181,_,none⟩) NB167_181.out _).trans (((cell_far (p:=⟨gb181,_,none⟩) NB167_181.out _).trans (((cell_far (p:=⟨gb181,_,none⟩) NB167_181.out _).trans (((cell_far (p:=⟨gb181,_,none⟩) NB167_181.out _).trans (((cell_far (p:=⟨gb181,_,none⟩) NB167_181.out _).trans (((cell_far (p:=⟨gb181,_,none⟩) NB167_181.out _).trans (hHeld.2.2.2.2.1)))))))))))))))))))))))))))),((cell_far (p:=⟨gb181,_,none⟩) NB167_181.out _).trans (((cell_far (p:=⟨gb181,_,none⟩) NB167_181.out _).trans (((cell_far (p:=⟨gb181,_,none⟩) NB167_181.out _).trans (((cell_far (p:=⟨gb181,_,none⟩) NB167_181.out _).trans (((cell_far (p:=⟨gb181,_,none⟩) NB167_181.out _).trans (((cell_far (p:=⟨gb181,_,none⟩) NB167_181.out _).trans (((cell_far (p:=⟨gb181,_,none⟩) NB167_181.out _).trans (((cell_far (p:=⟨gb181,_,none⟩) NB167_181.out _).trans (((cell_far (p:=⟨gb181,_,none⟩) NB167_181.out _).trans (((cell_far (p:=⟨gb181,_,none⟩) NB167_181.out _).trans (((cell_far (p:=⟨gb181,_,none⟩) NB167_181.out _).trans (((cell_far (p:=⟨gb181,_,none⟩) NB167_181.out _).trans (((cell_far (p:=⟨gb181,_,none⟩) NB167_181.out _).trans (((cell_far (p:=⟨gb181,_,none⟩) NB167_181.out _).trans (hHeld.2.2.2.2.2.1)))))))))))))))))))))))))))),((cell_far (p:=⟨gb181,_,none⟩) NB167_181.out _).trans (((cell_far (p:=⟨gb181,_,none⟩) NB167_181.out _).trans (((cell_far (p:=⟨gb181,_,none⟩) NB167_181.out _).trans (((cell_far (p:=⟨gb181,_,none⟩) NB167_181.out _).trans (((cell_far (p:=⟨gb181,_,none⟩) NB167_181.out _).trans (((cell_far (p:=⟨gb181,_,none⟩) NB167_181.out _).trans (((cell_far (p:=⟨gb181,_,none⟩) NB167_181.out _).trans (((cell_far (p:=⟨gb181,_,none⟩) NB167_181.out _).trans (((cell_far (p:=⟨gb181,_,none⟩) NB167_181.out _).trans (((cell_far (p:=⟨gb181,_,none⟩) NB167_181.out _).trans (((cell_far (p:=⟨gb181,_,none⟩) NB167_181.out _).trans (((cell_far (p:=⟨gb181,_,none⟩) NB167_181.out _).trans (((cell_far (p:=⟨gb181,_,none⟩) NB167_181.out _).trans (((cell_far (p:=⟨gb181,_,none⟩) NB167_181.out _).trans (hHeld.2.2.2.2.2.2.1)))))))))))))))))))))))))))),((cell_far (p:=⟨gb181,_,none⟩) NB167_181.out _).trans (((cell_far (p:=⟨gb181,_,none⟩) NB167_181.out _).trans (((cell_far (p:=⟨gb181,_,none⟩) NB167_181.out _).trans (((cell_far (p:=⟨gb181,_,none⟩) NB167_181.out _).trans (((cell_far (p:=⟨gb181,_,none⟩) NB167_181.out _).trans (((cell_far (p:=⟨gb181,_,none⟩) NB167_181.out _).trans (((cell_far (p:=⟨gb181,_,none⟩) NB167_181.out _).trans (((cell_far (p:=⟨gb181,_,none⟩) NB167_181.out _).trans (((cell_far (p:=⟨gb181,_,none⟩) NB167_181.out _).trans (((cell_far (p:=⟨gb181,_,none⟩) NB167_181.out _).trans (((cell_far (p:=⟨gb181,_,none⟩) NB167_181.out _).trans (((cell_far (p:=⟨gb181,_,none⟩) NB167_181.out _).trans (((cell_far (p:=⟨gb181,_,none⟩) NB167_181.out _).trans (((cell_far (p:=⟨gb181,_,none⟩) NB167_181.out _).trans (hHeld.2.2.2.2.2.2.2.1)))))))))))))))))))))))))))),((cell_far (p:=⟨gb181,_,none⟩) NB167_181.out _).trans (((cell_far (p:=⟨gb181,_,none⟩) NB167_181.out _).trans (((cell_far (p:=⟨gb181,_,none⟩) NB167_181.out _).trans (((cell_far (p:=⟨gb181,_,none⟩) NB167_181.out _).trans (((cell_far (p:=⟨gb181,_,none⟩) NB167_181.out _).trans (((cell_far (p:=⟨gb181,_,none⟩) NB167_181.out _).trans (((cell_far (p:=⟨gb181,_,none⟩) NB167_181.out _).trans (((cell_far (p:=⟨gb181,_,none⟩) NB167_181.out _).trans (((cell_far (p:=⟨gb181,_,none⟩) NB167_181.out _).trans (((cell_far (p:=⟨gb181,_,none⟩) NB167_181.out _).trans (((cell_far (p:=⟨gb181,_,none⟩) NB167_181.out _).trans (((cell_far (p:=⟨gb181,_,none⟩) NB167_181.out _).trans (((cell_far (p:=⟨gb181,_,none⟩) NB167_181.out _).trans (((cell_far (p:=⟨gb181,_,none⟩) NB167_181.out _).trans (hHeld.2.2.2.2.2.2.2.2.1)))))))))))))))))))))))))))),((cell_far (p:=⟨gb181,_,none⟩) NB167_181.out _).trans (((cell_far (p:=⟨gb181,_,none⟩) NB167_181.out _).trans (((cell_far (p:=⟨gb181,_,none⟩) NB167_181.out _).trans (((cell_far (p:=⟨gb181,_,none⟩) NB167_181.out _).trans (((cell_far (p:=⟨gb181,_,none⟩) NB167_181.out _).trans (((cell_far (p:=⟨gb181,_,none⟩) NB167_181.out _).trans (((cell_far (p:=⟨gb181,_,none⟩) NB167_181.out _).trans (((cell_far (p:=⟨gb181,_,none⟩) NB167_181.out _).trans (((cell_far (p:=⟨gb181,_,none⟩) NB167_181.out _).trans (((cell_far (p:=⟨gb181,_,none⟩) NB167_181.out _).trans (((cell_far (p:=⟨gb181,_,none⟩) NB167_181.out _).trans (((cell_far (p:=⟨gb181,_,none⟩) NB167_181.out _).trans (((cell_far (p:=⟨gb181,_,none⟩) NB167_181.out _).trans (((cell_far (p:=⟨gb181,_,none⟩) NB167_181.out _).trans (hHeld.2.2.2.2.2.2.2.2.2.1)))))))))))))))))))))))))))),((cell_far (p:=⟨gb181,_,none⟩) NB167_181.out _).trans (((cell_far (p:=⟨gb181,_,none⟩) NB167_181.out _).trans (((cell_far (p:=⟨gb181,_,none⟩) NB167_181.out _).trans (((cell_far (p:=⟨gb181,_,none⟩) NB167_181.out _).trans (((cell_far (p:=⟨gb181,_,none⟩) NB167_181.out _).trans (((cell_far (p:=⟨gb181,_,none⟩) NB167_181.out _).trans (((cell_far (p:=⟨gb181,_,none⟩) NB167_181.out _).trans (((cell_far (p:=⟨gb181,_,none⟩) NB167_181.out _).trans (((cell_far (p:=⟨gb181,_,none⟩) NB167_181.out _).trans (((cell_far (p:=⟨gb181,_,none⟩) NB167_181.out _).trans (((cell_far (p:=⟨gb181,_,none⟩) NB167_181.out _).trans (((cell_far (p:=⟨gb181,_,none⟩) NB167_181.out _).trans (((cell_far (p:=⟨gb181,_,none⟩) NB167_181.out _).trans (((cell_far (p:=⟨gb181,_,none⟩) NB167_181.out _).trans (hHeld.2.2.2.2.2.2.2.2.2.2.1)))))))))))))))))))))))))))),((cell_far (p:=⟨gb181,_,none⟩) NB167_181.out _).trans (((cell_far (p:=⟨gb181,_,none⟩) NB167_181.out _).trans (((cell_far (p:=⟨gb181,_,none⟩) NB167_181.out _).trans (((cell_far (p:=⟨gb181,_,none⟩) NB167_181.out _).trans (((cell_far (p:=⟨gb181,_,none⟩) NB167_181.out _).trans (((cell_far (p:=⟨gb181,_,none⟩) NB167_181.out _).trans (((cell_far (p:=⟨gb181,_,none⟩) NB167_181.out _).trans (((cell_far (p:=⟨gb181,_,none⟩) NB167_181.out _).trans (((cell_far (p:=⟨gb181,_,none⟩) NB167_181.out _).trans (((cell_far (p:=⟨gb181,_,none⟩) NB167_181.out _).trans (((cell_far (p:=⟨gb181,_,none⟩) NB167_181.out _).trans (((cell_far (p:=⟨gb181,_,none⟩) NB167_181.out _).trans (((cell_far (p:=⟨gb181,_,none⟩) NB167_181.out _).trans (((cell_far (p:=⟨gb181,_,none⟩) NB167_181.out _).trans (hHeld.2.2.2.2.2.2.2.2.2.2.2.1)))))))))))))))))))))))))))),((cell_far (p:=⟨gb181,_,none⟩) NB167_181.out _).trans (((cell_far (p:=⟨gb181,_,none⟩) NB167_181.out _).trans (((cell_far (p:=⟨gb181,_,none⟩) NB167_181.out _).trans (((cell_far (p:=⟨gb181,_,none⟩) NB167_181.out _).trans (((cell_far (p:=⟨gb181,_,none⟩) NB167_181.out _).trans (((cell_far (p:=⟨gb181,_,none⟩) NB167_181.out _).trans (((cell_far (p:=⟨gb181,_,none⟩) NB167_181.out _).trans (((cell_far (p:=⟨gb181,_,none⟩) NB167_181.out _).trans (((cell_far (p:=⟨gb181,_,none⟩) NB167_181.out _).trans (((cell_far (p:=⟨gb181,_,none⟩) NB167_181.out _).trans (((cell_far (p:=⟨gb181,_,none⟩) NB167_181.out _).trans (((cell_far (p:=⟨gb181,_,none⟩) NB167_181.out _).trans (((cell_far (p:=⟨gb181,_,none⟩) NB167_181.out _).trans (((cell_far (p:=⟨gb181,_,none⟩) NB167_181.out _).trans (hHeld.2.2.2.2.2.2.2.2.2.2.2.2.1)))))))))))))))))))))))))))),((cell_far (p:=⟨gb181,_,none⟩) NB167_181.out _).trans (((cell_far (p:=⟨gb181,_,none⟩) NB167_181.out _).trans (((cell_far (p:=⟨gb181,_,none⟩) NB167_181.out _).trans (((cell_far (p:=⟨gb181,_,none⟩) NB167_181.out _).trans (((cell_far (p:=⟨gb181,_,none⟩) NB167_181.out _).trans (((cell_far (p:=⟨gb181,_,none⟩) NB167_181.out _).trans (((cell_far (p:=⟨gb181,_,none⟩) NB167_181.out _).trans (((cell_far (p:=⟨gb181,_,none⟩) NB167_181.out _).trans (((cell_far (p:=⟨gb181,_,none⟩) NB167_181.out _).trans (((cell_far (p:=⟨gb181,_,none⟩) NB167_181.out _).trans (((cell_far (p:=⟨gb181,_,none⟩) NB167_181.out _).trans (((cell_far (p:=⟨gb181,_,none⟩) NB167_181.out _).trans (((cell_far (p:=⟨gb181,_,none⟩) NB167_181.out _).trans (((cell_far (p:=⟨gb181,_,none⟩) NB167_181.out _).trans (hHeld.2.2.2.2.2.2.2.2.2.2.2.2.2))))))))))))))))))))))))))))⟩ (fun hHeld=>?_)
  clear hK K
  refine done_ (done_of HT_.out (by kernel_rfl)) ?_
  try go_wp2
  go_loopg [4] k (fun kq v4 w'=>∃ (x4_1 : Int) (x182010_1 : List (S69)) (u182010 : Value),v4 = .int .i64 x4_1∧Aside0 (undercroftlaw19_Of.l0 kq x4_1 a0_0 a0_1 a0_2 a0_3 a0_4 l0_5 a0_6 l0_7 l0_8 a0_9 l0_10 a0_11 a0_12 l0_13 a0_0 a0_1 a0_2 a0_3 a0_4 t169 a0_6 t172 t175 a0_9 x182010_1 a0_11 a0_12 t178 = some (r1,r2,r3,r4,r5,r6,r7,r8,r9,r10,r11,r12,r13,r14))∧Aside0 (kq ≤ k)∧Aside0 (Kd.S (Kd.slice 5 (Kd.int .u8)) 22 w' w.heap.size (fun _=>True) (.slice Ao22 t169.length co22) t169)∧Aside0 (Kd.R (Kd.int .i64) 3 w' w.heap.size (fun k_=>some k_ ≠ ((.slice Ao19 t178.length co19) : Value).ownBlock) (.slice Ao21 t172.length co21) t172)∧Aside0 (Kd.R Kd.bool 4 w' w.heap.size (fun _=>True) (.slice Ao20 t175.length co20) t175)∧Aside0 (Kd.R k69 69 w' w.heap.size (fun k_=>some k_ ≠ ((.slice Ao22 t169.length co22) : Value).ownBlock) u182010 x182010_1)∧Aside0 (Kd.R (Kd.int .i64) 3 w' w.heap.size (fun k_=>some k_ ≠ ((.slice Ao21 t172.length co21) : Value).ownBlock) (.slice Ao19 t178.length co19) t178)∧Aside0 (w'.heap[gb167]? = some (.cells #[.int .i64 a0_0,.int .i64 a0_1,.int .i64 a0_2,.int .i64 a0_3,.int .i64 a0_4,(.slice A0_5 l0_5.length c0_5),.int .i64 a0_6,(.slice A0_7 l0_7.length c0_7),(.slice A0_8 l0_8.length c0_8),.bool a0_9,(.slice A0_10 l0_10.length c0_10),.int .i64 a0_11,.int .i64 a0_12,(.slice A0_13 l0_13.length c0_13)] 44 (0,0)))∧Aside0 (w'.heap[gb168]? = some (.cells #[.int .i64 0,.int .i64 0,.int .i64 0,.int .i64 0,.int .i64 0,(.slice none 0 0),.int .i64 0,(.slice none 0 0),(.slice none 0 0),.bool false,(.slice none 0 0),.int .i64 0,.int .i64 0,(.slice none 0 0)] 29 (0,0)))∧Aside0 (w'.heap[gb181]? = some (.cells #[.int .i64 a0_0,.int .i64 a0_1,.int .i64 a0_2,.int .i64 a0_3,.int .i64 a0_4,(.slice Ao22 t169.length co22),.int .i64 a0_6,(.slice Ao21 t172.length co21),(.slice Ao20 t175.length co20),.bool a0_9,u182010,.int .i64 a0_11,.int .i64 a0_12,(.slice Ao19 t178.length co19)] 29 (0,0)))∧Aside0 (Below w.heap.size w w'))
  case atStart=>exact⟨(0),(([] : List (S69))),(.slice none 0 0),(by first|rfl|(simp;done)|(simp [*];done)),H',⟨Nat.le_refl _⟩,⟨by(with_reducible repeat (first|apply Kd.S_alloc|apply Kd.S_drewN|apply Kd.S_drew));exact Kd.S_mono (Kd.S_far (p:=⟨gb181,13,none⟩) (Kd.S_far (p:=⟨gb181,12,none⟩) (Kd.S_far (p:=⟨gb181,11,none⟩) (Kd.S_far (p:=⟨gb181,10,none⟩) (Kd.S_far (p:=⟨gb181,9,none⟩) (Kd.S_far (p:=⟨gb181,8,none⟩) (Kd.S_far (p:=⟨gb181,7,none⟩) (Kd.S_far (p:=⟨gb181,6,none⟩) (Kd.S_far (p:=⟨gb181,5,none⟩) (Kd.S_far (p:=⟨gb181,4,none⟩) (Kd.S_far (p:=⟨gb181,3,none⟩) (Kd.S_far (p:=⟨gb181,2,none⟩) (Kd.S_far (p:=⟨gb181,1,none⟩) (Kd.S_far (p:=⟨gb181,0,none⟩) (Kd.S_types HO171.out BK181.out (by decide)) (fun _ hk=>hk.2) (.int .i64 a0_0)) (fun _ hk=>hk.2) (.int .i64 a0_1)) (fun _ hk=>hk.2) (.int .i64 a0_2)) (fun _ hk=>hk.2) (.int .i64 a0_3)) (fun _ hk=>hk.2) (.int .i64 a0_4)) (fun _ hk=>hk.2) (.slice Ao22 t169.length co22)) (fun _ hk=>hk.2) (.int .i64 a0_6)) (fun _ hk=>hk.2) (.slice Ao21 t172.length co21)) (fun _ hk=>hk.2) (.slice Ao20 t175.length co20)) (fun _ hk=>hk.2) (.bool a0_9)) (fun _ hk=>hk.2) (.slice none 0 0)) (fun _ hk=>hk.2) (.int .i64 a0_11)) (fun _ hk=>hk.2) (.int .i64 a0_12)) (fun _ hk=>hk.2) (.slice Ao19 t178.length co19)) (fun _ hk=>trivial)⟩,⟨by(with_reducible repeat (first|apply Kd.R_alloc|apply Kd.R_drewN|apply Kd.R_drew));exact Kd.R_mono (Kd.R_far (p:=⟨gb181,13,none⟩) (Kd.R_far (p:=⟨gb181,12,none⟩) (Kd.R_far (p:=⟨gb181,11,none⟩) (Kd.R_far (p:=⟨gb181,10,none⟩) (Kd.R_far (p:=⟨gb181,9,none⟩) (Kd.R_far (p:=⟨gb181,8,none⟩) (Kd.R_far (p:=⟨gb181,7,none⟩) (Kd.R_far (p:=⟨gb181,6,none⟩) (Kd.R_far (p:=⟨gb181,5,none⟩) (Kd.R_far (p:=⟨gb181,4,none⟩) (Kd.R_far (p:=⟨gb181,3,none⟩) (Kd.R_far (p:=⟨gb181,2,none⟩) (Kd.R_far (p:=⟨gb181,1,none⟩) (Kd.R_far (p:=⟨gb181,0,none⟩) (Kd.R_types HO174.out BK181.out (by decide)) (fun _ hk=>hk.2) (.int .i64 a0_0)) (fun _ hk=>hk.2) (.int .i64 a0_1)) (fun _ hk=>hk.2) (.int .i64 a0_2)) (fun _ hk=>hk.2) (.int .i64 a0_3)) (fun _ hk=>hk.2) (.int .i64 a0_4)) (fun _ hk=>hk.2) (.slice Ao22 t169.length co22)) (fun _ hk=>hk.2) (.int .i64 a0_6)) (fun _ hk=>hk.2) (.slice Ao21 t172.length co21)) (fun _ hk=>hk.2) (.slice Ao20 t175.length co20)) (fun _ hk=>hk.2) (.bool a0_9)) (fun _ hk=>hk.2) (.slice none 0 0)) (fun _ hk=>hk.2) (.int .i64 a0_11)) (fun _ hk=>hk.2) (.int .i64 a0_12)) (fun _ hk=>hk.2) (.slice Ao19 t178.length co19)) (fun _ hk=>hk.1)⟩,⟨by(with_reducible repeat (first|apply Kd.R_alloc|apply Kd.R_drewN|apply Kd.R_drew));exact Kd.R_mono (Kd.R_far (p:=⟨gb181,13,none⟩) (Kd.R_far (p:=⟨gb181,12,none⟩) (Kd.R_far (p:=⟨gb181,11,none⟩) (Kd.R_far (p:=⟨gb181,10,none⟩) (Kd.R_far (p:=⟨gb181,9,none⟩) (Kd.R_far (p:=⟨gb181,8,none⟩) (Kd.R_far (p:=⟨gb181,7,none⟩) (Kd.R_far (p:=⟨gb181,6,none⟩) (Kd.R_far (p:=⟨gb181,5,none⟩) (Kd.R_far (p:=⟨gb181,4,none⟩) (Kd.R_far (p:=⟨gb181,3,none⟩) (Kd.R_far (p:=⟨gb181,2,none⟩) (Kd.R_far (p:=⟨gb181,1,none⟩) (Kd.R_far (p:=⟨gb181,0,none⟩) (Kd.R_types HO177.out BK181.out (by decide)) (fun _ hk=>hk.2) (.int .i64 a0_0)) (fun _ hk=>hk.2) (.int .i64 a0_1)) (fun _ hk=>hk.2) (.int .i64 a0_2)) (fun _ hk=>hk.2) (.int .i64 a0_3)) (fun _ hk=>hk.2) (.int .i64 a0_4)) (fun _ hk=>hk.2) (.slice Ao22 t169.length co22)) (fun _ hk=>hk.2) (.int .i64 a0_6)) (fun _ hk=>hk.2) (.slice Ao21 t172.length co21)) (fun _ hk=>hk.2) (.slice Ao20 t175.length co20)) (fun _ hk=>hk.2) (.bool a0_9)) (fun _ hk=>hk.2) (.slice none 0 0)) (fun _ hk=>hk.2) (.int .i64 a0_11)) (fun _ hk=>hk.2) (.int .i64 a0_12)) (fun _ hk=>hk.2) (.slice Ao19 t178.length co19)) (fun _ hk=>trivial)⟩,⟨by first|exact Kd.R_nil _ _ _ _ _|exact Kd.N_nil _ _ _ _ _|exact Kd.V_nil _ _ _ _ _|exact Kd.Q_nil _ _ _ _ _|exact Kd.S_nil _ _ _ _ _⟩,⟨by(with_reducible repeat (first|apply Kd.R_alloc|apply Kd.R_drewN|apply Kd.R_drew));exact Kd.R_mono (Kd.R_far (p:=⟨gb181,13,none⟩) (Kd.R_far (p:=⟨gb181,12,none⟩) (Kd.R_far (p:=⟨gb181,11,none⟩) (Kd.R_far (p:=⟨gb181,10,none⟩) (Kd.R_far (p:=⟨gb181,9,none⟩) (Kd.R_far (p:=⟨gb181,8,none⟩) (Kd.R_far (p:=⟨gb181,7,none⟩) (Kd.R_far (p:=⟨gb181,6,none⟩) (Kd.R_far (p:=⟨gb181,5,none⟩) (Kd.R_far (p:=⟨gb181,4,none⟩) (Kd.R_far (p:=⟨gb181,3,none⟩) (Kd.R_far (p:=⟨gb181,2,none⟩) (Kd.R_far (p:=⟨gb181,1,none⟩) (Kd.R_far (p:=⟨gb181,0,none⟩) (Kd.R_types HO180.out BK181.out (by decide)) (fun _ hk=>hk.2) (.int .i64 a0_0)) (fun _ hk=>hk.2) (.int .i64 a0_1)) (fun _ hk=>hk.2) (.int .i64 a0_2)) (fun _ hk=>hk.2) (.int .i64 a0_3)) (fun _ hk=>hk.2) (.int .i64 a0_4)) (fun _ hk=>hk.2) (.slice Ao22 t169.length co22)) (fun _ hk=>hk.2) (.int .i64 a0_6)) (fun _ hk=>hk.2) (.slice Ao21 t172.length co21)) (fun _ hk=>hk.2) (.slice Ao20 t175.length co20)) (fun _ hk=>hk.2) (.bool a0_9)) (fun _ hk=>hk.2) (.slice none 0 0)) (fun _ hk=>hk.2) (.int .i64 a0_11)) (fun _ hk=>hk.2) (.int .i64 a0_12)) (fun _ hk=>hk.2) (.slice Ao19 t178.length co19)) (fun _ hk=>hk.1)⟩,⟨by(with_reducible repeat (first|refine blk_drewN ?_ _|refine blk_drew ?_|refine blk_alloc ?_ _));refine blk_far ?_ NB167_181.out _;(with_reducible repeat (first|refine blk_drewN ?_ _|refine blk_drew ?_|refine blk_alloc ?_ _));refine blk_far ?_ NB167_181.out _;(with_reducible repeat (first|refine blk_drewN ?_ _|refine blk_drew ?_|refine blk_alloc ?_ _));refine blk_far ?_ NB167_181.out _;(with_reducible repeat (first|refine blk_drewN ?_ _|refine blk_drew ?_|refine blk_alloc ?_ _));refine blk_far ?_ NB167_181.out _;(with_reducible repeat (first|refine blk_drewN ?_ _|refine blk_drew ?_|refine blk_alloc ?_ _));refine blk_far ?_ NB167_181.out _;(with_reducible repeat (first|refine blk_drewN ?_ _|refine blk_drew ?_|refine blk_alloc ?_ _));refine blk_far ?_ NB167_181.out _;(with_reducible repeat (first|refine blk_drewN ?_ _|refine blk_drew ?_|refine blk_alloc ?_ _));refine blk_far ?_ NB167_181.out _;(with_reducible repeat (first|refine blk_drewN ?_ _|refine blk_drew ?_|refine blk_alloc ?_ _));refine blk_far ?_ NB167_181.out _;(with_reducible repeat (first|refine blk_drewN ?_ _|refine blk_drew ?_|refine blk_alloc ?_ _));refine blk_far ?_ NB167_181.out _;(with_reducible repeat (first|refine blk_drewN ?_ _|refine blk_drew ?_|refine blk_alloc ?_ _));refine blk_far ?_ NB167_181.out _;(with_reducible repeat (first|refine blk_drewN ?_ _|refine blk_drew ?_|refine blk_alloc ?_ _));refine blk_far ?_ NB167_181.out _;(with_reducible repeat (first|refine blk_drewN ?_ _|refine blk_drew ?_|refine blk_alloc ?_ _));refine blk_far ?_ NB167_181.out _;(with_reducible repeat (first|refine blk_drewN ?_ _|refine blk_drew ?_|refine blk_alloc ?_ _));refine blk_far ?_ NB167_181.out _;(with_reducible repeat (first|refine blk_drewN ?_ _|refine blk_drew ?_|refine blk_alloc ?_ _));refine blk_far ?_ NB167_181.out _;(with_reducible repeat (first|refine blk_drewN ?_ _|refine blk_drew ?_|refine blk_alloc ?_ _));exact BK167.out⟩,⟨by(with_reducible repeat (first|refine blk_drewN ?_ _|refine blk_drew ?_|refine blk_alloc ?_ _));refine blk_far ?_ NB168_181.out _;(with_reducible repeat (first|refine blk_drewN ?_ _|refine blk_drew ?_|refine blk_alloc ?_ _));refine blk_far ?_ NB168_181.out _;(with_reducible repeat (first|refine blk_drewN ?_ _|refine blk_drew ?_|refine blk_alloc ?_ _));refine blk_far ?_ NB168_181.out _;(with_reducible repeat (first|refine blk_drewN ?_ _|refine blk_drew ?_|refine blk_alloc ?_ _));refine blk_far ?_ NB168_181.out _;(with_reducible repeat (first|refine blk_drewN ?_ _|refine blk_drew ?_|refine blk_alloc ?_ _));refine blk_far ?_ NB168_181.out _;(with_reducible repeat (first|refine blk_drewN ?_ _|refine blk_drew ?_|refine blk_alloc ?_ _));refine blk_far ?_ NB168_181.out _;(with_reducible repeat (first|refine blk_drewN ?_ _|refine blk_drew ?_|refine blk_alloc ?_ _));refine blk_far ?_ NB168_181.out _;(with_reducible repeat (first|refine blk_drewN ?_ _|refine blk_drew ?_|refine blk_alloc ?_ _));refine blk_far ?_ NB168_181.out _;(with_reducible repeat (first|refine blk_drewN ?_ _|refine blk_drew ?_|refine blk_alloc ?_ _));refine blk_far ?_ NB168_181.out _;(with_reducible repeat (first|refine blk_drewN ?_ _|refine blk_drew ?_|refine blk_alloc ?_ _));refine blk_far ?_ NB168_181.out _;(with_reducible repeat (first|refine blk_drewN ?_ _|refine blk_drew ?_|refine blk_alloc ?_ _));refine blk_far ?_ NB168_181.out _;(with_reducible repeat (first|refine blk_drewN ?_ _|refine blk_drew ?_|refine blk_alloc ?_ _));refine blk_far ?_ NB168_181.out _;(with_reducible repeat (first|refine blk_drewN ?_ _|refine blk_drew ?_|refine blk_alloc ?_ _));refine blk_far ?_ NB168_181.out _;(with_reducible repeat (first|refine blk_drewN ?_ _|refine blk_drew ?_|refine blk_alloc ?_ _));refine blk_far ?_ NB168_181.out _;(with_reducible repeat (first|refine blk_drewN ?_ _|refine blk_drew ?_|refine blk_alloc ?_ _));exact BK168.out⟩,⟨by(with_reducible repeat (first|refine blk_drewN ?_ _|refine blk_drew ?_|refine blk_alloc ?_ _));refine blk_put (cs:=#[.int .i64 a0_0,.int .i64 a0_1,.int .i64 a0_2,.int .i64 a0_3,.int .i64 a0_4,.slice Ao22 t169.length co22,.int .i64 a0_6,.slice Ao21 t172.length co21,.slice Ao20 t175.length co20,.bool a0_9,.slice none 0 0,.int .i64 a0_11,.int .i64 a0_12,.slice none 0 0]) ?_ 13 _ rfl;(with_reducible repeat (first|refine blk_drewN ?_ _|refine blk_drew ?_|refine blk_alloc ?_ _));refine blk_put (cs:=#[.int .i64 a0_0,.int .i64 a0_1,.int .i64 a0_2,.int .i64 a0_3,.int .i64 a0_4,.slice Ao22 t169.length co22,.int .i64 a0_6,.slice Ao21 t172.length co21,.slice Ao20 t175.length co20,.bool a0_9,.slice none 0 0,.int .i64 a0_11,.int .i64 0,.slice none 0 0]) ?_ 12 _ rfl;(with_reducible repeat (first|refine blk_drewN ?_ _|refine blk_drew ?_|refine blk_alloc ?_ _));refine blk_put (cs:=#[.int .i64 a0_0,.int .i64 a0_1,.int .i64 a0_2,.int .i64 a0_3,.int .i64 a0_4,.slice Ao22 t169.length co22,.int .i64 a0_6,.slice Ao21 t172.length co21,.slice Ao20 t175.length co20,.bool a0_9,.slice none 0 0,.int .i64 0,.int .i64 0,.slice none 0 0]) ?_ 11 _ rfl;(with_reducible repeat (first|refine blk_drewN ?_ _|refine blk_drew ?_|refine blk_alloc ?_ _));refine blk_put (cs:=#[.int .i64 a0_0,.int .i64 a0_1,.int .i64 a0_2,.int .i64 a0_3,.int .i64 a0_4,.slice Ao22 t169.length co22,.int .i64 a0_6,.slice Ao21 t172.length co21,.slice Ao20 t175.length co20,.bool a0_9,.slice none 0 0,.int .i64 0,.int .i64 0,.slice none 0 0]) ?_ 10 _ rfl;(with_reducible repeat (first|refine blk_drewN ?_ _|refine blk_drew ?_|refine blk_alloc ?_ _));refine blk_put (cs:=#[.int .i64 a0_0,.int .i64 a0_1,.int .i64 a0_2,.int .i64 a0_3,.int .i64 a0_4,.slice Ao22 t169.length co22,.int .i64 a0_6,.slice Ao21 t172.length co21,.slice Ao20 t175.length co20,.bool false,.slice none 0 0,.int .i64 0,.int .i64 0,.slice none 0 0]) ?_ 9 _ rfl;(with_reducible repeat (first|refine blk_drewN ?_ _|refine blk_drew ?_|refine blk_alloc ?_ _));refine blk_put (cs:=#[.int .i64 a0_0,.int .i64 a0_1,.int .i64 a0_2,.int .i64 a0_3,.int .i64 a0_4,.slice Ao22 t169.length co22,.int .i64 a0_6,.slice Ao21 t172.length co21,.slice none 0 0,.bool false,.slice none 0 0,.int .i64 0,.int .i64 0,.slice none 0 0]) ?_ 8 _ rfl;(with_reducible repeat (first|refine blk_drewN ?_ _|refine blk_drew ?_|refine blk_alloc ?_ _));refine blk_put (cs:=#[.int .i64 a0_0,.int .i64 a0_1,.int .i64 a0_2,.int .i64 a0_3,.int .i64 a0_4,.slice Ao22 t169.length co22,.int .i64 a0_6,.slice none 0 0,.slice none 0 0,.bool false,.slice none 0 0,.int .i64 0,.int .i64 0,.slice none 0 0]) ?_ 7 _ rfl;(with_reducible repeat (first|refine blk_drewN ?_ _|refine blk_drew ?_|refine blk_alloc ?_ _));refine blk_put (cs:=#[.int .i64 a0_0,.int .i64 a0_1,.int .i64 a0_2,.int .i64 a0_3,.int .i64 a0_4,.slice Ao22 t169.length co22,.int .i64 0,.slice none 0 0,.slice none 0 0,.bool false,.slice none 0 0,.int .i64 0,.int .i64 0,.slice none 0 0]) ?_ 6 _ rfl;(with_reducible repeat (first|refine blk_drewN ?_ _|refine blk_drew ?_|refine blk_alloc ?_ _));refine blk_put (cs:=#[.int .i64 a0_0,.int .i64 a0_1,.int .i64 a0_2,.int .i64 a0_3,.int .i64 a0_4,.slice none 0 0,.int .i64 0,.slice none 0 0,.slice none 0 0,.bool false,.slice none 0 0,.int .i64 0,.int .i64 0,.slice none 0 0]) ?_ 5 _ rfl;(with_reducible repeat (first|refine blk_drewN ?_ _|refine blk_drew ?_|refine blk_alloc ?_ _));refine blk_put (cs:=#[.int .i64 a0_0,.int .i64 a0_1,.int .i64 a0_2,.int .i64 a0_3,.int .i64 0,.slice none 0 0,.int .i64 0,.slice none 0 0,.slice none 0 0,.bool false,.slice none 0 0,.int .i64 0,.int .i64 0,.slice none 0 0]) ?_ 4 _ rfl;(with_reducible repeat (first|refine blk_drewN ?_ _|refine blk_drew ?_|refine blk_alloc ?_ _));refine blk_put (cs:=#[.int .i64 a0_0,.int .i64 a0_1,.int .i64 a0_2,.int .i64 0,.int .i64 0,.slice none 0 0,.int .i64 0,.slice none 0 0,.slice none 0 0,.bool false,.slice none 0 0,.int .i64 0,.int .i64 0,.slice none 0 0]) ?_ 3 _ rfl;(with_reducible repeat (first|refine blk_drewN ?_ _|refine blk_drew ?_|refine blk_alloc ?_ _));refine blk_put (cs:=#[.int .i64 a0_0,.int .i64 a0_1,.int .i64 0,.int .i64 0,.int .i64 0,.slice none 0 0,.int .i64 0,.slice none 0 0,.slice none 0 0,.bool false,.slice none 0 0,.int .i64 0,.int .i64 0,.slice none 0 0]) ?_ 2 _ rfl;(with_reducible repeat (first|refine blk_drewN ?_ _|refine blk_drew ?_|refine blk_alloc ?_ _));refine blk_put (cs:=#[.int .i64 a0_0,.int .i64 0,.int .i64 0,.int .i64 0,.int .i64 0,.slice none 0 0,.int .i64 0,.slice none 0 0,.slice none 0 0,.bool false,.slice none 0 0,.int .i64 0,.int .i64 0,.slice none 0 0]) ?_ 1 _ rfl;(with_reducible repeat (first|refine blk_drewN ?_ _|refine blk_drew ?_|refine blk_alloc ?_ _));refine blk_put (cs:=#[.int .i64 0,.int .i64 0,.int .i64 0,.int .i64 0,.int .i64 0,.slice none 0 0,.int .i64 0,.slice none 0 0,.slice none 0 0,.bool false,.slice none 0 0,.int .i64 0,.int .i64 0,.slice none 0 0]) ?_ 0 _ rfl;(with_reducible repeat (first|refine blk_drewN ?_ _|refine blk_drew ?_|refine blk_alloc ?_ _));exact BK181.out⟩,⟨by repeat (first|(with_reducible first|exact HB.out|apply below_alloc|apply pw_below_drewN|apply below_drew1|refine below_set ?_ GE167.out|refine below_set ?_ GE168.out|refine below_set ?_ GE181.out)|exact HB.out)⟩⟩
  case round =>
    clear H'
    try clear c2
    try clear p2
    try clear c26
    try clear c27
    obtain ⟨x4_1,x182010_1,u182010,rfl,HA,HK1,HO_182005,HO_182007,HO_182008,HO_182010,HO_182013,BK167,BK168,BK181,HB⟩:=hrel
    cases gk with
    | zero=>exact absurd HA.out (by simp [undercroftlaw19_Of.l0])
    | succ k1 =>
      have H:=HA.out
      clear HA
      simp only [undercroftlaw19_Of.l0] at H
      by_cases c37 : x4_1 < (l0_10.length : Int)
      · rw [if_pos c37] at H
        have c37b0 : decide (x4_1 < (l0_10.length : Int)) = true:=decide_eq_true c37
        clear c37
        by_cases c38 : 0 ≤ x4_1
        · rw [if_pos c38] at H
          have c38b0 : decide (0 ≤ x4_1) = true:=decide_eq_true c38
          clear c38
          replace H:=Option.bind_eq_some_iff.mp H
          obtain ⟨t184,A390,H⟩:=H
          replace H : (if x182010_1.length < 2932031007402 then(undercroftlaw19_Of.l0 k1 (wrap64 (x4_1 + 1)) a0_0 a0_1 a0_2 a0_3 a0_4 l0_5 a0_6 l0_7 l0_8 a0_9 l0_10 a0_11 a0_12 l0_13 a0_0 a0_1 a0_2 a0_3 a0_4 t169 a0_6 t172 t175 a0_9 (x182010_1 ++ [(⟨(rd_T68 l0_10 x4_1).f0,(rd_T68 l0_10 x4_1).f1,t184,(rd_T68 l0_10 x4_1).f3⟩ : S69)]) a0_11 a0_12 t178) else(none)) = some (r1,r2,r3,r4,r5,r6,r7,r8,r9,r10,r11,r12,r13,r14):=H
          have A39:=Aside0.mk A390
          clear A390
          by_cases c40 : x182010_1.length < 2932031007402
          · rw [if_pos c40] at H
            have LMc40:=Aside0.mk c40
            clear c40
            obtain ⟨y187,hy187⟩ : ∃ y_ : List (S69),y_ = (x182010_1 ++ [(⟨(rd_T68 l0_10 x4_1).f0,(rd_T68 l0_10 x4_1).f1,t184,(rd_T68 l0_10 x4_1).f3⟩ : S69)]):=⟨_,rfl⟩
            replace H : (undercroftlaw19_Of.l0 k1 (wrap64 (x4_1 + 1)) a0_0 a0_1 a0_2 a0_3 a0_4 l0_5 a0_6 l0_7 l0_8 a0_9 l0_10 a0_11 a0_12 l0_13 a0_0 a0_1 a0_2 a0_3 a0_4 t169 a0_6 t172 t175 a0_9 y187 a0_11 a0_12 t178) = some (r1,r2,r3,r4,r5,r6,r7,r8,r9,r10,r11,r12,r13,r14):=by first|(rw [hy187];with_reducible exact H)|(have H2_:=(Option.bind_some _ _).symm.trans H;rw [hy187];with_reducible exact H2_)|(have H2_:=(Option.bind_some _ _).symm.trans H;with_reducible exact H2_)|with_reducible exact H|(rw [hy187];exact H)|exact H
            have Ny187:=Aside0.mk hy187
            clear hy187
            have H':=Aside0.mk H
            clear H
            have hnb41:=NB167_168.out
            have hnc41:=NB168_167.out
            have hnb42:=NB167_181.out
            have hnc42:=NB181_167.out
            have hcz43_0 : wr.cell? ⟨gb167,0,none⟩ = some (.int .i64 a0_0):=(blk_cell BK167.out 0).trans rfl
            have hcz43_1 : wr.cell? ⟨gb167,1,none⟩ = some (.int .i64 a0_1):=(blk_cell BK167.out 1).trans rfl
            have hcz43_2 : wr.cell? ⟨gb167,2,none⟩ = some (.int .i64 a0_2):=(blk_cell BK167.out 2).trans rfl
            have hcz43_3 : wr.cell? ⟨gb167,3,none⟩ = some (.int .i64 a0_3):=(blk_cell BK167.out 3).trans rfl
            have hcz43_4 : wr.cell? ⟨gb167,4,none⟩ = some (.int .i64 a0_4):=(blk_cell BK167.out 4).trans rfl
            have hcz43_5 : wr.cell? ⟨gb167,5,none⟩ = some (.slice A0_5 l0_5.length c0_5):=(blk_cell BK167.out 5).trans rfl
            have hcz43_6 : wr.cell? ⟨gb167,6,none⟩ = some (.int .i64 a0_6):=(blk_cell BK167.out 6).trans rfl
            have hcz43_7 : wr.cell? ⟨gb167,7,none⟩ = some (.slice A0_7 l0_7.length c0_7):=(blk_cell BK167.out 7).trans rfl
            have hcz43_8 : wr.cell? ⟨gb167,8,none⟩ = some (.slice A0_8 l0_8.length c0_8):=(blk_cell BK167.out 8).trans rfl
            have hcz43_9 : wr.cell? ⟨gb167,9,none⟩ = some (.bool a0_9):=(blk_cell BK167.out 9).trans rfl
            have hcz43_10 : wr.cell? ⟨gb167,10,none⟩ = some (.slice A0_10 l0_10.length c0_10):=(blk_cell BK167.out 10).trans rfl
            have hcz43_11 : wr.cell? ⟨gb167,11,none⟩ = some (.int .i64 a0_11):=(blk_cell BK167.out 11).trans rfl
            have hcz43_12 : wr.cell? ⟨gb167,12,none⟩ = some (.int .i64 a0_12):=(blk_cell BK167.out 12).trans rfl
            have hcz43_13 : wr.cell? ⟨gb167,13,none⟩ = some (.slice A0_13 l0_13.length c0_13):=(blk_cell BK167.out 13).trans rfl
            have hfz43_0:=blk_frozen BK167.out 0
            have hfz43_1:=blk_frozen BK167.out 1
            have hfz43_2:=blk_frozen BK167.out 2
            have hfz43_3:=blk_frozen BK167.out 3
            have hfz43_4:=blk_frozen BK167.out 4
            have hfz43_5:=blk_frozen BK167.out 5
            have hfz43_6:=blk_frozen BK167.out 6
            have hfz43_7:=blk_frozen BK167.out 7
            have hfz43_8:=blk_frozen BK167.out 8
            have hfz43_9:=blk_frozen BK167.out 9
            have hfz43_10:=blk_frozen BK167.out 10
            have hfz43_11:=blk_frozen BK167.out 11
            have hfz43_12:=blk_frozen BK167.out 12
            have hfz43_13:=blk_frozen BK167.out 13
            have p182 : 0 ≤ (x4_1 : Int):=of_decide_eq_true (by first|(with_reducible assumption)|assumption)
            have q182 : x4_1 < (l0_10.length : Int):=of_decide_eq_true (by first|(with_reducible assumption)|assumption)
            obtain ⟨ad182,A182_2,c182_2,e182,hx182_0,hx182_1,hx182_2,hx182_3,hl182_2,hi182_2⟩:=at_T68 HR0_10.out x4_1 p182 q182
            cases e182
            replace hx182_0:=(HB.out.cell (World.block_lt_of_cell? w _ hx182_0)).trans hx182_0
            replace hx182_1:=(HB.out.cell (World.block_lt_of_cell? w _ hx182_1)).trans hx182_1
            replace hx182_2:=(HB.out.cell (World.block_lt_of_cell? w _ hx182_2)).trans hx182_2
            replace hx182_3:=(HB.out.cell (World.block_lt_of_cell? w _ hx182_3)).trans hx182_3
            have HR182_2:=Aside0.mk hi182_2
            have HC182_2:=Aside0.mk hl182_2
            clear hi182_2 hl182_2
            replace p182:=eq_true p182
            replace q182:=eq_true q182
            try go_wp2_with (first|((with_reducible refine gate_dst (N:=5) rfl ?_);refine box_event ?hg (N:=5) ?hd (cs:=#[.bool false,.int .i64 0,.slice none 0 0,.int .i64 0]) (t:=68) ?hr ?_;(case hd=>rfl);(case hg=>rfl);(case hr=>first|(go_simp;done)|(go_simp;rfl));intro gb183 hg w44 hbox hb;have n0_:=Aside0.mk (Kd.S_below (by(with_reducible repeat (first|apply Kd.S_alloc|apply Kd.S_drewN|apply Kd.S_drew));exact HO_182005.out) hb);have n1_:=Aside0.mk (Kd.R_below (by(with_reducible repeat (first|apply Kd.R_alloc|apply Kd.R_drewN|apply Kd.R_drew));exact HO_182007.out) hb);have n2_:=Aside0.mk (Kd.R_below (by(with_reducible repeat (first|apply Kd.R_alloc|apply Kd.R_drewN|apply Kd.R_drew));exact HO_182008.out) hb);have n3_:=Aside0.mk (Kd.R_below (by(with_reducible repeat (first|apply Kd.R_alloc|apply Kd.R_drewN|apply Kd.R_drew));exact HO_182010.out) hb);have n4_:=Aside0.mk (Kd.R_below (by(with_reducible repeat (first|apply Kd.R_alloc|apply Kd.R_drewN|apply Kd.R_drew));exact HO_182013.out) hb);have n5_:=Aside0.mk (blk_below (g:=gb167) (o:=.cells #[.int .i64 a0_0,.int .i64 a0_1,.int .i64 a0_2,.int .i64 a0_3,.int .i64 a0_4,.slice A0_5 l0_5.length c0_5,.int .i64 a0_6,.slice A0_7 l0_7.length c0_7,.slice A0_8 l0_8.length c0_8,.bool a0_9,.slice (some ad182) l0_10.length c0_10,.int .i64 a0_11,.int .i64 a0_12,.slice A0_13 l0_13.length c0_13] 44 (0,0)) (by(with_reducible repeat (first|refine blk_drewN ?_ _|refine blk_drew ?_|refine blk_alloc ?_ _));exact BK167.out) hb);have n6_:=Aside0.mk (blk_below (g:=gb168) (o:=.cells #[.int .i64 0,.int .i64 0,.int .i64 0,.int .i64 0,.int .i64 0,.slice none 0 0,.int .i64 0,.slice none 0 0,.slice none 0 0,.bool false,.slice none 0 0,.int .i64 0,.int .i64 0,.slice none 0 0] 29 (0,0)) (by(with_reducible repeat (first|refine blk_drewN ?_ _|refine blk_drew ?_|refine blk_alloc ?_ _));exact BK168.out) hb);have n7_:=Aside0.mk (blk_below (g:=gb181) (o:=.cells #[.int .i64 a0_0,.int .i64 a0_1,.int .i64 a0_2,.int .i64 a0_3,.int .i64 a0_4,.slice Ao22 t169.length co22,.int .i64 a0_6,.slice Ao21 t172.length co21,.slice Ao20 t175.length co20,.bool a0_9,u182010,.int .i64 a0_11,.int .i64 a0_12,.slice Ao19 t178.length co19] 29 (0,0)) (by(with_reducible repeat (first|refine blk_drewN ?_ _|refine blk_drew ?_|refine blk_alloc ?_ _));exact BK181.out) hb);have n8_:=Aside0.mk (below_step (by repeat (first|(with_reducible first|exact HB.out|apply below_alloc|apply pw_below_drewN|apply below_drew1|refine below_set ?_ GE167.out|refine below_set ?_ GE168.out|refine below_set ?_ GE181.out)|exact HB.out)) hb);have n9_:=Aside0.mk (hbox);have n10_:=Aside0.mk ((by rw [hg];exact(below_size (by repeat (first|(with_reducible first|exact HB.out|apply below_alloc|apply pw_below_drewN|apply below_drew1|refine below_set ?_ GE167.out|refine below_set ?_ GE168.out|refine below_set ?_ GE181.out)|exact HB.out))) : w.heap.size ≤ gb183));have n11_:=Aside0.mk ((by rw [hg];exact(below_size (by repeat (first|(with_reducible first|exact HB.out|apply below_alloc|apply pw_below_drewN|apply below_drew1|refine below_set ?_ GE167.out|refine below_set ?_ GE168.out|refine below_set ?_ GE181.out)|exact HB.out))) : w.heap.size ≤ gb183));have n12_:=Aside0.mk ((by rw [hg];exact Nat.ne_of_lt (blk_lt (g:=gb167) (o:=.cells #[.int .i64 a0_0,.int .i64 a0_1,.int .i64 a0_2,.int .i64 a0_3,.int .i64 a0_4,.slice A0_5 l0_5.length c0_5,.int .i64 a0_6,.slice A0_7 l0_7.length c0_7,.slice A0_8 l0_8.length c0_8,.bool a0_9,.slice (some ad182) l0_10.length c0_10,.int .i64 a0_11,.int .i64 a0_12,.slice A0_13 l0_13.length c0_13] 44 (0,0)) (by(with_reducible repeat (first|refine blk_drewN ?_ _|refine blk_drew ?_|refine blk_alloc ?_ _));exact BK167.out)) : gb167 ≠ gb183));have n13_:=Aside0.mk ((by rw [hg];exact Nat.ne_of_gt (blk_lt (g:=gb167) (o:=.cells #[.int .i64 a0_0,.int .i64 a0_1,.int .i64 a0_2,.int .i64 a0_3,.int .i64 a0_4,.slice A0_5 l0_5.length c0_5,.int .i64 a0_6,.slice A0_7 l0_7.length c0_7,.slice A0_8 l0_8.length c0_8,.bool a0_9,.slice (some ad182) l0_10.length c0_10,.int .i64 a0_11,.int .i64 a0_12,.slice A0_13 l0_13.length c0_13] 44 (0,0)) (by(with_reducible repeat (first|refine blk_drewN ?_ _|refine blk_drew ?_|refine blk_alloc ?_ _));exact BK167.out)) : gb183 ≠ gb167));have n14_:=Aside0.mk ((by rw [hg];exact Nat.ne_of_lt (blk_lt (g:=gb168) (o:=.cells #[.int .i64 0,.int .i64 0,.int .i64 0,.int .i64 0,.int .i64 0,.slice none 0 0,.int .i64 0,.slice none 0 0,.slice none 0 0,.bool false,.slice none 0 0,.int .i64 0,.int .i64 0,.slice none 0 0] 29 (0,0)) (by(with_reducible repeat (first|refine blk_drewN ?_ _|refine blk_drew ?_|refine blk_alloc ?_ _));exact BK168.out)) : gb168 ≠ gb183));have n15_:=Aside0.mk ((by rw [hg];exact Nat.ne_of_gt (blk_lt (g:=gb168) (o:=.cells #[.int .i64 0,.int .i64 0,.int .i64 0,.int .i64 0,.int .i64 0,.slice none 0 0,.int .i64 0,.slice none 0 0,.slice none 0 0,.bool false,.slice none 0 0,.int .i64 0,.int .i64 0,.slice none 0 0] 29 (0,0)) (by(with_reducible repeat (first|refine blk_drewN ?_ _|refine blk_drew ?_|refine blk_alloc ?_ _));exact BK168.out)) : gb183 ≠ gb168));have n16_:=Aside0.mk ((by rw [hg];exact Nat.ne_of_lt (blk_lt (g:=gb181) (o:=.cells #[.int .i64 a0_0,.int .i64 a0_1,.int .i64 a0_2,.int .i64 a0_3,.int .i64 a0_4,.slice Ao22 t169.length co22,.int .i64 a0_6,.slice Ao21 t172.length co21,.slice Ao20 t175.length co20,.bool a0_9,u182010,.int .i64 a0_11,.int .i64 a0_12,.slice Ao19 t178.length co19] 29 (0,0)) (by(with_reducible repeat (first|refine blk_drewN ?_ _|refine blk_drew ?_|refine blk_alloc ?_ _));exact BK181.out)) : gb181 ≠ gb183));have n17_:=Aside0.mk ((by rw [hg];exact Nat.ne_of_gt (blk_lt (g:=gb181) (o:=.cells #[.int .i64 a0_0,.int .i64 a0_1,.int .i64 a0_2,.int .i64 a0_3,.int .i64 a0_4,.slice Ao22 t169.length co22,.int .i64 a0_6,.slice Ao21 t172.length co21,.slice Ao20 t175.length co20,.bool a0_9,u182010,.int .i64 a0_11,.int .i64 a0_12,.slice Ao19 t178.length co19] 29 (0,0)) (by(with_reducible repeat (first|refine blk_drewN ?_ _|refine blk_drew ?_|refine blk_alloc ?_ _));exact BK181.out)) : gb183 ≠ gb181));clear HO_182005;clear HO_182007;clear HO_182008;clear HO_182010;clear HO_182013;clear BK167;clear BK168;clear BK181;clear HB;have HO_182005:=n0_;have HO_182007:=n1_;have HO_182008:=n2_;have HO_182010:=n3_;have HO_182013:=n4_;have BK167:=n5_;have BK168:=n6_;have BK181:=n7_;have HB:=n8_;have BK183:=n9_;have GW183:=n10_;have GE183:=n11_;have NB167_183:=n12_;have NB183_167:=n13_;have NB168_183:=n14_;have NB183_168:=n15_;have NB181_183:=n16_;have NB183_181:=n17_;clear n0_ n1_ n2_ n3_ n4_ n5_ n6_ n7_ n8_ n9_ n10_ n11_ n12_ n13_ n14_ n15_ n16_ n17_;clear hb hbox hg;have hnb45:=NB183_167.out;have hnc45:=NB167_183.out;have hnb46:=NB183_168.out;have hnc46:=NB168_183.out;have hnb47:=NB183_181.out;have hnc47:=NB181_183.out;have hcz48_0 : w44.cell? ⟨gb183,0,none⟩ = some (.bool false):=(blk_cell BK183.out 0).trans rfl;have hcz48_1 : w44.cell? ⟨gb183,1,none⟩ = some (.int .i64 0):=(blk_cell BK183.out 1).trans rfl;have hcz48_2 : w44.cell? ⟨gb183,2,none⟩ = some (.slice none 0 0):=(blk_cell BK183.out 2).trans rfl;have hcz48_3 : w44.cell? ⟨gb183,3,none⟩ = some (.int .i64 0):=(blk_cell BK183.out 3).trans rfl;have hfz48_0:=blk_frozen BK183.out 0;have hfz48_1:=blk_frozen BK183.out 1;have hfz48_2:=blk_frozen BK183.out 2;have hfz48_3:=blk_frozen BK183.out 3))
            have n0_ : Aside0 (Kd.S (Kd.slice 5 (Kd.int .u8)) 22 ((((w44.setCell ⟨gb183,0,none⟩ (.bool ((rd_T68 l0_10 x4_1).f0))).setCell ⟨gb183,1,none⟩ (.int .i64 ((rd_T68 l0_10 x4_1).f1))).setCell ⟨gb183,2,none⟩ (.slice A182_2 ((rd_T68 l0_10 x4_1).f2).length c182_2)).setCell ⟨gb183,3,none⟩ (.int .i64 ((rd_T68 l0_10 x4_1).f3))) w.heap.size (fun _=>True) (.slice Ao22 t169.length co22) t169):=⟨by(with_reducible repeat (first|apply Kd.S_alloc|apply Kd.S_drewN|apply Kd.S_drew));exact Kd.S_mono (Kd.S_far (p:=⟨gb183,3,none⟩) (Kd.S_far (p:=⟨gb183,2,none⟩) (Kd.S_far (p:=⟨gb183,1,none⟩) (Kd.S_far (p:=⟨gb183,0,none⟩) (Kd.S_types HO_182005.out BK183.out (by decide)) (fun _ hk=>hk.2) (.bool ((rd_T68 l0_10 x4_1).f0))) (fun _ hk=>hk.2) (.int .i64 ((rd_T68 l0_10 x4_1).f1))) (fun _ hk=>hk.2) (.slice A182_2 ((rd_T68 l0_10 x4_1).f2).length c182_2)) (fun _ hk=>hk.2) (.int .i64 ((rd_T68 l0_10 x4_1).f3))) (fun _ hk=>trivial)⟩
            have n1_ : Aside0 (Kd.R (Kd.int .i64) 3 ((((w44.setCell ⟨gb183,0,none⟩ (.bool ((rd_T68 l0_10 x4_1).f0))).setCell ⟨gb183,1,none⟩ (.int .i64 ((rd_T68 l0_10 x4_1).f1))).setCell ⟨gb183,2,none⟩ (.slice A182_2 ((rd_T68 l0_10 x4_1).f2).length c182_2)).setCell ⟨gb183,3,none⟩ (.int .i64 ((rd_T68 l0_10 x4_1).f3))) w.heap.size (fun k_=>some k_ ≠ (.slice Ao19 t178.length co19 : Value).ownBlock) (.slice Ao21 t172.length co21) t172):=⟨by(with_reducible repeat (first|apply Kd.R_alloc|apply Kd.R_drewN|apply Kd.R_drew));exact Kd.R_mono (Kd.R_far (p:=⟨gb183,3,none⟩) (Kd.R_far (p:=⟨gb183,2,none⟩) (Kd.R_far (p:=⟨gb183,1,none⟩) (Kd.R_far (p:=⟨gb183,0,none⟩) (Kd.R_types HO_182007.out BK183.out (by decide)) (fun _ hk=>hk.2) (.bool ((rd_T68 l0_10 x4_1).f0))) (fun _ hk=>hk.2) (.int .i64 ((rd_T68 l0_10 x4_1).f1))) (fun _ hk=>hk.2) (.slice A182_2 ((rd_T68 l0_10 x4_1).f2).length c182_2)) (fun _ hk=>hk.2) (.int .i64 ((rd_T68 l0_10 x4_1).f3))) (fun _ hk=>hk.1)⟩
            have n2_ : Aside0 (Kd.R Kd.bool 4 ((((w44.setCell ⟨gb183,0,none⟩ (.bool ((rd_T68 l0_10 x4_1).f0))).setCell ⟨gb183,1,none⟩ (.int .i64 ((rd_T68 l0_10 x4_1).f1))).setCell ⟨gb183,2,none⟩ (.slice A182_2 ((rd_T68 l0_10 x4_1).f2).length c182_2)).setCell ⟨gb183,3,none⟩ (.int .i64 ((rd_T68 l0_10 x4_1).f3))) w.heap.size (fun _=>True) (.slice Ao20 t175.length co20) t175):=⟨by(with_reducible repeat (first|apply Kd.R_alloc|apply Kd.R_drewN|apply Kd.R_drew));exact Kd.R_mono (Kd.R_far (p:=⟨gb183,3,none⟩) (Kd.R_far (p:=⟨gb183,2,none⟩) (Kd.R_far (p:=⟨gb183,1,none⟩) (Kd.R_far (p:=⟨gb183,0,none⟩) (Kd.R_types HO_182008.out BK183.out (by decide)) (fun _ hk=>hk.2) (.bool ((rd_T68 l0_10 x4_1).f0))) (fun _ hk=>hk.2) (.int .i64 ((rd_T68 l0_10 x4_1).f1))) (fun _ hk=>hk.2) (.slice A182_2 ((rd_T68 l0_10 x4_1).f2).length c182_2)) (fun _ hk=>hk.2) (.int .i64 ((rd_T68 l0_10 x4_1).f3))) (fun _ hk=>trivial)⟩
            have n3_ : Aside0 (Kd.R k69 69 ((((w44.setCell ⟨gb183,0,none⟩ (.bool ((rd_T68 l0_10 x4_1).f0))).setCell ⟨gb183,1,none⟩ (.int .i64 ((rd_T68 l0_10 x4_1).f1))).setCell ⟨gb183,2,none⟩ (.slice A182_2 ((rd_T68 l0_10 x4_1).f2).length c182_2)).setCell ⟨gb183,3,none⟩ (.int .i64 ((rd_T68 l0_10 x4_1).f3))) w.heap.size (fun k_=>some k_ ≠ (.slice Ao22 t169.length co22 : Value).ownBlock) u182010 x182010_1):=⟨by(with_reducible repeat (first|apply Kd.R_alloc|apply Kd.R_drewN|apply Kd.R_drew));exact Kd.R_mono (Kd.R_far (p:=⟨gb183,3,none⟩) (Kd.R_far (p:=⟨gb183,2,none⟩) (Kd.R_far (p:=⟨gb183,1,none⟩) (Kd.R_far (p:=⟨gb183,0,none⟩) (Kd.R_types HO_182010.out BK183.out (by decide)) (fun _ hk=>hk.2) (.bool ((rd_T68 l0_10 x4_1).f0))) (fun _ hk=>hk.2) (.int .i64 ((rd_T68 l0_10 x4_1).f1))) (fun _ hk=>hk.2) (.slice A182_2 ((rd_T68 l0_10 x4_1).f2).length c182_2)) (fun _ hk=>hk.2) (.int .i64 ((rd_T68 l0_10 x4_1).f3))) (fun _ hk=>hk.1)⟩
            have n4_ : Aside0 (Kd.R (Kd.int .i64) 3 ((((w44.setCell ⟨gb183,0,none⟩ (.bool ((rd_T68 l0_10 x4_1).f0))).setCell ⟨gb183,1,none⟩ (.int .i64 ((rd_T68 l0_10 x4_1).f1))).setCell ⟨gb183,2,none⟩ (.slice A182_2 ((rd_T68 l0_10 x4_1).f2).length c182_2)).setCell ⟨gb183,3,none⟩ (.int .i64 ((rd_T68 l0_10 x4_1).f3))) w.heap.size (fun k_=>some k_ ≠ (.slice Ao21 t172.length co21 : Value).ownBlock) (.slice Ao19 t178.length co19) t178):=⟨by(with_reducible repeat (first|apply Kd.R_alloc|apply Kd.R_drewN|apply Kd.R_drew));exact Kd.R_mono (Kd.R_far (p:=⟨gb183,3,none⟩) (Kd.R_far (p:=⟨gb183,2,none⟩) (Kd.R_far (p:=⟨gb183,1,none⟩) (Kd.R_far (p:=⟨gb183,0,none⟩) (Kd.R_types HO_182013.out BK183.out (by decide)) (fun _ hk=>hk.2) (.bool ((rd_T68 l0_10 x4_1).f0))) (fun _ hk=>hk.2) (.int .i64 ((rd_T68 l0_10 x4_1).f1))) (fun _ hk=>hk.2) (.slice A182_2 ((rd_T68 l0_10 x4_1).f2).length c182_2)) (fun _ hk=>hk.2) (.int .i64 ((rd_T68 l0_10 x4_1).f3))) (fun _ hk=>hk.1)⟩
            have n5_ : Aside0 (((((w44.setCell ⟨gb183,0,none⟩ (.bool ((rd_T68 l0_10 x4_1).f0))).setCell ⟨gb183,1,none⟩ (.int .i64 ((rd_T68 l0_10 x4_1).f1))).setCell ⟨gb183,2,none⟩ (.slice A182_2 ((rd_T68 l0_10 x4_1).f2).length c182_2)).setCell ⟨gb183,3,none⟩ (.int .i64 ((rd_T68 l0_10 x4_1).f3))).heap[gb167]? = some (.cells #[.int .i64 a0_0,.int .i64 a0_1,.int .i64 a0_2,.int .i64 a0_3,.int .i64 a0_4,.slice A0_5 l0_5.length c0_5,.int .i64 a0_6,.slice A0_7 l0_7.length c0_7,.slice A0_8 l0_8.length c0_8,.bool a0_9,.slice (some ad182) l0_10.length c0_10,.int .i64 a0_11,.int .i64 a0_12,.slice A0_13 l0_13.length c0_13] 44 (0,0))):=⟨by(with_reducible repeat (first|refine blk_drewN ?_ _|refine blk_drew ?_|refine blk_alloc ?_ _));refine blk_far ?_ NB167_183.out _;(with_reducible repeat (first|refine blk_drewN ?_ _|refine blk_drew ?_|refine blk_alloc ?_ _));refine blk_far ?_ NB167_183.out _;(with_reducible repeat (first|refine blk_drewN ?_ _|refine blk_drew ?_|refine blk_alloc ?_ _));refine blk_far ?_ NB167_183.out _;(with_reducible repeat (first|refine blk_drewN ?_ _|refine blk_drew ?_|refine blk_alloc ?_ _));refine blk_far ?_ NB167_183.out _;(with_reducible repeat (first|refine blk_drewN ?_ _|refine blk_drew ?_|refine blk_alloc ?_ _));exact BK167.out⟩
            have n6_ : Aside0 (((((w44.setCell ⟨gb183,0,none⟩ (.bool ((rd_T68 l0_10 x4_1).f0))).setCell ⟨gb183,1,none⟩ (.int .i64 ((rd_T68 l0_10 x4_1).f1))).setCell ⟨gb183,2,none⟩ (.slice A182_2 ((rd_T68 l0_10 x4_1).f2).length c182_2)).setCell ⟨gb183,3,none⟩ (.int .i64 ((rd_T68 l0_10 x4_1).f3))).heap[gb168]? = some (.cells #[.int .i64 0,.int .i64 0,.int .i64 0,.int .i64 0,.int .i64 0,.slice none 0 0,.int .i64 0,.slice none 0 0,.slice none 0 0,.bool false,.slice none 0 0,.int .i64 0,.int .i64 0,.slice none 0 0] 29 (0,0))):=⟨by(with_reducible repeat (first|refine blk_drewN ?_ _|refine blk_drew ?_|refine blk_alloc ?_ _));refine blk_far ?_ NB168_183.out _;(with_reducible repeat (first|refine blk_drewN ?_ _|refine blk_drew ?_|refine blk_alloc ?_ _));refine blk_far ?_ NB168_183.out _;(with_reducible repeat (first|refine blk_drewN ?_ _|refine blk_drew ?_|refine blk_alloc ?_ _));refine blk_far ?_ NB168_183.out _;(with_reducible repeat (first|refine blk_drewN ?_ _|refine blk_drew ?_|refine blk_alloc ?_ _));refine blk_far ?_ NB168_183.out _;(with_reducible repeat (first|refine blk_drewN ?_ _|refine blk_drew ?_|refine blk_alloc ?_ _));exact BK168.out⟩
            have n7_ : Aside0 (((((w44.setCell ⟨gb183,0,none⟩ (.bool ((rd_T68 l0_10 x4_1).f0))).setCell ⟨gb183,1,none⟩ (.int .i64 ((rd_T68 l0_10 x4_1).f1))).setCell ⟨gb183,2,none⟩ (.slice A182_2 ((rd_T68 l0_10 x4_1).f2).length c182_2)).setCell ⟨gb183,3,none⟩ (.int .i64 ((rd_T68 l0_10 x4_1).f3))).heap[gb181]? = some (.cells #[.int .i64 a0_0,.int .i64 a0_1,.int .i64 a0_2,.int .i64 a0_3,.int .i64 a0_4,.slice Ao22 t169.length co22,.int .i64 a0_6,.slice Ao21 t172.length co21,.slice Ao20 t175.length co20,.bool a0_9,u182010,.int .i64 a0_11,.int .i64 a0_12,.slice Ao19 t178.length co19] 29 (0,0))):=⟨by(with_reducible repeat (first|refine blk_drewN ?_ _|refine blk_drew ?_|refine blk_alloc ?_ _));refine blk_far ?_ NB181_183.out _;(with_reducible repeat (first|refine blk_drewN ?_ _|refine blk_drew ?_|refine blk_alloc ?_ _));refine blk_far ?_ NB181_183.out _;(with_reducible repeat (first|refine blk_drewN ?_ _|refine blk_drew ?_|refine blk_alloc ?_ _));refine blk_far ?_ NB181_183.out _;(with_reducible repeat (first|refine blk_drewN ?_ _|refine blk_drew ?_|refine blk_alloc ?_ _));refine blk_far ?_ NB181_183.out _;(with_reducible repeat (first|refine blk_drewN ?_ _|refine blk_drew ?_|refine blk_alloc ?_ _));exact BK181.out⟩
            have n8_ : Aside0 (((((w44.setCell ⟨gb183,0,none⟩ (.bool ((rd_T68 l0_10 x4_1).f0))).setCell ⟨gb183,1,none⟩ (.int .i64 ((rd_T68 l0_10 x4_1).f1))).setCell ⟨gb183,2,none⟩ (.slice A182_2 ((rd_T68 l0_10 x4_1).f2).length c182_2)).setCell ⟨gb183,3,none⟩ (.int .i64 ((rd_T68 l0_10 x4_1).f3))).heap[gb183]? = some (.cells #[.bool ((rd_T68 l0_10 x4_1).f0),.int .i64 ((rd_T68 l0_10 x4_1).f1),.slice A182_2 ((rd_T68 l0_10 x4_1).f2).length c182_2,.int .i64 ((rd_T68 l0_10 x4_1).f3)] 68 (0,0))):=⟨by(with_reducible repeat (first|refine blk_drewN ?_ _|refine blk_drew ?_|refine blk_alloc ?_ _));refine blk_put (cs:=#[.bool ((rd_T68 l0_10 x4_1).f0),.int .i64 ((rd_T68 l0_10 x4_1).f1),.slice A182_2 ((rd_T68 l0_10 x4_1).f2).length c182_2,.int .i64 0]) ?_ 3 _ rfl;(with_reducible repeat (first|refine blk_drewN ?_ _|refine blk_drew ?_|refine blk_alloc ?_ _));refine blk_put (cs:=#[.bool ((rd_T68 l0_10 x4_1).f0),.int .i64 ((rd_T68 l0_10 x4_1).f1),.slice none 0 0,.int .i64 0]) ?_ 2 _ rfl;(with_reducible repeat (first|refine blk_drewN ?_ _|refine blk_drew ?_|refine blk_alloc ?_ _));refine blk_put (cs:=#[.bool ((rd_T68 l0_10 x4_1).f0),.int .i64 0,.slice none 0 0,.int .i64 0]) ?_ 1 _ rfl;(with_reducible repeat (first|refine blk_drewN ?_ _|refine blk_drew ?_|refine blk_alloc ?_ _));refine blk_put (cs:=#[.bool false,.int .i64 0,.slice none 0 0,.int .i64 0]) ?_ 0 _ rfl;(with_reducible repeat (first|refine blk_drewN ?_ _|refine blk_drew ?_|refine blk_alloc ?_ _));exact BK183.out⟩
            have n9_ : Aside0 (Below w.heap.size w ((((w44.setCell ⟨gb183,0,none⟩ (.bool ((rd_T68 l0_10 x4_1).f0))).setCell ⟨gb183,1,none⟩ (.int .i64 ((rd_T68 l0_10 x4_1).f1))).setCell ⟨gb183,2,none⟩ (.slice A182_2 ((rd_T68 l0_10 x4_1).f2).length c182_2)).setCell ⟨gb183,3,none⟩ (.int .i64 ((rd_T68 l0_10 x4_1).f3)))):=⟨by repeat (first|(with_reducible first|exact HB.out|apply below_alloc|apply pw_below_drewN|apply below_drew1|refine below_set ?_ GE167.out|refine below_set ?_ GE168.out|refine below_set ?_ GE181.out|refine below_set ?_ GE183.out)|exact HB.out)⟩
            (try clear HO_182005)
            (try clear HO_182007)
            (try clear HO_182008)
            (try clear HO_182010)
            (try clear HO_182013)
            (try clear BK167)
            (try clear BK168)
            (try clear BK181)
            (try clear BK183)
            (try clear HB)
            generalize ((((w44.setCell ⟨gb183,0,none⟩ (.bool ((rd_T68 l0_10 x4_1).f0))).setCell ⟨gb183,1,none⟩ (.int .i64 ((rd_T68 l0_10 x4_1).f1))).setCell ⟨gb183,2,none⟩ (.slice A182_2 ((rd_T68 l0_10 x4_1).f2).length c182_2)).setCell ⟨gb183,3,none⟩ (.int .i64 ((rd_T68 l0_10 x4_1).f3))) = w49 at n0_ n1_ n2_ n3_ n4_ n5_ n6_ n7_ n8_ n9_ ⊢
            have HO_182005:=n0_
            have HO_182007:=n1_
            have HO_182008:=n2_
            have HO_182010:=n3_
            have HO_182013:=n4_
            have BK167:=n5_
            have BK168:=n6_
            have BK181:=n7_
            have BK183:=n8_
            have HB:=n9_
            clear n0_ n1_ n2_ n3_ n4_ n5_ n6_ n7_ n8_ n9_
            have n0_:=Aside0.mk (Kd.S_drew HO_182005.out)
            have n1_:=Aside0.mk (Kd.R_drew HO_182007.out)
            have n2_:=Aside0.mk (Kd.R_drew HO_182008.out)
            have n3_:=Aside0.mk (Kd.R_drew HO_182010.out)
            have n4_:=Aside0.mk (Kd.R_drew HO_182013.out)
            have n5_:=Aside0.mk (blk_drew BK167.out)
            have n6_:=Aside0.mk (blk_drew BK168.out)
            have n7_:=Aside0.mk (blk_drew BK181.out)
            have n8_:=Aside0.mk (blk_drew BK183.out)
            have n9_:=Aside0.mk (below_drew1 HB.out)
            clear HO_182005
            clear HO_182007
            clear HO_182008
            clear HO_182010
            clear HO_182013
            clear BK167
            clear BK168
            clear BK181
            clear BK183
            clear HB
            have HO_182005:=n0_
            have HO_182007:=n1_
            have HO_182008:=n2_
            have HO_182010:=n3_
            have HO_182013:=n4_
            have BK167:=n5_
            have BK168:=n6_
            have BK181:=n7_
            have BK183:=n8_
            have HB:=n9_
            clear n0_ n1_ n2_ n3_ n4_ n5_ n6_ n7_ n8_ n9_
            refine start_ (n:=16) (S:=fun w'=>w'.cell? ⟨gb181,0,none⟩ = some (.int .i64 a0_0)∧w'.cell? ⟨gb181,1,none⟩ = some (.int .i64 a0_1)∧w'.cell? ⟨gb181,2,none⟩ = some (.int .i64 a0_2)∧w'.cell? ⟨gb181,3,none⟩ = some (.int .i64 a0_3)∧w'.cell? ⟨gb181,4,none⟩ = some (.int .i64 a0_4)∧w'.cell? ⟨gb181,5,none⟩ = some (.slice Ao22 t169.length co22)∧w'.cell? ⟨gb181,6,none⟩ = some (.int .i64 a0_6)∧w'.cell? ⟨gb181,7,none⟩ = some (.slice Ao21 t172.length co21)∧w'.cell? ⟨gb181,8,none⟩ = some (.slice Ao20 t175.length co20)∧w'.cell? ⟨gb181,9,none⟩ = some (.bool a0_9)∧w'.cell? ⟨gb181,10,none⟩ = some (u182010)∧w'.cell? ⟨gb181,11,none⟩ = some (.int .i64 a0_11)∧w'.cell? ⟨gb181,12,none⟩ = some (.int .i64 a0_12)∧w'.cell? ⟨gb181,13,none⟩ = some (.slice Ao19 t178.length co19)∧w'.cell? ⟨gb183,0,none⟩ = some (.bool ((rd_T68 l0_10 x4_1).f0))∧w'.cell? ⟨gb183,1,none⟩ = some (.int .i64 ((rd_T68 l0_10 x4_1).f1))∧w'.cell? ⟨gb183,2,none⟩ = some (.slice A182_2 ((rd_T68 l0_10 x4_1).f2).length c182_2)∧w'.cell? ⟨gb183,3,none⟩ = some (.int .i64 ((rd_T68 l0_10 x4_1).f3))) (ds:=[15]) #[false,false,false,false,false,false,false,false,false,false,false,false,false,false,false,false] (by kernel_rfl) rfl rfl ⟨(blk_cell BK181.out 0).trans rfl,(blk_cell BK181.out 1).trans rfl,(blk_cell BK181.out 2).trans rfl,(blk_cell BK181.out 3).trans rfl,(blk_cell BK181.out 4).trans rfl,(blk_cell BK181.out 5).trans rfl,(blk_cell BK181.out 6).trans rfl,(blk_cell BK181.out 7).trans rfl,(blk_cell BK181.out 8).trans rfl,(blk_cell BK181.out 9).trans rfl,(blk_cell BK181.out 10).trans rfl,(blk_cell BK181.out 11).trans rfl,(blk_cell BK181.out 12).trans rfl,(blk_cell BK181.out 13).trans rfl,(blk_cell BK183.out 0).trans rfl,(blk_cell BK183.out 1).trans rfl,(blk_cell BK183.out 2).trans rfl,(blk_cell BK183.out 3).trans rfl⟩ (fun hHeld=>?_);refine with_tabW undercroftlaw19_Of.tab6 undercroftlaw19_Of.bits6 (fun HT_ HW_=>?_)
            generalize w49.drew = w50 at HO_182005 HO_182007 HO_182008 HO_182010 HO_182013 BK167 BK168 BK181 BK183 HB hHeld ⊢
            refine pure_ (i:=0) (N:=some 49) (v:=?_) (a':=?_) #[true,false,false,false,false,false,false,false,false,false,false,false,false,false,false,false] rfl rfl (any_of HT_.out (by kernel_rfl)) (fun _ _ _ h=>h) (Or.inl ⟨by rfl,?_⟩) ?_ ?_
            rotate_left
            · intro w'
              go_simp
              with_reducible rfl
            rotate_left
            · simp only [Act.put,List.setIfInBounds_toArray,List.set_cons_zero,List.set_cons_succ,i64_w,i32_w]
              rfl
            refine pure_ (i:=2) (N:=some 51) (v:=?_) (a':=?_) #[true,false,true,false,false,false,false,false,false,false,false,false,false,false,false,false] rfl rfl (any_of HT_.out (by kernel_rfl)) (fun _ _ _ h=>h) (Or.inl ⟨by rfl,?_⟩) ?_ ?_
            rotate_left
            · intro w'
              go_simp
              with_reducible rfl
            rotate_left
            · simp only [Act.put,List.setIfInBounds_toArray,List.set_cons_zero,List.set_cons_succ,i64_w,i32_w]
              rfl
            refine pure_ (i:=4) (N:=some 53) (v:=?_) (a':=?_) #[true,false,true,false,true,false,false,false,false,false,false,false,false,false,false,false] rfl rfl (any_of HT_.out (by kernel_rfl)) (fun _ _ _ h=>h) (Or.inl ⟨by rfl,?_⟩) ?_ ?_
            rotate_left
            · intro w'
              go_simp
              with_reducible rfl
            rotate_left
            · simp only [Act.put,List.setIfInBounds_toArray,List.set_cons_zero,List.set_cons_succ,i64_w,i32_w]
              rfl
            refine pure_ (i:=6) (N:=some 55) (v:=?_) (a':=?_) #[true,false,true,false,true,false,true,false,false,false,false,false,false,false,false,false] rfl rfl (any_of HT_.out (by kernel_rfl)) (fun _ _ _ h=>h) (Or.inl ⟨by rfl,?_⟩) ?_ ?_
            rotate_left
            · intro w'
              go_simp
              with_reducible rfl
            rotate_left
            · simp only [Act.put,List.setIfInBounds_toArray,List.set_cons_zero,List.set_cons_succ,i64_w,i32_w]
              rfl
            refine pure_ (i:=9) (N:=some 58) (v:=?_) (a':=?_) #[true,false,true,false,true,false,true,false,false,true,false,false,false,false,false,false] rfl rfl (any_of HT_.out (by kernel_rfl)) (fun _ _ _ h=>h) (Or.inl ⟨by rfl,?_⟩) ?_ ?_
            rotate_left
            · intro w'
              go_simp
              with_reducible rfl
            rotate_left
            · simp only [Act.put,List.setIfInBounds_toArray,List.set_cons_zero,List.set_cons_succ,i64_w,i32_w]
              rfl
            refine take_ (i:=1) (N:=some 50) (v:=?_) (a':=?_) #[true,true,true,false,true,false,true,false,false,true,false,false,false,false,false,false] rfl rfl (take_ofW HT_.out HW_.out (by kernel_rfl)) (fun _ _ _ h=>h) (Or.inl ⟨by rfl,?_⟩) hHeld ?_ ?_
            rotate_left
            · rintro w' ⟨s0,s1,s2,s3,s4,s5,s6,s7,s8,s9,s10,s11,s12,s13,s14,s15,s16,s17⟩
              go_simp
              with_reducible rfl
            rotate_left
            · simp only [Act.put,List.setIfInBounds_toArray,List.set_cons_zero,List.set_cons_succ,i64_w,i32_w]
              rfl
            refine take_ (i:=3) (N:=some 52) (v:=?_) (a':=?_) #[true,true,true,true,true,false,true,false,false,true,false,false,false,false,false,false] rfl rfl (take_ofW HT_.out HW_.out (by kernel_rfl)) (fun _ _ _ h=>h) (Or.inl ⟨by rfl,?_⟩) hHeld ?_ ?_
            rotate_left
            · rintro w' ⟨s0,s1,s2,s3,s4,s5,s6,s7,s8,s9,s10,s11,s12,s13,s14,s15,s16,s17⟩
              go_simp
              with_reducible rfl
            rotate_left
            · simp only [Act.put,List.setIfInBounds_toArray,List.set_cons_zero,List.set_cons_succ,i64_w,i32_w]
              rfl
            refine take_ (i:=5) (N:=some 54) (v:=?_) (a':=?_) #[true,true,true,true,true,true,true,false,false,true,false,false,false,false,false,false] rfl rfl (take_ofW HT_.out HW_.out (by kernel_rfl)) (fun _ _ _ h=>h) (Or.inl ⟨by rfl,?_⟩) hHeld ?_ ?_
            rotate_left
            · rintro w' ⟨s0,s1,s2,s3,s4,s5,s6,s7,s8,s9,s10,s11,s12,s13,s14,s15,s16,s17⟩
              go_simp
              with_reducible rfl
            rotate_left
            · simp only [Act.put,List.setIfInBounds_toArray,List.set_cons_zero,List.set_cons_succ,i64_w,i32_w]
              rfl
            refine take_ (i:=7) (N:=some 56) (v:=?_) (a':=?_) #[true,true,true,true,true,true,true,true,false,true,false,false,false,false,false,false] rfl rfl (take_ofW HT_.out HW_.out (by kernel_rfl)) (fun _ _ _ h=>h) (Or.inl ⟨by rfl,?_⟩) hHeld ?_ ?_
            rotate_left
            · rintro w' ⟨s0,s1,s2,s3,s4,s5,s6,s7,s8,s9,s10,s11,s12,s13,s14,s15,s16,s17⟩
              go_simp
              with_reducible rfl
            rotate_left
            · simp only [Act.put,List.setIfInBounds_toArray,List.set_cons_zero,List.set_cons_succ,i64_w,i32_w]
              rfl
            refine take_ (i:=10) (N:=some 59) (v:=?_) (a':=?_) #[true,true,true,true,true,true,true,true,false,true,true,false,false,false,false,false] rfl rfl (take_ofW HT_.out HW_.out (by kernel_rfl)) (fun _ _ _ h=>h) (Or.inl ⟨by rfl,?_⟩) hHeld ?_ ?_
            rotate_left
            · rintro w' ⟨s0,s1,s2,s3,s4,s5,s6,s7,s8,s9,s10,s11,s12,s13,s14,s15,s16,s17⟩
              go_simp
              with_reducible rfl
            rotate_left
            · simp only [Act.put,List.setIfInBounds_toArray,List.set_cons_zero,List.set_cons_succ,i64_w,i32_w]
              rfl
            refine one_ (i:=8) (N:=some 57) #[true,true,true,true,true,true,true,true,true,true,true,false,false,false,false,false] rfl rfl (one_of HT_.out (by kernel_rfl)) (by decide) (fun K hK=>?_)
            refine goes_ Try.func25 (by kernel_rfl) rfl #[.slice A182_2 ((rd_T68 l0_10 x4_1).f2).length c182_2] (by rfl) rfl rfl (by(try simp only [List.map_toArray,List.map_cons,List.map_nil]);first|done|rfl|(simp only [List.length_drop,List.length_take];rfl)) ?_
            with_reducible refine(undercroftplain_CopyLists.calls k1 _ _ ((rd_T68 l0_10 x4_1).f2) t184 _ ?side1 ?side2 A39.out).mono ?_
            (case side1=>repeat (first|exact(Kd.C_below HR182_2.out HB.out)|(with_reducible refine Kd.C_alloc ?_ _)|(with_reducible refine Kd.C_drewN ?_ _)|(with_reducible refine Kd.C_drew ?_)))
            (case side2=>exact HC182_2.out)
            rintro e w51 ⟨v185,rfl,ho0,hb⟩
            refine⟨_,rfl,?_⟩
            have n0_:=Aside0.mk (Kd.S_elder' (by(with_reducible repeat (first|apply Kd.S_alloc|apply Kd.S_drewN|apply Kd.S_drew));exact HO_182005.out) (Kd.S_base ho0) hb)
            have n1_:=Aside0.mk (Kd.R_below (by(with_reducible repeat (first|apply Kd.R_alloc|apply Kd.R_drewN|apply Kd.R_drew));exact HO_182007.out) hb)
            have n2_:=Aside0.mk (Kd.R_below (by(with_reducible repeat (first|apply Kd.R_alloc|apply Kd.R_drewN|apply Kd.R_drew));exact HO_182008.out) hb)
            have n3_:=Aside0.mk (Kd.R_elder' (by(with_reducible repeat (first|apply Kd.R_alloc|apply Kd.R_drewN|apply Kd.R_drew));exact HO_182010.out) (Kd.S_base ho0) hb)
            have n4_:=Aside0.mk (Kd.R_below (by(with_reducible repeat (first|apply Kd.R_alloc|apply Kd.R_drewN|apply Kd.R_drew));exact HO_182013.out) hb)
            have n5_:=Aside0.mk (Kd.S_lower (Kd.S_new' ho0 (Kd.S_lt (by(with_reducible repeat (first|apply Kd.S_alloc|apply Kd.S_drewN|apply Kd.S_drew));exact HO_182005.out))) (below_size (by repeat (first|(with_reducible first|exact HB.out|apply below_alloc|apply pw_below_drewN|apply below_drew1|refine below_set ?_ GE167.out|refine below_set ?_ GE168.out|refine below_set ?_ GE181.out|refine below_set ?_ GE183.out)|exact HB.out))))
            have n6_:=Aside0.mk (blk_below (g:=gb167) (o:=.cells #[.int .i64 a0_0,.int .i64 a0_1,.int .i64 a0_2,.int .i64 a0_3,.int .i64 a0_4,.slice A0_5 l0_5.length c0_5,.int .i64 a0_6,.slice A0_7 l0_7.length c0_7,.slice A0_8 l0_8.length c0_8,.bool a0_9,.slice (some ad182) l0_10.length c0_10,.int .i64 a0_11,.int .i64 a0_12,.slice A0_13 l0_13.length c0_13] 44 (0,0)) (by(with_reducible repeat (first|refine blk_drewN ?_ _|refine blk_drew ?_|refine blk_alloc ?_ _));exact BK167.out) hb)
            have n7_:=Aside0.mk (blk_below (g:=gb168) (o:=.cells #[.int .i64 0,.int .i64 0,.int .i64 0,.int .i64 0,.int .i64 0,.slice none 0 0,.int .i64 0,.slice none 0 0,.slice none 0 0,.bool false,.slice none 0 0,.int .i64 0,.int .i64 0,.slice none 0 0] 29 (0,0)) (by(with_reducible repeat (first|refine blk_drewN ?_ _|refine blk_drew ?_|refine blk_alloc ?_ _));exact BK168.out) hb)
            have n8_:=Aside0.mk (blk_below (g:=gb181) (o:=.cells #[.int .i64 a0_0,.int .i64 a0_1,.int .i64 a0_2,.int .i64 a0_3,.int .i64 a0_4,.slice Ao22 t169.length co22,.int .i64 a0_6,.slice Ao21 t172.length co21,.slice Ao20 t175.length co20,.bool a0_9,u182010,.int .i64 a0_11,.int .i64 a0_12,.slice Ao19 t178.length co19] 29 (0,0)) (by(with_reducible repeat (first|refine blk_drewN ?_ _|refine blk_drew ?_|refine blk_alloc ?_ _));exact BK181.out) hb)
            have n9_:=Aside0.mk (blk_below (g:=gb183) (o:=.cells #[.bool ((rd_T68 l0_10 x4_1).f0),.int .i64 ((rd_T68 l0_10 x4_1).f1),.slice A182_2 ((rd_T68 l0_10 x4_1).f2).length c182_2,.int .i64 ((rd_T68 l0_10 x4_1).f3)] 68 (0,0)) (by(with_reducible repeat (first|refine blk_drewN ?_ _|refine blk_drew ?_|refine blk_alloc ?_ _));exact BK183.out) hb)
            have n10_:=Aside0.mk (below_step (by repeat (first|(with_reducible first|exact HB.out|apply below_alloc|apply pw_below_drewN|apply below_drew1|refine below_set ?_ GE167.out|refine below_set ?_ GE168.out|refine below_set ?_ GE181.out|refine below_set ?_ GE183.out)|exact HB.out)) hb)
            clear HO_182005
            clear HO_182007
            clear HO_182008
            clear HO_182010
            clear HO_182013
            clear BK167
            clear BK168
            clear BK181
            clear BK183
            clear HB
            have HO_182005:=n0_
            have HO_182007:=n1_
            have HO_182008:=n2_
            have HO_182010:=n3_
            have HO_182013:=n4_
            have HO186:=n5_
            have BK167:=n6_
            have BK168:=n7_
            have BK181:=n8_
            have BK183:=n9_
            have HB:=n10_
            clear n0_ n1_ n2_ n3_ n4_ n5_ n6_ n7_ n8_ n9_ n10_
            (try clear hb)
            (try clear hb2)
            (try clear hk)
            (try clear hi)
            (try clear ho0)
            obtain ⟨Ao52,co52,eo52⟩:=Kd.S_slice HO186.out
            (first|subst eo52|(injection eo52 with f1_ f2_ f3_;have f4_:=f1_.symm;have f5_:=f3_.symm;clear f1_ f2_ f3_;subst f4_;subst f5_))
            refine hK.out _ _ ⟨(blk_cell BK181.out 0).trans rfl,(blk_cell BK181.out 1).trans rfl,(blk_cell BK181.out 2).trans rfl,(blk_cell BK181.out 3).trans rfl,(blk_cell BK181.out 4).trans rfl,(blk_cell BK181.out 5).trans rfl,(blk_cell BK181.out 6).trans rfl,(blk_cell BK181.out 7).trans rfl,(blk_cell BK181.out 8).trans rfl,(blk_cell BK181.out 9).trans rfl,(blk_cell BK181.out 10).trans rfl,(blk_cell BK181.out 11).trans rfl,(blk_cell BK181.out 12).trans rfl,(blk_cell BK181.out 13).trans rfl,(blk_cell BK183.out 0).trans rfl,(blk_cell BK183.out 1).trans rfl,(blk_cell BK183.out 2).trans rfl,(blk_cell BK183.out 3).trans rfl⟩ (fun hHeld=>?_)
            clear hK K
            refine norm_ (a':=?_) ?_ ?_
            rotate_left
            · show Act.put _ (some 57) _ = _
              simp only [Act.put,List.setIfInBounds_toArray,List.set_cons_zero,List.set_cons_succ,i64_w,i32_w]
              rfl
            refine pure_ (i:=11) (N:=some 60) (v:=?_) (a':=?_) #[true,true,true,true,true,true,true,true,true,true,true,true,false,false,false,false] rfl rfl (any_of HT_.out (by kernel_rfl)) (fun _ _ _ h=>h) (Or.inl ⟨by rfl,?_⟩) ?_ ?_
            rotate_left
            · intro w'
              go_simp
              with_reducible rfl
            rotate_left
            · simp only [Act.put,List.setIfInBounds_toArray,List.set_cons_zero,List.set_cons_succ,i64_w,i32_w]
              rfl
            refine one_ (i:=12) (N:=some 61) #[true,true,true,true,true,true,true,true,true,true,true,true,true,false,false,false] rfl rfl (one_of HT_.out (by kernel_rfl)) (by decide) (fun K hK=>?_)
            refine value_ (w1:=?_) (v:=?_) (by rfl) rfl ?_ ?_
            rotate_left 2
            · go_simp
              constructor
              · rfl
              · rfl
            refine hK.out _ _ ⟨(blk_cell (blk_alloc BK181.out _) 0).trans rfl,(blk_cell (blk_alloc BK181.out _) 1).trans rfl,(blk_cell (blk_alloc BK181.out _) 2).trans rfl,(blk_cell (blk_alloc BK181.out _) 3).trans rfl,(blk_cell (blk_alloc BK181.out _) 4).trans rfl,(blk_cell (blk_alloc BK181.out _) 5).trans rfl,(blk_cell (blk_alloc BK181.out _) 6).trans rfl,(blk_cell (blk_alloc BK181.out _) 7).trans rfl,(blk_cell (blk_alloc BK181.out _) 8).trans rfl,(blk_cell (blk_alloc BK181.out _) 9).trans rfl,(blk_cell (blk_alloc BK181.out _) 10).trans rfl,(blk_cell (blk_alloc BK181.out _) 11).trans rfl,(blk_cell (blk_alloc BK181.out _) 12).trans rfl,(blk_cell (blk_alloc BK181.out _) 13).trans rfl,(blk_cell (blk_alloc BK183.out _) 0).trans rfl,(blk_cell (blk_alloc BK183.out _) 1).trans rfl,(blk_cell (blk_alloc BK183.out _) 2).trans rfl,(blk_cell (blk_alloc BK183.out _) 3).trans rfl⟩ (fun hHeld=>?_)
            clear hK K
            refine norm_ (a':=?_) ?_ ?_
            rotate_left
            · show Act.put _ (some 61) _ = _
              simp only [Act.put,List.setIfInBounds_toArray,List.set_cons_zero,List.set_cons_succ,i64_w,i32_w]
              rfl
            refine one_ (i:=13) (N:=some 62) #[true,true,true,true,true,true,true,true,true,true,true,true,true,true,false,false] rfl rfl (one_of HT_.out (by kernel_rfl)) (by decide) (fun K hK=>?_)
            refine Kd.R_append_step k69 (w0:=w) w.heap.size (by rfl) (.tmp 50) (.tmp 61) 27 69 (.agg #[(.bool false),(.int .i64 0),(.slice none 0 0),(.int .i64 0)]) 48 rfl Try.underlying27 info69 rfl (by decide) (by omega) u182010 x182010_1 (⟨(rd_T68 l0_10 x4_1).f0,(rd_T68 l0_10 x4_1).f1,t184,(rd_T68 l0_10 x4_1).f3⟩ : S69) [.bool ((rd_T68 l0_10 x4_1).f0),.int .i64 ((rd_T68 l0_10 x4_1).f1),.slice Ao52 t184.length co52,.int .i64 ((rd_T68 l0_10 x4_1).f3)] (fun k_=>some k_ ≠ (.slice Ao22 t169.length co22 : Value).ownBlock) (fun k_=>((fun k_=>some k_ ≠ (.slice Ao22 t169.length co22 : Value).ownBlock)) k_∧some k_ ≠ (u182010 : Value).ownBlock) rfl rfl ?aP (fun _ hk=>hk) ?aF ?aO ?aB ?aS ?aL ?_
            (case aP=>exact k69_mkM _ _ _ (⟨(rd_T68 l0_10 x4_1).f0,(rd_T68 l0_10 x4_1).f1,t184,(rd_T68 l0_10 x4_1).f3⟩ : S69) (Kd.R_mono (Kd.R_apart' ((Kd.S_R HO186.out)) (Kd.R_typed HO_182010.out) (by decide)) (fun k_ hk=>⟨hk.1.2,hk.2⟩)))
            (case aB=>exact(by repeat (first|(with_reducible first|exact HB.out|apply below_alloc|apply pw_below_drewN|apply below_drew1|refine below_set ?_ GE167.out|refine below_set ?_ GE168.out|refine below_set ?_ GE181.out|refine below_set ?_ GE183.out)|exact HB.out)))
            (case aF=>exact(fun k_ hk=>Kd.fresh' (Kd.S_lt (by(with_reducible repeat (first|apply Kd.S_alloc|apply Kd.S_drewN|apply Kd.S_drew));exact HO_182005.out)) k_ hk))
            (case aO=>exact(by(with_reducible repeat (first|apply Kd.R_alloc|apply Kd.R_drewN|apply Kd.R_drew));exact Kd.R_mono HO_182010.out (fun _ hk=>hk.1)))
            (case aS=>exact(below_size (by repeat (first|(with_reducible first|exact HB.out|apply below_alloc|apply pw_below_drewN|apply below_drew1|refine below_set ?_ GE167.out|refine below_set ?_ GE168.out|refine below_set ?_ GE181.out|refine below_set ?_ GE183.out)|exact HB.out))))
            (case aL=>have:=LMc40.out;omega)
            intro v188 w53 ho hb hg hat
            rw [← Ny187.out] at ho
            have n0_:=Aside0.mk (Kd.S_over' (by(with_reducible repeat (first|apply Kd.S_alloc|apply Kd.S_drewN|apply Kd.S_drew));exact HO_182005.out) (Kd.R_typed (by(with_reducible repeat (first|apply Kd.R_alloc|apply Kd.R_drewN|apply Kd.R_drew));exact HO_182010.out)) (by decide) hg)
            have n1_:=Aside0.mk (Kd.R_over' (by(with_reducible repeat (first|apply Kd.R_alloc|apply Kd.R_drewN|apply Kd.R_drew));exact HO_182007.out) (Kd.R_typed (by(with_reducible repeat (first|apply Kd.R_alloc|apply Kd.R_drewN|apply Kd.R_drew));exact HO_182010.out)) (by decide) hg)
            have n2_:=Aside0.mk (Kd.R_over' (by(with_reducible repeat (first|apply Kd.R_alloc|apply Kd.R_drewN|apply Kd.R_drew));exact HO_182008.out) (Kd.R_typed (by(with_reducible repeat (first|apply Kd.R_alloc|apply Kd.R_drewN|apply Kd.R_drew));exact HO_182010.out)) (by decide) hg)
            have n3_:=Aside0.mk (Kd.R_over' (by(with_reducible repeat (first|apply Kd.R_alloc|apply Kd.R_drewN|apply Kd.R_drew));exact HO_182013.out) (Kd.R_typed (by(with_reducible repeat (first|apply Kd.R_alloc|apply Kd.R_drewN|apply Kd.R_drew));exact HO_182010.out)) (by decide) hg)
            have n4_:=Aside0.mk (blk_grown (g:=gb167) (o:=.cells #[.int .i64 a0_0,.int .i64 a0_1,.int .i64 a0_2,.int .i64 a0_3,.int .i64 a0_4,.slice A0_5 l0_5.length c0_5,.int .i64 a0_6,.slice A0_7 l0_7.length c0_7,.slice A0_8 l0_8.length c0_8,.bool a0_9,.slice (some ad182) l0_10.length c0_10,.int .i64 a0_11,.int .i64 a0_12,.slice A0_13 l0_13.length c0_13] 44 (0,0)) (by(with_reducible repeat (first|refine blk_drewN ?_ _|refine blk_drew ?_|refine blk_alloc ?_ _));exact BK167.out) hg (Kd.R_ne HO_182010.out BK167.out (by decide)))
            have n5_:=Aside0.mk (blk_grown (g:=gb168) (o:=.cells #[.int .i64 0,.int .i64 0,.int .i64 0,.int .i64 0,.int .i64 0,.slice none 0 0,.int .i64 0,.slice none 0 0,.slice none 0 0,.bool false,.slice none 0 0,.int .i64 0,.int .i64 0,.slice none 0 0] 29 (0,0)) (by(with_reducible repeat (first|refine blk_drewN ?_ _|refine blk_drew ?_|refine blk_alloc ?_ _));exact BK168.out) hg (Kd.R_ne HO_182010.out BK168.out (by decide)))
            have n6_:=Aside0.mk (blk_grown (g:=gb181) (o:=.cells #[.int .i64 a0_0,.int .i64 a0_1,.int .i64 a0_2,.int .i64 a0_3,.int .i64 a0_4,.slice Ao22 t169.length co22,.int .i64 a0_6,.slice Ao21 t172.length co21,.slice Ao20 t175.length co20,.bool a0_9,u182010,.int .i64 a0_11,.int .i64 a0_12,.slice Ao19 t178.length co19] 29 (0,0)) (by(with_reducible repeat (first|refine blk_drewN ?_ _|refine blk_drew ?_|refine blk_alloc ?_ _));exact BK181.out) hg (Kd.R_ne HO_182010.out BK181.out (by decide)))
            have n7_:=Aside0.mk (blk_grown (g:=gb183) (o:=.cells #[.bool ((rd_T68 l0_10 x4_1).f0),.int .i64 ((rd_T68 l0_10 x4_1).f1),.slice A182_2 ((rd_T68 l0_10 x4_1).f2).length c182_2,.int .i64 ((rd_T68 l0_10 x4_1).f3)] 68 (0,0)) (by(with_reducible repeat (first|refine blk_drewN ?_ _|refine blk_drew ?_|refine blk_alloc ?_ _));exact BK183.out) hg (Kd.R_ne HO_182010.out BK183.out (by decide)))
            have n8_:=Aside0.mk (hb)
            have n9_:=Aside0.mk (ho)
            clear HO_182005
            clear HO_182007
            clear HO_182008
            clear HO_182013
            clear BK167
            clear BK168
            clear BK181
            clear BK183
            clear HB
            clear HO_182010
            clear HO186
            have HO_182005:=n0_
            have HO_182007:=n1_
            have HO_182008:=n2_
            have HO_182013:=n3_
            have BK167:=n4_
            have BK168:=n5_
            have BK181:=n6_
            have BK183:=n7_
            have HB:=n8_
            have HO189:=n9_
            clear n0_ n1_ n2_ n3_ n4_ n5_ n6_ n7_ n8_ n9_
            clear ho hb hg hat
            obtain ⟨Ao54,co54,eo54⟩:=Kd.R_slice HO189.out
            (first|subst eo54|(injection eo54 with f1_ f2_ f3_;have f4_:=f1_.symm;have f5_:=f3_.symm;clear f1_ f2_ f3_;subst f4_;subst f5_))
            refine hK.out _ _ ⟨(blk_cell BK181.out 0).trans rfl,(blk_cell BK181.out 1).trans rfl,(blk_cell BK181.out 2).trans rfl,(blk_cell BK181.out 3).trans rfl,(blk_cell BK181.out 4).trans rfl,(blk_cell BK181.out 5).trans rfl,(blk_cell BK181.out 6).trans rfl,(blk_cell BK181.out 7).trans rfl,(blk_cell BK181.out 8).trans rfl,(blk_cell BK181.out 9).trans rfl,(blk_cell BK181.out 10).trans rfl,(blk_cell BK181.out 11).trans rfl,(blk_cell BK181.out 12).trans rfl,(blk_cell BK181.out 13).trans rfl,(blk_cell BK183.out 0).trans rfl,(blk_cell BK183.out 1).trans rfl,(blk_cell BK183.out 2).trans rfl,(blk_cell BK183.out 3).trans rfl⟩ (fun hHeld=>?_)
            clear hK K
            refine norm_ (a':=?_) ?_ ?_
            rotate_left
            · show Act.put _ (some 62) _ = _
              simp only [Act.put,List.setIfInBounds_toArray,List.set_cons_zero,List.set_cons_succ,i64_w,i32_w]
              rfl
            refine pure_ (i:=14) (N:=some 63) (v:=?_) (a':=?_) #[true,true,true,true,true,true,true,true,true,true,true,true,true,true,true,false] rfl rfl (any_of HT_.out (by kernel_rfl)) (fun _ _ _ h=>h) (Or.inl ⟨by rfl,?_⟩) ?_ ?_
            rotate_left
            · intro w'
              go_simp
              with_reducible rfl
            rotate_left
            · simp only [Act.put,List.setIfInBounds_toArray,List.set_cons_zero,List.set_cons_succ,i64_w,i32_w]
              rfl
            refine last_ (i:=15) (N:=none) #[true,true,true,true,true,true,true,true,true,true,true,true,true,true,true,true] rfl rfl (one_of HT_.out (by kernel_rfl)) (by decide) (fun K hK=>?_)
            have hs55 : w53.cell? ⟨gb181,10,none⟩ = some (u182010):=(blk_cell BK181.out 10).trans rfl
            have hfs55:=blk_frozen BK181.out 10
            have hns55_0:=NB167_181.out
            have hns55_1:=NB168_181.out
            have hns55_3:=NB183_181.out
            have hms55_0:=NB181_167.out
            have hms55_1:=NB181_168.out
            have hms55_3:=NB181_183.out
            refine skip_ (w1:=?_) (by rfl) rfl ?_ ?_
            rotate_left
            · go_simp
              rfl
            refine hK.out _ _ ?_
            clear hK K
            refine done_ (done_of HT_.out (by kernel_rfl)) ?_
            try go_wp2
            go_roundg k1
            case measure=>have:=HK1.out;omega
            case rel=>exact⟨(wrap64 (x4_1 + 1)),(y187),(.slice Ao54 y187.length co54),(by first|rfl|(simp;done)|(simp [*];done)),H',⟨by have:=HK1.out;omega⟩,⟨by(with_reducible repeat (first|apply Kd.S_alloc|apply Kd.S_drewN|apply Kd.S_drew));exact Kd.S_mono (Kd.S_far (p:=⟨gb181,10,none⟩) (Kd.S_types HO_182005.out BK181.out (by decide)) (fun _ hk=>hk.2) (.slice Ao54 y187.length co54)) (fun _ hk=>trivial)⟩,⟨by(with_reducible repeat (first|apply Kd.R_alloc|apply Kd.R_drewN|apply Kd.R_drew));exact Kd.R_mono (Kd.R_far (p:=⟨gb181,10,none⟩) (Kd.R_types HO_182007.out BK181.out (by decide)) (fun _ hk=>hk.2) (.slice Ao54 y187.length co54)) (fun _ hk=>hk.1)⟩,⟨by(with_reducible repeat (first|apply Kd.R_alloc|apply Kd.R_drewN|apply Kd.R_drew));exact Kd.R_mono (Kd.R_far (p:=⟨gb181,10,none⟩) (Kd.R_types HO_182008.out BK181.out (by decide)) (fun _ hk=>hk.2) (.slice Ao54 y187.length co54)) (fun _ hk=>trivial)⟩,⟨by(with_reducible repeat (first|apply Kd.R_alloc|apply Kd.R_drewN|apply Kd.R_drew));exact Kd.R_mono (Kd.R_far (p:=⟨gb181,10,none⟩) (Kd.R_types HO189.out BK181.out (by decide)) (fun _ hk=>hk.2) (.slice Ao54 y187.length co54)) (fun _ hk=>hk.1)⟩,⟨by(with_reducible repeat (first|apply Kd.R_alloc|apply Kd.R_drewN|apply Kd.R_drew));exact Kd.R_mono (Kd.R_far (p:=⟨gb181,10,none⟩) (Kd.R_types HO_182013.out BK181.out (by decide)) (fun _ hk=>hk.2) (.slice Ao54 y187.length co54)) (fun _ hk=>hk.1)⟩,⟨by(with_reducible repeat (first|refine blk_drewN ?_ _|refine blk_drew ?_|refine blk_alloc ?_ _));refine blk_far ?_ NB167_181.out _;(with_reducible repeat (first|refine blk_drewN ?_ _|refine blk_drew ?_|refine blk_alloc ?_ _));exact BK167.out⟩,⟨by(with_reducible repeat (first|refine blk_drewN ?_ _|refine blk_drew ?_|refine blk_alloc ?_ _));refine blk_far ?_ NB168_181.out _;(with_reducible repeat (first|refine blk_drewN ?_ _|refine blk_drew ?_|refine blk_alloc ?_ _));exact BK168.out⟩,⟨by(with_reducible repeat (first|refine blk_drewN ?_ _|refine blk_drew ?_|refine blk_alloc ?_ _));refine blk_put (cs:=#[.int .i64 a0_0,.int .i64 a0_1,.int .i64 a0_2,.int .i64 a0_3,.int .i64 a0_4,.slice Ao22 t169.length co22,.int .i64 a0_6,.slice Ao21 t172.length co21,.slice Ao20 t175.length co20,.bool a0_9,u182010,.int .i64 a0_11,.int .i64 a0_12,.slice Ao19 t178.length co19]) ?_ 10 _ rfl;(with_reducible repeat (first|refine blk_drewN ?_ _|refine blk_drew ?_|refine blk_alloc ?_ _));exact BK181.out⟩,⟨by repeat (first|(with_reducible first|exact HB.out|apply below_alloc|apply pw_below_drewN|apply below_drew1|refine below_set ?_ GE167.out|refine below_set ?_ GE168.out|refine below_set ?_ GE181.out|refine below_set ?_ GE183.out)|exact HB.out)⟩⟩
          · rw [if_neg c40] at H
            exact absurd H (by simp)
        · rw [if_neg c38] at H
          exact absurd H (by simp)
      · rw [if_neg c37] at H
        have c37b0 : decide (x4_1 < (l0_10.length : Int)) = false:=decide_eq_false c37
        clear c37
        simp only [Option.some.injEq,Prod.mk.injEq] at H
        obtain ⟨rfl,rfl,rfl,rfl,rfl,rfl,rfl,rfl,rfl,rfl,rfl,rfl,rfl,rfl⟩:=H
        have hnb56:=NB167_168.out
        have hnc56:=NB168_167.out
        have hnb57:=NB167_181.out
        have hnc57:=NB181_167.out
        have hcz58_0 : wr.cell? ⟨gb167,0,none⟩ = some (.int .i64 a0_0):=(blk_cell BK167.out 0).trans rfl
        have hcz58_1 : wr.cell? ⟨gb167,1,none⟩ = some (.int .i64 a0_1):=(blk_cell BK167.out 1).trans rfl
        have hcz58_2 : wr.cell? ⟨gb167,2,none⟩ = some (.int .i64 a0_2):=(blk_cell BK167.out 2).trans rfl
        have hcz58_3 : wr.cell? ⟨gb167,3,none⟩ = some (.int .i64 a0_3):=(blk_cell BK167.out 3).trans rfl
        have hcz58_4 : wr.cell? ⟨gb167,4,none⟩ = some (.int .i64 a0_4):=(blk_cell BK167.out 4).trans rfl
        have hcz58_5 : wr.cell? ⟨gb167,5,none⟩ = some (.slice A0_5 l0_5.length c0_5):=(blk_cell BK167.out 5).trans rfl
        have hcz58_6 : wr.cell? ⟨gb167,6,none⟩ = some (.int .i64 a0_6):=(blk_cell BK167.out 6).trans rfl
        have hcz58_7 : wr.cell? ⟨gb167,7,none⟩ = some (.slice A0_7 l0_7.length c0_7):=(blk_cell BK167.out 7).trans rfl
        have hcz58_8 : wr.cell? ⟨gb167,8,none⟩ = some (.slice A0_8 l0_8.length c0_8):=(blk_cell BK167.out 8).trans rfl
        have hcz58_9 : wr.cell? ⟨gb167,9,none⟩ = some (.bool a0_9):=(blk_cell BK167.out 9).trans rfl
        have hcz58_10 : wr.cell? ⟨gb167,10,none⟩ = some (.slice A0_10 l0_10.length c0_10):=(blk_cell BK167.out 10).trans rfl
        have hcz58_11 : wr.cell? ⟨gb167,11,none⟩ = some (.int .i64 a0_11):=(blk_cell BK167.out 11).trans rfl
        have hcz58_12 : wr.cell? ⟨gb167,12,none⟩ = some (.int .i64 a0_12):=(blk_cell BK167.out 12).trans rfl
        have hcz58_13 : wr.cell? ⟨gb167,13,none⟩ = some (.slice A0_13 l0_13.length c0_13):=(blk_cell BK167.out 13).trans rfl
        have hfz58_0:=blk_frozen BK167.out 0
        have hfz58_1:=blk_frozen BK167.out 1
        have hfz58_2:=blk_frozen BK167.out 2
        have hfz58_3:=blk_frozen BK167.out 3
        have hfz58_4:=blk_frozen BK167.out 4
        have hfz58_5:=blk_frozen BK167.out 5
        have hfz58_6:=blk_frozen BK167.out 6
        have hfz58_7:=blk_frozen BK167.out 7
        have hfz58_8:=blk_frozen BK167.out 8
        have hfz58_9:=blk_frozen BK167.out 9
        have hfz58_10:=blk_frozen BK167.out 10
        have hfz58_11:=blk_frozen BK167.out 11
        have hfz58_12:=blk_frozen BK167.out 12
        have hfz58_13:=blk_frozen BK167.out 13
        have hnb59:=NB181_168.out
        have hnc59:=NB168_181.out
        have hcz60_0 : wr.cell? ⟨gb181,0,none⟩ = some (.int .i64 a0_0):=(blk_cell BK181.out 0).trans rfl
        have hcz60_1 : wr.cell? ⟨gb181,1,none⟩ = some (.int .i64 a0_1):=(blk_cell BK181.out 1).trans rfl
        have hcz60_2 : wr.cell? ⟨gb181,2,none⟩ = some (.int .i64 a0_2):=(blk_cell BK181.out 2).trans rfl
        have hcz60_3 : wr.cell? ⟨gb181,3,none⟩ = some (.int .i64 a0_3):=(blk_cell BK181.out 3).trans rfl
        have hcz60_4 : wr.cell? ⟨gb181,4,none⟩ = some (.int .i64 a0_4):=(blk_cell BK181.out 4).trans rfl
        have hcz60_5 : wr.cell? ⟨gb181,5,none⟩ = some (.slice Ao22 t169.length co22):=(blk_cell BK181.out 5).trans rfl
        have hcz60_6 : wr.cell? ⟨gb181,6,none⟩ = some (.int .i64 a0_6):=(blk_cell BK181.out 6).trans rfl
        have hcz60_7 : wr.cell? ⟨gb181,7,none⟩ = some (.slice Ao21 t172.length co21):=(blk_cell BK181.out 7).trans rfl
        have hcz60_8 : wr.cell? ⟨gb181,8,none⟩ = some (.slice Ao20 t175.length co20):=(blk_cell BK181.out 8).trans rfl
        have hcz60_9 : wr.cell? ⟨gb181,9,none⟩ = some (.bool a0_9):=(blk_cell BK181.out 9).trans rfl
        have hcz60_10 : wr.cell? ⟨gb181,10,none⟩ = some (u182010):=(blk_cell BK181.out 10).trans rfl
        have hcz60_11 : wr.cell? ⟨gb181,11,none⟩ = some (.int .i64 a0_11):=(blk_cell BK181.out 11).trans rfl
        have hcz60_12 : wr.cell? ⟨gb181,12,none⟩ = some (.int .i64 a0_12):=(blk_cell BK181.out 12).trans rfl
        have hcz60_13 : wr.cell? ⟨gb181,13,none⟩ = some (.slice Ao19 t178.length co19):=(blk_cell BK181.out 13).trans rfl
        have hfz60_0:=blk_frozen BK181.out 0
        have hfz60_1:=blk_frozen BK181.out 1
        have hfz60_2:=blk_frozen BK181.out 2
        have hfz60_3:=blk_frozen BK181.out 3
        have hfz60_4:=blk_frozen BK181.out 4
        have hfz60_5:=blk_frozen BK181.out 5
        have hfz60_6:=blk_frozen BK181.out 6
        have hfz60_7:=blk_frozen BK181.out 7
        have hfz60_8:=blk_frozen BK181.out 8
        have hfz60_9:=blk_frozen BK181.out 9
        have hfz60_10:=blk_frozen BK181.out 10
        have hfz60_11:=blk_frozen BK181.out 11
        have hfz60_12:=blk_frozen BK181.out 12
        have hfz60_13:=blk_frozen BK181.out 13
        have hcz61_0 : wr.cell? ⟨gb168,0,none⟩ = some (.int .i64 0):=(blk_cell BK168.out 0).trans rfl
        have hcz61_1 : wr.cell? ⟨gb168,1,none⟩ = some (.int .i64 0):=(blk_cell BK168.out 1).trans rfl
        have hcz61_2 : wr.cell? ⟨gb168,2,none⟩ = some (.int .i64 0):=(blk_cell BK168.out 2).trans rfl
        have hcz61_3 : wr.cell? ⟨gb168,3,none⟩ = some (.int .i64 0):=(blk_cell BK168.out 3).trans rfl
        have hcz61_4 : wr.cell? ⟨gb168,4,none⟩ = some (.int .i64 0):=(blk_cell BK168.out 4).trans rfl
        have hcz61_5 : wr.cell? ⟨gb168,5,none⟩ = some (.slice none 0 0):=(blk_cell BK168.out 5).trans rfl
        have hcz61_6 : wr.cell? ⟨gb168,6,none⟩ = some (.int .i64 0):=(blk_cell BK168.out 6).trans rfl
        have hcz61_7 : wr.cell? ⟨gb168,7,none⟩ = some (.slice none 0 0):=(blk_cell BK168.out 7).trans rfl
        have hcz61_8 : wr.cell? ⟨gb168,8,none⟩ = some (.slice none 0 0):=(blk_cell BK168.out 8).trans rfl
        have hcz61_9 : wr.cell? ⟨gb168,9,none⟩ = some (.bool false):=(blk_cell BK168.out 9).trans rfl
        have hcz61_10 : wr.cell? ⟨gb168,10,none⟩ = some (.slice none 0 0):=(blk_cell BK168.out 10).trans rfl
        have hcz61_11 : wr.cell? ⟨gb168,11,none⟩ = some (.int .i64 0):=(blk_cell BK168.out 11).trans rfl
        have hcz61_12 : wr.cell? ⟨gb168,12,none⟩ = some (.int .i64 0):=(blk_cell BK168.out 12).trans rfl
        have hcz61_13 : wr.cell? ⟨gb168,13,none⟩ = some (.slice none 0 0):=(blk_cell BK168.out 13).trans rfl
        have hfz61_0:=blk_frozen BK168.out 0
        have hfz61_1:=blk_frozen BK168.out 1
        have hfz61_2:=blk_frozen BK168.out 2
        have hfz61_3:=blk_frozen BK168.out 3
        have hfz61_4:=blk_frozen BK168.out 4
        have hfz61_5:=blk_frozen BK168.out 5
        have hfz61_6:=blk_frozen BK168.out 6
        have hfz61_7:=blk_frozen BK168.out 7
        have hfz61_8:=blk_frozen BK168.out 8
        have hfz61_9:=blk_frozen BK168.out 9
        have hfz61_10:=blk_frozen BK168.out 10
        have hfz61_11:=blk_frozen BK168.out 11
        have hfz61_12:=blk_frozen BK168.out 12
        have hfz61_13:=blk_frozen BK168.out 13
        obtain ⟨Ao62,co62,eo62⟩:=Kd.R_slice HO_182010.out
        subst eo62
        go_wp2
        refine bodyPost_ret (results_cell_row rfl _ _ gb168 29 #[.int .i64 a0_0,.int .i64 a0_1,.int .i64 a0_2,.int .i64 a0_3,.int .i64 a0_4,.slice Ao22 t169.length co22,.int .i64 a0_6,.slice Ao21 t172.length co21,.slice Ao20 t175.length co20,.bool a0_9,.slice Ao62 x182010_1.length co62,.int .i64 a0_11,.int .i64 a0_12,.slice Ao19 t178.length co19] (0,0) _ rfl (by(with_reducible repeat (first|refine blk_drewN ?_ _|refine blk_drew ?_|refine blk_alloc ?_ _));refine blk_put (cs:=#[.int .i64 a0_0,.int .i64 a0_1,.int .i64 a0_2,.int .i64 a0_3,.int .i64 a0_4,.slice Ao22 t169.length co22,.int .i64 a0_6,.slice Ao21 t172.length co21,.slice Ao20 t175.length co20,.bool a0_9,.slice Ao62 x182010_1.length co62,.int .i64 a0_11,.int .i64 a0_12,.slice none 0 0]) ?_ 13 _ rfl;(with_reducible repeat (first|refine blk_drewN ?_ _|refine blk_drew ?_|refine blk_alloc ?_ _));refine blk_put (cs:=#[.int .i64 a0_0,.int .i64 a0_1,.int .i64 a0_2,.int .i64 a0_3,.int .i64 a0_4,.slice Ao22 t169.length co22,.int .i64 a0_6,.slice Ao21 t172.length co21,.slice Ao20 t175.length co20,.bool a0_9,.slice Ao62 x182010_1.length co62,.int .i64 a0_11,.int .i64 0,.slice none 0 0]) ?_ 12 _ rfl;(with_reducible repeat (first|refine blk_drewN ?_ _|refine blk_drew ?_|refine blk_alloc ?_ _));refine blk_put (cs:=#[.int .i64 a0_0,.int .i64 a0_1,.int .i64 a0_2,.int .i64 a0_3,.int .i64 a0_4,.slice Ao22 t169.length co22,.int .i64 a0_6,.slice Ao21 t172.length co21,.slice Ao20 t175.length co20,.bool a0_9,.slice Ao62 x182010_1.length co62,.int .i64 0,.int .i64 0,.slice none 0 0]) ?_ 11 _ rfl;(with_reducible repeat (first|refine blk_drewN ?_ _|refine blk_drew ?_|refine blk_alloc ?_ _));refine blk_put (cs:=#[.int .i64 a0_0,.int .i64 a0_1,.int .i64 a0_2,.int .i64 a0_3,.int .i64 a0_4,.slice Ao22 t169.length co22,.int .i64 a0_6,.slice Ao21 t172.length co21,.slice Ao20 t175.length co20,.bool a0_9,.slice none 0 0,.int .i64 0,.int .i64 0,.slice none 0 0]) ?_ 10 _ rfl;(with_reducible repeat (first|refine blk_drewN ?_ _|refine blk_drew ?_|refine blk_alloc ?_ _));refine blk_put (cs:=#[.int .i64 a0_0,.int .i64 a0_1,.int .i64 a0_2,.int .i64 a0_3,.int .i64 a0_4,.slice Ao22 t169.length co22,.int .i64 a0_6,.slice Ao21 t172.length co21,.slice Ao20 t175.length co20,.bool false,.slice none 0 0,.int .i64 0,.int .i64 0,.slice none 0 0]) ?_ 9 _ rfl;(with_reducible repeat (first|refine blk_drewN ?_ _|refine blk_drew ?_|refine blk_alloc ?_ _));refine blk_put (cs:=#[.int .i64 a0_0,.int .i64 a0_1,.int .i64 a0_2,.int .i64 a0_3,.int .i64 a0_4,.slice Ao22 t169.length co22,.int .i64 a0_6,.slice Ao21 t172.length co21,.slice none 0 0,.bool false,.slice none 0 0,.int .i64 0,.int .i64 0,.slice none 0 0]) ?_ 8 _ rfl;(with_reducible repeat (first|refine blk_drewN ?_ _|refine blk_drew ?_|refine blk_alloc ?_ _));refine blk_put (cs:=#[.int .i64 a0_0,.int .i64 a0_1,.int .i64 a0_2,.int .i64 a0_3,.int .i64 a0_4,.slice Ao22 t169.length co22,.int .i64 a0_6,.slice none 0 0,.slice none 0 0,.bool false,.slice none 0 0,.int .i64 0,.int .i64 0,.slice none 0 0]) ?_ 7 _ rfl;(with_reducible repeat (first|refine blk_drewN ?_ _|refine blk_drew ?_|refine blk_alloc ?_ _));refine blk_put (cs:=#[.int .i64 a0_0,.int .i64 a0_1,.int .i64 a0_2,.int .i64 a0_3,.int .i64 a0_4,.slice Ao22 t169.length co22,.int .i64 0,.slice none 0 0,.slice none 0 0,.bool false,.slice none 0 0,.int .i64 0,.int .i64 0,.slice none 0 0]) ?_ 6 _ rfl;(with_reducible repeat (first|refine blk_drewN ?_ _|refine blk_drew ?_|refine blk_alloc ?_ _));refine blk_put (cs:=#[.int .i64 a0_0,.int .i64 a0_1,.int .i64 a0_2,.int .i64 a0_3,.int .i64 a0_4,.slice none 0 0,.int .i64 0,.slice none 0 0,.slice none 0 0,.bool false,.slice none 0 0,.int .i64 0,.int .i64 0,.slice none 0 0]) ?_ 5 _ rfl;(with_reducible repeat (first|refine blk_drewN ?_ _|refine blk_drew ?_|refine blk_alloc ?_ _));refine blk_put (cs:=#[.int .i64 a0_0,.int .i64 a0_1,.int .i64 a0_2,.int .i64 a0_3,.int .i64 0,.slice none 0 0,.int .i64 0,.slice none 0 0,.slice none 0 0,.bool false,.slice none 0 0,.int .i64 0,.int .i64 0,.slice none 0 0]) ?_ 4 _ rfl;(with_reducible repeat (first|refine blk_drewN ?_ _|refine blk_drew ?_|refine blk_alloc ?_ _));refine blk_put (cs:=#[.int .i64 a0_0,.int .i64 a0_1,.int .i64 a0_2,.int .i64 0,.int .i64 0,.slice none 0 0,.int .i64 0,.slice none 0 0,.slice none 0 0,.bool false,.slice none 0 0,.int .i64 0,.int .i64 0,.slice none 0 0]) ?_ 3 _ rfl;(with_reducible repeat (first|refine blk_drewN ?_ _|refine blk_drew ?_|refine blk_alloc ?_ _));refine blk_put (cs:=#[.int .i64 a0_0,.int .i64 a0_1,.int .i64 0,.int .i64 0,.int .i64 0,.slice none 0 0,.int .i64 0,.slice none 0 0,.slice none 0 0,.bool false,.slice none 0 0,.int .i64 0,.int .i64 0,.slice none 0 0]) ?_ 2 _ rfl;(with_reducible repeat (first|refine blk_drewN ?_ _|refine blk_drew ?_|refine blk_alloc ?_ _));refine blk_put (cs:=#[.int .i64 a0_0,.int .i64 0,.int .i64 0,.int .i64 0,.int .i64 0,.slice none 0 0,.int .i64 0,.slice none 0 0,.slice none 0 0,.bool false,.slice none 0 0,.int .i64 0,.int .i64 0,.slice none 0 0]) ?_ 1 _ rfl;(with_reducible repeat (first|refine blk_drewN ?_ _|refine blk_drew ?_|refine blk_alloc ?_ _));refine blk_put (cs:=#[.int .i64 0,.int .i64 0,.int .i64 0,.int .i64 0,.int .i64 0,.slice none 0 0,.int .i64 0,.slice none 0 0,.slice none 0 0,.bool false,.slice none 0 0,.int .i64 0,.int .i64 0,.slice none 0 0]) ?_ 0 _ rfl;(with_reducible repeat (first|refine blk_drewN ?_ _|refine blk_drew ?_|refine blk_alloc ?_ _));exact BK168.out) Try.underlying29 rfl (by kernel_rfl)) rfl ?_
        exact⟨_,_,_,_,_,by first|rfl|(simp [errW_none,errW_some] <;> rfl)|(simp [*,errW_none,errW_some] <;> rfl),by(with_reducible repeat (first|apply Kd.S_alloc|apply Kd.S_drewN|apply Kd.S_drew));exact Kd.S_mono (Kd.S_far (p:=⟨gb168,13,none⟩) (Kd.S_far (p:=⟨gb168,12,none⟩) (Kd.S_far (p:=⟨gb168,11,none⟩) (Kd.S_far (p:=⟨gb168,10,none⟩) (Kd.S_far (p:=⟨gb168,9,none⟩) (Kd.S_far (p:=⟨gb168,8,none⟩) (Kd.S_far (p:=⟨gb168,7,none⟩) (Kd.S_far (p:=⟨gb168,6,none⟩) (Kd.S_far (p:=⟨gb168,5,none⟩) (Kd.S_far (p:=⟨gb168,4,none⟩) (Kd.S_far (p:=⟨gb168,3,none⟩) (Kd.S_far (p:=⟨gb168,2,none⟩) (Kd.S_far (p:=⟨gb168,1,none⟩) (Kd.S_far (p:=⟨gb168,0,none⟩) (Kd.S_types HO_182005.out BK168.out (by decide)) (fun _ hk=>hk.2) (.int .i64 a0_0)) (fun _ hk=>hk.2) (.int .i64 a0_1)) (fun _ hk=>hk.2) (.int .i64 a0_2)) (fun _ hk=>hk.2) (.int .i64 a0_3)) (fun _ hk=>hk.2) (.int .i64 a0_4)) (fun _ hk=>hk.2) (.slice Ao22 t169.length co22)) (fun _ hk=>hk.2) (.int .i64 a0_6)) (fun _ hk=>hk.2) (.slice Ao21 t172.length co21)) (fun _ hk=>hk.2) (.slice Ao20 t175.length co20)) (fun _ hk=>hk.2) (.bool a0_9)) (fun _ hk=>hk.2) (.slice Ao62 x182010_1.length co62)) (fun _ hk=>hk.2) (.int .i64 a0_11)) (fun _ hk=>hk.2) (.int .i64 a0_12)) (fun _ hk=>hk.2) (.slice Ao19 t178.length co19)) (fun _ hk=>trivial),by(with_reducible repeat (first|apply Kd.R_alloc|apply Kd.R_drewN|apply Kd.R_drew));exact Kd.R_mono (Kd.R_far (p:=⟨gb168,13,none⟩) (Kd.R_far (p:=⟨gb168,12,none⟩) (Kd.R_far (p:=⟨gb168,11,none⟩) (Kd.R_far (p:=⟨gb168,10,none⟩) (Kd.R_far (p:=⟨gb168,9,none⟩) (Kd.R_far (p:=⟨gb168,8,none⟩) (Kd.R_far (p:=⟨gb168,7,none⟩) (Kd.R_far (p:=⟨gb168,6,none⟩) (Kd.R_far (p:=⟨gb168,5,none⟩) (Kd.R_far (p:=⟨gb168,4,none⟩) (Kd.R_far (p:=⟨gb168,3,none⟩) (Kd.R_far (p:=⟨gb168,2,none⟩) (Kd.R_far (p:=⟨gb168,1,none⟩) (Kd.R_far (p:=⟨gb168,0,none⟩) (Kd.R_types HO_182007.out BK168.out (by decide)) (fun _ hk=>hk.2) (.int .i64 a0_0)) (fun _ hk=>hk.2) (.int .i64 a0_1)) (fun _ hk=>hk.2) (.int .i64 a0_2)) (fun _ hk=>hk.2) (.int .i64 a0_3)) (fun _ hk=>hk.2) (.int .i64 a0_4)) (fun _ hk=>hk.2) (.slice Ao22 t169.length co22)) (fun _ hk=>hk.2) (.int .i64 a0_6)) (fun _ hk=>hk.2) (.slice Ao21 t172.length co21)) (fun _ hk=>hk.2) (.slice Ao20 t175.length co20)) (fun _ hk=>hk.2) (.bool a0_9)) (fun _ hk=>hk.2) (.slice Ao62 x182010_1.length co62)) (fun _ hk=>hk.2) (.int .i64 a0_11)) (fun _ hk=>hk.2) (.int .i64 a0_12)) (fun _ hk=>hk.2) (.slice Ao19 t178.length co19)) (fun _ hk=>hk.1),by(with_reducible repeat (first|apply Kd.R_alloc|apply Kd.R_drewN|apply Kd.R_drew));exact Kd.R_mono (Kd.R_far (p:=⟨gb168,13,none⟩) (Kd.R_far (p:=⟨gb168,12,none⟩) (Kd.R_far (p:=⟨gb168,11,none⟩) (Kd.R_far (p:=⟨gb168,10,none⟩) (Kd.R_far (p:=⟨gb168,9,none⟩) (Kd.R_far (p:=⟨gb168,8,none⟩) (Kd.R_far (p:=⟨gb168,7,none⟩) (Kd.R_far (p:=⟨gb168,6,none⟩) (Kd.R_far (p:=⟨gb168,5,none⟩) (Kd.R_far (p:=⟨gb168,4,none⟩) (Kd.R_far (p:=⟨gb168,3,none⟩) (Kd.R_far (p:=⟨gb168,2,none⟩) (Kd.R_far (p:=⟨gb168,1,none⟩) (Kd.R_far (p:=⟨gb168,0,none⟩) (Kd.R_types HO_182008.out BK168.out (by decide)) (fun _ hk=>hk.2) (.int .i64 a0_0)) (fun _ hk=>hk.2) (.int .i64 a0_1)) (fun _ hk=>hk.2) (.int .i64 a0_2)) (fun _ hk=>hk.2) (.int .i64 a0_3)) (fun _ hk=>hk.2) (.int .i64 a0_4)) (fun _ hk=>hk.2) (.slice Ao22 t169.length co22)) (fun _ hk=>hk.2) (.int .i64 a0_6)) (fun _ hk=>hk.2) (.slice Ao21 t172.length co21)) (fun _ hk=>hk.2) (.slice Ao20 t175.length co20)) (fun _ hk=>hk.2) (.bool a0_9)) (fun _ hk=>hk.2) (.slice Ao62 x182010_1.length co62)) (fun _ hk=>hk.2) (.int .i64 a0_11)) (fun _ hk=>hk.2) (.int .i64 a0_12)) (fun _ hk=>hk.2) (.slice Ao19 t178.length co19)) (fun _ hk=>trivial),by(with_reducible repeat (first|apply Kd.R_alloc|apply Kd.R_drewN|apply Kd.R_drew));exact Kd.R_mono (Kd.R_far (p:=⟨gb168,13,none⟩) (Kd.R_far (p:=⟨gb168,12,none⟩) (Kd.R_far (p:=⟨gb168,11,none⟩) (Kd.R_far (p:=⟨gb168,10,none⟩) (Kd.R_far (p:=⟨gb168,9,none⟩) (Kd.R_far (p:=⟨gb168,8,none⟩) (Kd.R_far (p:=⟨gb168,7,none⟩) (Kd.R_far (p:=⟨gb168,6,none⟩) (Kd.R_far (p:=⟨gb168,5,none⟩) (Kd.R_far (p:=⟨gb168,4,none⟩) (Kd.R_far (p:=⟨gb168,3,none⟩) (Kd.R_far (p:=⟨gb168,2,none⟩) (Kd.R_far (p:=⟨gb168,1,none⟩) (Kd.R_far (p:=⟨gb168,0,none⟩) (Kd.R_types HO_182010.out BK168.out (by decide)) (fun _ hk=>hk.2) (.int .i64 a0_0)) (fun _ hk=>hk.2) (.int .i64 a0_1)) (fun _ hk=>hk.2) (.int .i64 a0_2)) (fun _ hk=>hk.2) (.int .i64 a0_3)) (fun _ hk=>hk.2) (.int .i64 a0_4)) (fun _ hk=>hk.2) (.slice Ao22 t169.length co22)) (fun _ hk=>hk.2) (.int .i64 a0_6)) (fun _ hk=>hk.2) (.slice Ao21 t172.length co21)) (fun _ hk=>hk.2) (.slice Ao20 t175.length co20)) (fun _ hk=>hk.2) (.bool a0_9)) (fun _ hk=>hk.2) (.slice Ao62 x182010_1.length co62)) (fun _ hk=>hk.2) (.int .i64 a0_11)) (fun _ hk=>hk.2) (.int .i64 a0_12)) (fun _ hk=>hk.2) (.slice Ao19 t178.length co19)) (fun _ hk=>hk.1),by(with_reducible repeat (first|apply Kd.R_alloc|apply Kd.R_drewN|apply Kd.R_drew));exact Kd.R_mono (Kd.R_far (p:=⟨gb168,13,none⟩) (Kd.R_far (p:=⟨gb168,12,none⟩) (Kd.R_far (p:=⟨gb168,11,none⟩) (Kd.R_far (p:=⟨gb168,10,none⟩) (Kd.R_far (p:=⟨gb168,9,none⟩) (Kd.R_far (p:=⟨gb168,8,none⟩) (Kd.R_far (p:=⟨gb168,7,none⟩) (Kd.R_far (p:=⟨gb168,6,none⟩) (Kd.R_far (p:=⟨gb168,5,none⟩) (Kd.R_far (p:=⟨gb168,4,none⟩) (Kd.R_far (p:=⟨gb168,3,none⟩) (Kd.R_far (p:=⟨gb168,2,none⟩) (Kd.R_far (p:=⟨gb168,1,none⟩) (Kd.R_far (p:=⟨gb168,0,none⟩) (Kd.R_types HO_182013.out BK168.out (by decide)) (fun _ hk=>hk.2) (.int .i64 a0_0)) (fun _ hk=>hk.2) (.int .i64 a0_1)) (fun _ hk=>hk.2) (.int .i64 a0_2)) (fun _ hk=>hk.2) (.int .i64 a0_3)) (fun _ hk=>hk.2) (.int .i64 a0_4)) (fun _ hk=>hk.2) (.slice Ao22 t169.length co22)) (fun _ hk=>hk.2) (.int .i64 a0_6)) (fun _ hk=>hk.2) (.slice Ao21 t172.length co21)) (fun _ hk=>hk.2) (.slice Ao20 t175.length co20)) (fun _ hk=>hk.2) (.bool a0_9)) (fun _ hk=>hk.2) (.slice Ao62 x182010_1.length co62)) (fun _ hk=>hk.2) (.int .i64 a0_11)) (fun _ hk=>hk.2) (.int .i64 a0_12)) (fun _ hk=>hk.2) (.slice Ao19 t178.length co19)) (fun _ hk=>hk.1),by repeat (first|(with_reducible first|exact HB.out|apply below_alloc|apply pw_below_drewN|apply below_drew1|refine below_set ?_ GE167.out|refine below_set ?_ GE168.out|refine below_set ?_ GE181.out)|exact HB.out)⟩
end Go.Proofs.Ytojjnifbnppliaa.T
