/- This text tells functions of the seat as plain functions, with their contracts, as the machine's calls meet them. -/
import Derived.Test.YtgglmibbbjallaaTa3
namespace Go.Proofs.Ytgglmibbbjallaa.T
open Go.RowKit Go.Proofs.YtgglmibbbjallaaW.PrintWords Go.Proofs.YtgglmibbbjallaaW.PrintLast Go.Proofs.YtgglmibbbjallaaW.PrintMore
attribute [local go_sem] max2_int min2_int max_two min_two max_three min_three max_four min_four   -- for this text's walks alone
set_option linter.unusedVariables false
set_option linter.unusedSimpArgs false

/-! ### undercroftlaw04_one: function 12 -/
def undercroftlaw04_one.f (a0_0 : Int) (a0_1 : Int) (l0_2 : List Int) : Option (Int × Int × List Int):=(undercroftplain_CopyBytes.f l0_2).bind fun t166=>(some (a0_0,a0_1,t166))
def undercroftlaw04_one.T1 : Bool × List (List Nat × List Nat):=(true,[([],[]),([0],[0]),([],[]),([2],[2]),([],[]),([4],[4]),([5],[5]),([1,3,6],[1,3,6]),([7,6,0,1,2,3,4,5,6,7],[7])])
def undercroftlaw04_one.B1 : List Nat:=[0,1,0,4,0,16,48,127,255]
theorem undercroftlaw04_one.tab1 : rtab .any (opsOf Try.f12 1) = undercroftlaw04_one.T1:=by kernel_rfl
theorem undercroftlaw04_one.bits1 : waitsOk undercroftlaw04_one.T1.2 undercroftlaw04_one.B1 = true:=by kernel_rfl
set_option maxHeartbeats 8000000 in
set_option maxRecDepth 100000 in
theorem undercroftlaw04_one.calls (a0_0 : Int) (a0_1 : Int) (A0_2 : Option Addr) (c0_2 : Nat) (l0_2 : List Int) (r1 : Int) (r2 : Int) (r3 : List Int) (w : World) (hr0_2 : Kd.C (Kd.int .u8) w A0_2 l0_2.length l0_2) (hc0_2 : l0_2.length ≤ c0_2) (h : undercroftlaw04_one.f a0_0 a0_1 l0_2 = some (r1,r2,r3)) :
    Calls Try.prog 12 #[.agg #[.int .i64 a0_0,.int .i64 a0_1,.slice A0_2 l0_2.length c0_2]] w fun e w'=>∃ v2_ : Value,e = .returned (.agg #[.int .i64 r1,.int .i64 r2,v2_])∧Kd.R (Kd.int .u8) 5 w' w.heap.size (fun _=>True) v2_ r3∧Below w.heap.size w w':=by
  have hu38:=Try.underlying38
  have hu40:=Try.underlying40
  have HR0_2:=mkA hr0_2
  have HC0_2:=mkA hc0_2
  clear hr0_2 hc0_2
  have HB:=mkA (Below.refl w.heap.size w)
  have H : ((undercroftplain_CopyBytes.f l0_2).bind fun t166=>(some (a0_0,a0_1,t166))) = some (r1,r2,r3):=h
  clear h
  replace H:=Option.bind_eq_some_iff.mp H
  obtain ⟨t166,A20,H⟩:=H
  replace H : (some (a0_0,a0_1,t166)) = some (r1,r2,r3):=H
  have A2:=mkA A20
  clear A20
  simp only [Option.some.injEq,Prod.mk.injEq] at H
  obtain ⟨rfl,rfl,rfl⟩:=H
  go_enter Try.func12,Try.ntmps12
  try go_wp2_with (first|((with_reducible refine gate_dst (N:=1) rfl ?_);refine box_event ?hg (N:=1) ?hd (cs:=#[.int .i64 a0_0,.int .i64 a0_1,.slice A0_2 l0_2.length c0_2]) (t:=38) ?hr ?_;(case hd=>rfl);(case hg=>rfl);(case hr=>first|(go_simp;done)|(go_simp;rfl));intro gb164 hg w3 hbox hb;have n0_:=mkA (below_step (by repeat (with_reducible first|exact HB.out|apply bwA|apply bwN|apply bwD)) hb);have n1_:=mkA (hbox);have n2_:=mkA ((by rw [hg];exact(bwZ (by repeat (with_reducible first|exact HB.out|apply bwA|apply bwN|apply bwD))) : w.heap.size ≤ gb164));have n3_:=mkA ((by rw [hg];exact(bwZ (by repeat (with_reducible first|exact HB.out|apply bwA|apply bwN|apply bwD))) : w.heap.size ≤ gb164));clear HB;have HB:=n0_;have BK164:=n1_;have GW164:=n2_;have GE164:=n3_;clear n0_ n1_ n2_ n3_;clear hb hbox hg)|((with_reducible refine gate_dst (N:=2) rfl ?_);refine box_event ?hg (N:=2) ?hd (cs:=#[.int .i64 0,.int .i64 0,.slice none 0 0]) (t:=40) ?hr ?_;(case hd=>rfl);(case hg=>rfl);(case hr=>first|(go_simp;done)|(go_simp;rfl));intro gb165 hg w4 hbox hb;have n0_:=mkA (bkB (g:=gb164) (o:=.cells #[.int .i64 a0_0,.int .i64 a0_1,.slice A0_2 l0_2.length c0_2] 38 (0,0)) (by(with_reducible repeat first|apply bkN|apply bkD|apply bkA);exact BK164.out) hb);have n1_:=mkA (below_step (by repeat (with_reducible first|exact HB.out|apply bwA|apply bwN|apply bwD|refine bwS ?_ GE164.out)) hb);have n2_:=mkA (hbox);have n3_:=mkA ((by rw [hg];exact(bwZ (by repeat (with_reducible first|exact HB.out|apply bwA|apply bwN|apply bwD|refine bwS ?_ GE164.out))) : w.heap.size ≤ gb165));have n4_:=mkA ((by rw [hg];exact(bwZ (by repeat (with_reducible first|exact HB.out|apply bwA|apply bwN|apply bwD|refine bwS ?_ GE164.out))) : w.heap.size ≤ gb165));have n5_:=mkA ((by rw [hg];exact Nat.ne_of_lt (blk_lt (g:=gb164) (o:=.cells #[.int .i64 a0_0,.int .i64 a0_1,.slice A0_2 l0_2.length c0_2] 38 (0,0)) (by(with_reducible repeat first|apply bkN|apply bkD|apply bkA);exact BK164.out)) : gb164 ≠ gb165));have n6_:=mkA ((by rw [hg];exact Nat.ne_of_gt (blk_lt (g:=gb164) (o:=.cells #[.int .i64 a0_0,.int .i64 a0_1,.slice A0_2 l0_2.length c0_2] 38 (0,0)) (by(with_reducible repeat first|apply bkN|apply bkD|apply bkA);exact BK164.out)) : gb165 ≠ gb164));clear BK164;clear HB;have BK164:=n0_;have HB:=n1_;have BK165:=n2_;have GW165:=n3_;have GE165:=n4_;have NB164_165:=n5_;have NB165_164:=n6_;clear n0_ n1_ n2_ n3_ n4_ n5_ n6_;clear hb hbox hg))
  have n0_:=mkA (bkD BK164.out)
  have n1_:=mkA (bkD BK165.out)
  have n2_:=mkA (bwD HB.out)
  clear BK164
  clear BK165
  clear HB
  have BK164:=n0_
  have BK165:=n1_
  have HB:=n2_
  clear n0_ n1_ n2_
  refine start_ (n:=9) (S:=fun w'=>w'.cell? ⟨gb164,0,none⟩ = some (.int .i64 a0_0)∧w'.cell? ⟨gb164,1,none⟩ = some (.int .i64 a0_1)∧w'.cell? ⟨gb164,2,none⟩ = some (.slice A0_2 l0_2.length c0_2)) (ds:=[]) #[false,false,false,false,false,false,false,false,false] (by kernel_rfl) rfl rfl ⟨(bkC BK164.out 0).trans rfl,(bkC BK164.out 1).trans rfl,(bkC BK164.out 2).trans rfl⟩ (fun hHeld=>?_);refine with_tabW undercroftlaw04_one.tab1 undercroftlaw04_one.bits1 (fun HT_ HW_=>?_)
  generalize w4.drew = w5 at BK164 BK165 HB hHeld ⊢
  refine pure_ (i:=0) (N:=some 3) (v:=?_) (a':=?_) #[true,false,false,false,false,false,false,false,false] rfl rfl (any_of HT_.out (by kernel_rfl)) (fun _ _ _ h=>h) (Or.inl ⟨by rfl,?_⟩) ?_ ?_
  rotate_left
  · intro w'
    go_simp
    with_reducible rfl
  rotate_left
  · simp only [Act.put,lsA,lsZ,lsS,i64_w,i32_w]
    rfl
  refine pure_ (i:=2) (N:=some 5) (v:=?_) (a':=?_) #[true,false,true,false,false,false,false,false,false] rfl rfl (any_of HT_.out (by kernel_rfl)) (fun _ _ _ h=>h) (Or.inl ⟨by rfl,?_⟩) ?_ ?_
  rotate_left
  · intro w'
    go_simp
    with_reducible rfl
  rotate_left
  · simp only [Act.put,lsA,lsZ,lsS,i64_w,i32_w]
    rfl
  refine pure_ (i:=4) (N:=some 7) (v:=?_) (a':=?_) #[true,false,true,false,true,false,false,false,false] rfl rfl (any_of HT_.out (by kernel_rfl)) (fun _ _ _ h=>h) (Or.inl ⟨by rfl,?_⟩) ?_ ?_
  rotate_left
  · intro w'
    go_simp
    with_reducible rfl
  rotate_left
  · simp only [Act.put,lsA,lsZ,lsS,i64_w,i32_w]
    rfl
  refine take_ (i:=1) (N:=some 4) (v:=?_) (a':=?_) #[true,true,true,false,true,false,false,false,false] rfl rfl (take_ofW HT_.out HW_.out (by kernel_rfl)) (fun _ _ _ h=>h) (Or.inl ⟨by rfl,?_⟩) hHeld ?_ ?_
  rotate_left
  · rintro w' ⟨s0,s1,s2⟩
    go_simp
    with_reducible rfl
  rotate_left
  · simp only [Act.put,lsA,lsZ,lsS,i64_w,i32_w]
    rfl
  refine take_ (i:=3) (N:=some 6) (v:=?_) (a':=?_) #[true,true,true,true,true,false,false,false,false] rfl rfl (take_ofW HT_.out HW_.out (by kernel_rfl)) (fun _ _ _ h=>h) (Or.inl ⟨by rfl,?_⟩) hHeld ?_ ?_
  rotate_left
  · rintro w' ⟨s0,s1,s2⟩
    go_simp
    with_reducible rfl
  rotate_left
  · simp only [Act.put,lsA,lsZ,lsS,i64_w,i32_w]
    rfl
  refine take_ (i:=5) (N:=some 8) (v:=?_) (a':=?_) #[true,true,true,true,true,true,false,false,false] rfl rfl (take_ofW HT_.out HW_.out (by kernel_rfl)) (fun _ _ _ h=>h) (Or.inl ⟨by rfl,?_⟩) hHeld ?_ ?_
  rotate_left
  · rintro w' ⟨s0,s1,s2⟩
    go_simp
    with_reducible rfl
  rotate_left
  · simp only [Act.put,lsA,lsZ,lsS,i64_w,i32_w]
    rfl
  refine one_ (i:=6) (N:=some 9) #[true,true,true,true,true,true,true,false,false] rfl rfl (one_of HT_.out (by kernel_rfl)) (by decide) (fun K hK=>?_)
  refine goes_ Try.func29 (by kernel_rfl) rfl #[.slice A0_2 l0_2.length c0_2] (by rfl) rfl rfl (by(try simp only [List.map_toArray,List.map_cons,List.map_nil]);first|done|rfl) ?_
  with_reducible refine(undercroftplain_CopyBytes.calls _ _ l0_2 t166 _ ?side1 ?side2 A2.out).mono ?_
  (case side1=>repeat (first|exact(Kd.C_below HR0_2.out HB.out)|(with_reducible refine Kd.C_alloc ?_ _)|(with_reducible refine Kd.C_drewN ?_ _)|(with_reducible refine Kd.C_drew ?_)))
  (case side2=>exact HC0_2.out)
  rintro e w6 ⟨v167,rfl,ho0,hb⟩
  refine⟨_,rfl,?_⟩
  have n0_:=mkA (Kd.R_lower ho0 (bwZ (by repeat (with_reducible first|exact HB.out|apply bwA|apply bwN|apply bwD|refine bwS ?_ GE164.out|refine bwS ?_ GE165.out))))
  have n1_:=mkA (bkB (g:=gb164) (o:=.cells #[.int .i64 a0_0,.int .i64 a0_1,.slice A0_2 l0_2.length c0_2] 38 (0,0)) (by(with_reducible repeat first|apply bkN|apply bkD|apply bkA);exact BK164.out) hb)
  have n2_:=mkA (bkB (g:=gb165) (o:=.cells #[.int .i64 0,.int .i64 0,.slice none 0 0] 40 (0,0)) (by(with_reducible repeat first|apply bkN|apply bkD|apply bkA);exact BK165.out) hb)
  have n3_:=mkA (below_step (by repeat (with_reducible first|exact HB.out|apply bwA|apply bwN|apply bwD|refine bwS ?_ GE164.out|refine bwS ?_ GE165.out)) hb)
  clear BK164
  clear BK165
  clear HB
  have HO168:=n0_
  have BK164:=n1_
  have BK165:=n2_
  have HB:=n3_
  clear n0_ n1_ n2_ n3_
  (try clear hb)
  (try clear hb2)
  (try clear hk)
  (try clear hi)
  (try clear ho0)
  obtain ⟨Ao7,co7,eo7⟩:=Kd.R_slice HO168.out
  (first|subst eo7|(injection eo7 with f1_ f2_ f3_;have f4_:=f1_.symm;have f5_:=f3_.symm;clear f1_ f2_ f3_;subst f4_;subst f5_))
  refine hK.out _ _ ⟨(bkC BK164.out 0).trans rfl,(bkC BK164.out 1).trans rfl,(bkC BK164.out 2).trans rfl⟩ (fun hHeld=>?_)
  clear hK K
  refine norm_ (a':=?_) ?_ ?_
  rotate_left
  · show Act.put _ (some 9) _ = _
    simp only [Act.put,lsA,lsZ,lsS,i64_w,i32_w]
    rfl
  refine pure_ (i:=7) (N:=some 10) (v:=?_) (a':=?_) #[true,true,true,true,true,true,true,true,false] rfl rfl (any_of HT_.out (by kernel_rfl)) (fun _ _ _ h=>h) (Or.inl ⟨by rfl,?_⟩) ?_ ?_
  rotate_left
  · intro w'
    go_simp
    with_reducible rfl
  rotate_left
  · simp only [Act.put,lsA,lsZ,lsS,i64_w,i32_w]
    rfl
  refine one_ (i:=8) (N:=none) #[true,true,true,true,true,true,true,true,true] rfl rfl (one_of HT_.out (by kernel_rfl)) (by decide) (fun K hK=>?_)
  have hs8 : w6.cell? ⟨gb165,0,none⟩ = some (.int .i64 0):=(bkC BK165.out 0).trans rfl
  have hfs8:=bkF BK165.out 0
  have hns8_0:=NB164_165.out
  have hms8_0:=NB165_164.out
  have hs9 : w6.cell? ⟨gb165,1,none⟩ = some (.int .i64 0):=(bkC BK165.out 1).trans rfl
  have hfs9:=bkF BK165.out 1
  have hns9_0:=NB164_165.out
  have hms9_0:=NB165_164.out
  have hs10 : w6.cell? ⟨gb165,2,none⟩ = some (.slice none 0 0):=(bkC BK165.out 2).trans rfl
  have hfs10:=bkF BK165.out 2
  have hns10_0:=NB164_165.out
  have hms10_0:=NB165_164.out
  refine skip_ (w1:=?_) (by rfl) rfl ?_ ?_
  rotate_left
  · go_simp
    rfl
  refine hK.out _ _ ⟨((cell_far (p:=⟨gb165,_,none⟩) NB164_165.out _).trans (((cell_far (p:=⟨gb165,_,none⟩) NB164_165.out _).trans (((cell_far (p:=⟨gb165,_,none⟩) NB164_165.out _).trans (hHeld.1)))))),((cell_far (p:=⟨gb165,_,none⟩) NB164_165.out _).trans (((cell_far (p:=⟨gb165,_,none⟩) NB164_165.out _).trans (((cell_far (p:=⟨gb165,_,none⟩) NB164_165.out _).trans (hHeld.2.1)))))),((cell_far (p:=⟨gb165,_,none⟩) NB164_165.out _).trans (((cell_far (p:=⟨gb165,_,none⟩) NB164_165.out _).trans (((cell_far (p:=⟨gb165,_,none⟩) NB164_165.out _).trans (hHeld.2.2))))))⟩ (fun hHeld=>?_)
  clear hK K
  refine done_ (done_of HT_.out (by kernel_rfl)) ?_
  try go_wp2
  refine bodyPost_ret (results_cell_row rfl _ _ gb165 40 #[.int .i64 a0_0,.int .i64 a0_1,.slice Ao7 t166.length co7] (0,0) _ rfl (by(with_reducible repeat first|apply bkN|apply bkD|apply bkA);refine blk_put (cs:=#[.int .i64 a0_0,.int .i64 a0_1,.slice none 0 0]) ?_ 2 _ rfl;(with_reducible repeat first|apply bkN|apply bkD|apply bkA);refine blk_put (cs:=#[.int .i64 a0_0,.int .i64 0,.slice none 0 0]) ?_ 1 _ rfl;(with_reducible repeat first|apply bkN|apply bkD|apply bkA);refine blk_put (cs:=#[.int .i64 0,.int .i64 0,.slice none 0 0]) ?_ 0 _ rfl;(with_reducible repeat first|apply bkN|apply bkD|apply bkA);exact BK165.out) Try.underlying40 rfl (by kernel_rfl)) rfl ?_
  exact⟨_,by first|rfl|(simp [errW_none,errW_some] <;> rfl)|(simp [*,errW_none,errW_some] <;> rfl),by(with_reducible repeat (first|apply Kd.R_alloc|apply Kd.R_drewN|apply Kd.R_drew));exact Kd.R_mono (Kd.R_far (p:=⟨gb165,2,none⟩) (Kd.R_far (p:=⟨gb165,1,none⟩) (Kd.R_far (p:=⟨gb165,0,none⟩) (Kd.R_types HO168.out BK165.out (by decide)) (fun _ hk=>hk.2) (.int .i64 a0_0)) (fun _ hk=>hk.2) (.int .i64 a0_1)) (fun _ hk=>hk.2) (.slice Ao7 t166.length co7)) (fun _ hk=>trivial),by repeat (with_reducible first|exact HB.out|apply bwA|apply bwN|apply bwD|refine bwS ?_ GE164.out|refine bwS ?_ GE165.out)⟩

/-! ### undercroftlaw04_Of: function 9 -/
def undercroftlaw04_Of.l0 : Nat→Int→Int→List (S38)→Int→List (S40)→Option (Int × (List (S40)))
  | 0,_,_,_,_,_=>none
  | k + 1,x4,x170000,x170001,x172000,x172001=>if x4 < (x170001.length : Int) then(if 0 ≤ x4 then((undercroftlaw04_one.f ((rd_T38 x170001 x4).f0) ((rd_T38 x170001 x4).f1) ((rd_T38 x170001 x4).f2)).bind fun bt173=>(if x172001.length < 3518437208883 then(undercroftlaw04_Of.l0 k (wrap64 (x4 + 1)) x170000 x170001 x172000 (x172001 ++ [(⟨bt173.1,bt173.2.1,bt173.2.2⟩ : S40)])) else(none))) else(none)) else(some (x172000,x172001))
def undercroftlaw04_Of.f (k : Nat) (a0_0 : Int) (l0_1 : List (S38)) : Option (Int × (List (S40))):=undercroftlaw04_Of.l0 k 0 a0_0 l0_1 a0_0 ([] : List (S40))
theorem undercroftlaw04_Of.mono_l : ∀ k,(∀ y0 y1 y2 y3 y4,LeO (undercroftlaw04_Of.l0 k y0 y1 y2 y3 y4) (undercroftlaw04_Of.l0 (k + 1) y0 y1 y2 y3 y4))
  | 0=>fun _ _ _ _ _ r h=>by simp [undercroftlaw04_Of.l0] at h
  | k + 1=>by
    have ih0:=undercroftlaw04_Of.mono_l k
    · intro y0 y1 y2 y3 y4
      unfold undercroftlaw04_Of.l0
      repeat' first
      | (with_reducible exact ih0 _ _ _ _ _)
      | (with_reducible exact LeO.refl _)
      | (with_reducible exact LeO.none _)
      | (with_reducible refine LeO.ite ?_ ?_)
      | (with_reducible refine LeO.bind ?_ (fun _=>?_))
      | exact ih0 _ _ _ _ _
      | exact LeO.none _
      | refine LeO.ite ?_ ?_
      | refine LeO.bind ?_ (fun _=>?_)
theorem undercroftlaw04_Of.mono : ∀ a0 a1 k,LeO (undercroftlaw04_Of.f k a0 a1) (undercroftlaw04_Of.f (k + 1) a0 a1):=by
  intro a0 a1 k
  have ih0:=undercroftlaw04_Of.mono_l k
  unfold undercroftlaw04_Of.f
  repeat' first
      | (with_reducible exact ih0 _ _ _ _ _)
      | (with_reducible exact LeO.refl _)
      | (with_reducible exact LeO.none _)
      | (with_reducible refine LeO.ite ?_ ?_)
      | (with_reducible refine LeO.bind ?_ (fun _=>?_))
      | exact ih0 _ _ _ _ _
      | exact LeO.none _
      | refine LeO.ite ?_ ?_
      | refine LeO.bind ?_ (fun _=>?_)
def undercroftlaw04_Of.T5 : Bool × List (List Nat × List Nat):=(true,[([],[]),([0],[0]),([],[]),([2],[2]),([],[]),([3,4],[3,4]),([5],[5]),([6],[6]),([7],[7]),([1,8,7],[1,8]),([0,1,2,3,4,5,6,7,8,9],[]),([10,9,9,0,1,2,3,4,5,6,7,8,9],[9,10])])
def undercroftlaw04_Of.B5 : List Nat:=[0,1,0,4,0,28,60,124,252,511,1023,2047]
theorem undercroftlaw04_Of.tab5 : rtab .any (opsOf Try.f9 5) = undercroftlaw04_Of.T5:=by kernel_rfl
theorem undercroftlaw04_Of.bits5 : waitsOk undercroftlaw04_Of.T5.2 undercroftlaw04_Of.B5 = true:=by kernel_rfl
set_option maxHeartbeats 8000000 in
set_option maxRecDepth 100000 in
theorem undercroftlaw04_Of.calls (k : Nat) (a0_0 : Int) (A0_1 : Option Addr) (c0_1 : Nat) (l0_1 : List (S38)) (r1 : Int) (r2 : List (S40)) (w : World) (hr0_1 : Kd.C k38 w A0_1 l0_1.length l0_1) (hc0_1 : l0_1.length ≤ c0_1) (h : undercroftlaw04_Of.f k a0_0 l0_1 = some (r1,r2)) :
    Calls Try.prog 9 #[.agg #[.int .i64 a0_0,.slice A0_1 l0_1.length c0_1]] w fun e w'=>∃ v1_ : Value,e = .returned (.agg #[.int .i64 r1,v1_])∧Kd.S k40 40 w' w.heap.size (fun _=>True) v1_ r2∧Below w.heap.size w w':=by
  have hu24:=Try.underlying24
  have hu32:=Try.underlying32
  have hu38:=Try.underlying38
  have HR0_1:=mkA hr0_1
  have HC0_1:=mkA hc0_1
  clear hr0_1 hc0_1
  have HB:=mkA (Below.refl w.heap.size w)
  have H : (undercroftlaw04_Of.l0 k 0 a0_0 l0_1 a0_0 ([] : List (S40))) = some (r1,r2):=h
  clear h
  have H':=mkA H
  clear H
  go_enter Try.func9,Try.ntmps9
  go_wp2_with (first|((with_reducible refine gate_dst (N:=1) rfl ?_);refine box_event ?hg (N:=1) ?hd (cs:=#[.int .i64 a0_0,.slice A0_1 l0_1.length c0_1]) (t:=24) ?hr ?_;(case hd=>rfl);(case hg=>rfl);(case hr=>first|(go_simp;done)|(go_simp;rfl));intro gb169 hg w2 hbox hb;have n0_:=mkA (below_step (by repeat (with_reducible first|exact HB.out|apply bwA|apply bwN|apply bwD)) hb);have n1_:=mkA (hbox);have n2_:=mkA ((by rw [hg];exact(bwZ (by repeat (with_reducible first|exact HB.out|apply bwA|apply bwN|apply bwD))) : w.heap.size ≤ gb169));have n3_:=mkA ((by rw [hg];exact(bwZ (by repeat (with_reducible first|exact HB.out|apply bwA|apply bwN|apply bwD))) : w.heap.size ≤ gb169));clear HB;have HB:=n0_;have BK169:=n1_;have GW169:=n2_;have GE169:=n3_;clear n0_ n1_ n2_ n3_;clear hb hbox hg)|((with_reducible refine gate_dst (N:=2) rfl ?_);refine box_event ?hg (N:=2) ?hd (cs:=#[.int .i64 0,.slice none 0 0]) (t:=32) ?hr ?_;(case hd=>rfl);(case hg=>rfl);(case hr=>first|(go_simp;done)|(go_simp;rfl));intro gb170 hg w3 hbox hb;have n0_:=mkA (bkB (g:=gb169) (o:=.cells #[.int .i64 a0_0,.slice A0_1 l0_1.length c0_1] 24 (0,0)) (by(with_reducible repeat first|apply bkN|apply bkD|apply bkA);exact BK169.out) hb);have n1_:=mkA (below_step (by repeat (with_reducible first|exact HB.out|apply bwA|apply bwN|apply bwD|refine bwS ?_ GE169.out)) hb);have n2_:=mkA (hbox);have n3_:=mkA ((by rw [hg];exact(bwZ (by repeat (with_reducible first|exact HB.out|apply bwA|apply bwN|apply bwD|refine bwS ?_ GE169.out))) : w.heap.size ≤ gb170));have n4_:=mkA ((by rw [hg];exact(bwZ (by repeat (with_reducible first|exact HB.out|apply bwA|apply bwN|apply bwD|refine bwS ?_ GE169.out))) : w.heap.size ≤ gb170));have n5_:=mkA ((by rw [hg];exact Nat.ne_of_lt (blk_lt (g:=gb169) (o:=.cells #[.int .i64 a0_0,.slice A0_1 l0_1.length c0_1] 24 (0,0)) (by(with_reducible repeat first|apply bkN|apply bkD|apply bkA);exact BK169.out)) : gb169 ≠ gb170));have n6_:=mkA ((by rw [hg];exact Nat.ne_of_gt (blk_lt (g:=gb169) (o:=.cells #[.int .i64 a0_0,.slice A0_1 l0_1.length c0_1] 24 (0,0)) (by(with_reducible repeat first|apply bkN|apply bkD|apply bkA);exact BK169.out)) : gb170 ≠ gb169));clear BK169;clear HB;have BK169:=n0_;have HB:=n1_;have BK170:=n2_;have GW170:=n3_;have GE170:=n4_;have NB169_170:=n5_;have NB170_169:=n6_;clear n0_ n1_ n2_ n3_ n4_ n5_ n6_;clear hb hbox hg;have hnb4:=NB169_170.out;have hnc4:=NB170_169.out;have hcz5_0 : w3.cell? ⟨gb169,0,none⟩ = some (.int .i64 a0_0):=(bkC BK169.out 0).trans rfl;have hcz5_1 : w3.cell? ⟨gb169,1,none⟩ = some (.slice A0_1 l0_1.length c0_1):=(bkC BK169.out 1).trans rfl;have hfz5_0:=bkF BK169.out 0;have hfz5_1:=bkF BK169.out 1)|((with_reducible refine gate_dst (N:=3) rfl ?_);refine box_event ?hg (N:=3) ?hd (cs:=#[.int .i64 0,.slice none 0 0]) (t:=32) ?hr ?_;(case hd=>rfl);(case hg=>rfl);(case hr=>first|(go_simp;done)|(go_simp;rfl));intro gb171 hg w6 hbox hb;have n0_:=mkA (bkB (g:=gb169) (o:=.cells #[.int .i64 a0_0,.slice A0_1 l0_1.length c0_1] 24 (0,0)) (by(with_reducible repeat first|apply bkN|apply bkD|apply bkA);exact BK169.out) hb);have n1_:=mkA (bkB (g:=gb170) (o:=.cells #[.int .i64 0,.slice none 0 0] 32 (0,0)) (by(with_reducible repeat first|apply bkN|apply bkD|apply bkA);exact BK170.out) hb);have n2_:=mkA (below_step (by repeat (with_reducible first|exact HB.out|apply bwA|apply bwN|apply bwD|refine bwS ?_ GE169.out|refine bwS ?_ GE170.out)) hb);have n3_:=mkA (hbox);have n4_:=mkA ((by rw [hg];exact(bwZ (by repeat (with_reducible first|exact HB.out|apply bwA|apply bwN|apply bwD|refine bwS ?_ GE169.out|refine bwS ?_ GE170.out))) : w.heap.size ≤ gb171));have n5_:=mkA ((by rw [hg];exact(bwZ (by repeat (with_reducible first|exact HB.out|apply bwA|apply bwN|apply bwD|refine bwS ?_ GE169.out|refine bwS ?_ GE170.out))) : w.heap.size ≤ gb171));have n6_:=mkA ((by rw [hg];exact Nat.ne_of_lt (blk_lt (g:=gb169) (o:=.cells #[.int .i64 a0_0,.slice A0_1 l0_1.length c0_1] 24 (0,0)) (by(with_reducible repeat first|apply bkN|apply bkD|apply bkA);exact BK169.out)) : gb169 ≠ gb171));have n7_:=mkA ((by rw [hg];exact Nat.ne_of_gt (blk_lt (g:=gb169) (o:=.cells #[.int .i64 a0_0,.slice A0_1 l0_1.length c0_1] 24 (0,0)) (by(with_reducible repeat first|apply bkN|apply bkD|apply bkA);exact BK169.out)) : gb171 ≠ gb169));have n8_:=mkA ((by rw [hg];exact Nat.ne_of_lt (blk_lt (g:=gb170) (o:=.cells #[.int .i64 0,.slice none 0 0] 32 (0,0)) (by(with_reducible repeat first|apply bkN|apply bkD|apply bkA);exact BK170.out)) : gb170 ≠ gb171));have n9_:=mkA ((by rw [hg];exact Nat.ne_of_gt (blk_lt (g:=gb170) (o:=.cells #[.int .i64 0,.slice none 0 0] 32 (0,0)) (by(with_reducible repeat first|apply bkN|apply bkD|apply bkA);exact BK170.out)) : gb171 ≠ gb170));clear BK169;clear BK170;clear HB;have BK169:=n0_;have BK170:=n1_;have HB:=n2_;have BK171:=n3_;have GW171:=n4_;have GE171:=n5_;have NB169_171:=n6_;have NB171_169:=n7_;have NB170_171:=n8_;have NB171_170:=n9_;clear n0_ n1_ n2_ n3_ n4_ n5_ n6_ n7_ n8_ n9_;clear hb hbox hg;have hnb7:=NB171_169.out;have hnc7:=NB169_171.out;have hnb8:=NB171_170.out;have hnc8:=NB170_171.out;have hcz9_0 : w6.cell? ⟨gb171,0,none⟩ = some (.int .i64 0):=(bkC BK171.out 0).trans rfl;have hcz9_1 : w6.cell? ⟨gb171,1,none⟩ = some (.slice none 0 0):=(bkC BK171.out 1).trans rfl;have hfz9_0:=bkF BK171.out 0;have hfz9_1:=bkF BK171.out 1))
  go_loopg [4] k (fun kq v4 w'=>∃ (x4_1 : Int) (x172001_1 : List (S40)) (u172001 : Value),v4 = .int .i64 x4_1∧Aside0 (undercroftlaw04_Of.l0 kq x4_1 a0_0 l0_1 a0_0 x172001_1 = some (r1,r2))∧Aside0 (kq ≤ k)∧Aside0 (Kd.S k40 40 w' w.heap.size (fun _=>True) u172001 x172001_1)∧Aside0 (w'.heap[gb169]? = some (.cells #[.int .i64 a0_0,(.slice A0_1 l0_1.length c0_1)] 24 (0,0)))∧Aside0 (w'.heap[gb170]? = some (.cells #[.int .i64 0,(.slice none 0 0)] 32 (0,0)))∧Aside0 (w'.heap[gb171]? = some (.cells #[.int .i64 a0_0,u172001] 32 (0,0)))∧Aside0 (Below w.heap.size w w'))
  case atStart=>exact⟨(0),(([] : List (S40))),(.slice none 0 0),(by first|rfl|(simp;done)|(simp [*];done)),H',⟨Nat.le_refl _⟩,⟨by first|exact Kd.S_nil _ _ _ _ _|exact Kd.N_nil _ _ _ _ _|exact Kd.V_nil _ _ _ _ _|exact Kd.Q_nil _ _ _ _ _|exact Kd.R_nil _ _ _ _ _⟩,⟨by(with_reducible repeat first|apply bkN|apply bkD|apply bkA);refine blk_far ?_ NB169_171.out _;(with_reducible repeat first|apply bkN|apply bkD|apply bkA);refine blk_far ?_ NB169_171.out _;(with_reducible repeat first|apply bkN|apply bkD|apply bkA);exact BK169.out⟩,⟨by(with_reducible repeat first|apply bkN|apply bkD|apply bkA);refine blk_far ?_ NB170_171.out _;(with_reducible repeat first|apply bkN|apply bkD|apply bkA);refine blk_far ?_ NB170_171.out _;(with_reducible repeat first|apply bkN|apply bkD|apply bkA);exact BK170.out⟩,⟨by(with_reducible repeat first|apply bkN|apply bkD|apply bkA);refine blk_put (cs:=#[.int .i64 a0_0,.slice none 0 0]) ?_ 1 _ rfl;(with_reducible repeat first|apply bkN|apply bkD|apply bkA);refine blk_put (cs:=#[.int .i64 0,.slice none 0 0]) ?_ 0 _ rfl;(with_reducible repeat first|apply bkN|apply bkD|apply bkA);exact BK171.out⟩,⟨by repeat (with_reducible first|exact HB.out|apply bwA|apply bwN|apply bwD|refine bwS ?_ GE169.out|refine bwS ?_ GE170.out|refine bwS ?_ GE171.out)⟩⟩
  case round =>
    clear H'
    try clear p2
    try clear c4
    try clear c7
    try clear c8
    try clear c9
    try clear hcz5_0
    try clear hcz5_1
    try clear hcz9_0
    try clear hcz9_1
    try clear hfz5_0
    try clear hfz5_1
    try clear hfz9_0
    try clear hfz9_1
    obtain ⟨x4_1,x172001_1,u172001,rfl,HA,HK1,HO_172001,BK169,BK170,BK171,HB⟩:=hrel
    cases gk with
    | zero=>exact absurd HA.out (by simp [undercroftlaw04_Of.l0])
    | succ k1 =>
      have H:=HA.out
      clear HA
      simp only [undercroftlaw04_Of.l0] at H
      by_cases c10 : x4_1 < (l0_1.length : Int)
      · rw [if_pos c10] at H
        have c10b0 : decide (x4_1 < (l0_1.length : Int)) = true:=decide_eq_true c10
        clear c10
        by_cases c11 : 0 ≤ x4_1
        · rw [if_pos c11] at H
          have c11b0 : decide (0 ≤ x4_1) = true:=decide_eq_true c11
          clear c11
          replace H:=Option.bind_eq_some_iff.mp H
          obtain ⟨⟨t173,t174,t175⟩,A120,H⟩:=H
          replace H : (if x172001_1.length < 3518437208883 then(undercroftlaw04_Of.l0 k1 (wrap64 (x4_1 + 1)) a0_0 l0_1 a0_0 (x172001_1 ++ [(⟨t173,t174,t175⟩ : S40)])) else(none)) = some (r1,r2):=H
          have A12:=mkA A120
          clear A120
          by_cases c13 : x172001_1.length < 3518437208883
          · rw [if_pos c13] at H
            have LMc13:=mkA c13
            clear c13
            obtain ⟨y178,hy178⟩ : ∃ y_ : List (S40),y_ = (x172001_1 ++ [(⟨t173,t174,t175⟩ : S40)]):=⟨_,rfl⟩
            replace H : (undercroftlaw04_Of.l0 k1 (wrap64 (x4_1 + 1)) a0_0 l0_1 a0_0 y178) = some (r1,r2):=by first|(rw [hy178];with_reducible exact H)|(have H2_:=(Option.bind_some _ _).symm.trans H;rw [hy178];with_reducible exact H2_)|(have H2_:=(Option.bind_some _ _).symm.trans H;with_reducible exact H2_)|with_reducible exact H|(rw [hy178];exact H)|exact H
            have Ny178:=mkA hy178
            clear hy178
            have H':=mkA H
            clear H
            have hnb14:=NB169_170.out
            have hnc14:=NB170_169.out
            have hnb15:=NB169_171.out
            have hnc15:=NB171_169.out
            have hcz16_0 : wr.cell? ⟨gb169,0,none⟩ = some (.int .i64 a0_0):=(bkC BK169.out 0).trans rfl
            have hcz16_1 : wr.cell? ⟨gb169,1,none⟩ = some (.slice A0_1 l0_1.length c0_1):=(bkC BK169.out 1).trans rfl
            have hfz16_0:=bkF BK169.out 0
            have hfz16_1:=bkF BK169.out 1
            try go_wp2
            have n0_:=mkA (Kd.S_drew HO_172001.out)
            have n1_:=mkA (bkD BK169.out)
            have n2_:=mkA (bkD BK170.out)
            have n3_:=mkA (bkD BK171.out)
            have n4_:=mkA (bwD HB.out)
            clear HO_172001
            clear BK169
            clear BK170
            clear BK171
            clear HB
            have HO_172001:=n0_
            have BK169:=n1_
            have BK170:=n2_
            have BK171:=n3_
            have HB:=n4_
            clear n0_ n1_ n2_ n3_ n4_
            have p172 : 0 ≤ (x4_1 : Int):=odt (by first|(with_reducible assumption)|assumption)
            have q172 : x4_1 < (l0_1.length : Int):=odt (by first|(with_reducible assumption)|assumption)
            obtain ⟨ad172,A172_2,c172_2,e172,hx172_0,hx172_1,hx172_2,hl172_2,hi172_2⟩:=at_T38 HR0_1.out x4_1 p172 q172
            have hw172_2:=hx172_2
            have hw172_1:=hx172_1
            have hw172_0:=hx172_0
            cases e172
            replace hx172_0:=(HB.out.cell (blC w _ hx172_0)).trans hx172_0
            replace hx172_1:=(HB.out.cell (blC w _ hx172_1)).trans hx172_1
            replace hx172_2:=(HB.out.cell (blC w _ hx172_2)).trans hx172_2
            have HR172_2:=mkA hi172_2
            have HC172_2:=mkA hl172_2
            clear hi172_2 hl172_2
            replace p172:=eq_true p172
            replace q172:=eq_true q172
            refine start_ (n:=12) (S:=fun w'=>w'.cell? ⟨gb171,0,none⟩ = some (.int .i64 a0_0)∧w'.cell? ⟨gb171,1,none⟩ = some (u172001)∧w'.cell? ⟨gb169,0,none⟩ = some (.int .i64 a0_0)∧w'.cell? ⟨gb169,1,none⟩ = some (.slice (some ad172) l0_1.length c0_1)∧w'.cell? (ad172.add ((x4_1).toNat * 3)) = some (.int .i64 ((rd_T38 l0_1 x4_1).f0))∧w'.cell? ⟨(ad172.add ((x4_1).toNat * 3)).block,(ad172.add ((x4_1).toNat * 3)).off + 1,none⟩ = some (.int .i64 ((rd_T38 l0_1 x4_1).f1))∧w'.cell? ⟨(ad172.add ((x4_1).toNat * 3)).block,(ad172.add ((x4_1).toNat * 3)).off + 2,none⟩ = some (.slice A172_2 ((rd_T38 l0_1 x4_1).f2).length c172_2)) (ds:=[11]) #[false,false,false,false,false,false,false,false,false,false,false,false] (by kernel_rfl) rfl rfl ⟨(bkC BK171.out 0).trans rfl,(bkC BK171.out 1).trans rfl,(bkC BK169.out 0).trans rfl,(bkC BK169.out 1).trans rfl,((HB.out.cell (blC w _ hw172_0)).trans hw172_0),((HB.out.cell (blC w _ hw172_1)).trans hw172_1),((HB.out.cell (blC w _ hw172_2)).trans hw172_2)⟩ (fun hHeld=>?_);refine with_tabW undercroftlaw04_Of.tab5 undercroftlaw04_Of.bits5 (fun HT_ HW_=>?_)
            generalize wr.drew = w17 at HO_172001 BK169 BK170 BK171 HB HR172_2 hx172_0 hx172_1 hx172_2 hHeld ⊢
            refine pure_ (i:=0) (N:=some 15) (v:=?_) (a':=?_) #[true,false,false,false,false,false,false,false,false,false,false,false] rfl rfl (any_of HT_.out (by kernel_rfl)) (fun _ _ _ h=>h) (Or.inl ⟨by rfl,?_⟩) ?_ ?_
            rotate_left
            · intro w'
              go_simp
              with_reducible rfl
            rotate_left
            · simp only [Act.put,lsA,lsZ,lsS,i64_w,i32_w]
              rfl
            refine pure_ (i:=2) (N:=some 17) (v:=?_) (a':=?_) #[true,false,true,false,false,false,false,false,false,false,false,false] rfl rfl (any_of HT_.out (by kernel_rfl)) (fun _ _ _ h=>h) (Or.inl ⟨by rfl,?_⟩) ?_ ?_
            rotate_left
            · intro w'
              go_simp
              with_reducible rfl
            rotate_left
            · simp only [Act.put,lsA,lsZ,lsS,i64_w,i32_w]
              rfl
            refine pure_ (i:=4) (N:=some 19) (v:=?_) (a':=?_) #[true,false,true,false,true,false,false,false,false,false,false,false] rfl rfl (any_of HT_.out (by kernel_rfl)) (fun _ _ _ h=>h) (Or.inl ⟨by rfl,?_⟩) ?_ ?_
            rotate_left
            · intro w'
              go_simp
              with_reducible rfl
            rotate_left
            · simp only [Act.put,lsA,lsZ,lsS,i64_w,i32_w]
              rfl
            refine take_ (i:=1) (N:=some 16) (v:=?_) (a':=?_) #[true,true,true,false,true,false,false,false,false,false,false,false] rfl rfl (take_ofW HT_.out HW_.out (by kernel_rfl)) (fun _ _ _ h=>h) (Or.inl ⟨by rfl,?_⟩) hHeld ?_ ?_
            rotate_left
            · rintro w' ⟨s0,s1,s2,s3,s4,s5,s6⟩
              go_simp
              with_reducible rfl
            rotate_left
            · simp only [Act.put,lsA,lsZ,lsS,i64_w,i32_w]
              rfl
            refine take_ (i:=3) (N:=some 18) (v:=?_) (a':=?_) #[true,true,true,true,true,false,false,false,false,false,false,false] rfl rfl (take_ofW HT_.out HW_.out (by kernel_rfl)) (fun _ _ _ h=>h) (Or.inl ⟨by rfl,?_⟩) hHeld ?_ ?_
            rotate_left
            · rintro w' ⟨s0,s1,s2,s3,s4,s5,s6⟩
              go_simp
              with_reducible rfl
            rotate_left
            · simp only [Act.put,lsA,lsZ,lsS,i64_w,i32_w]
              rfl
            refine pure_ (i:=5) (N:=some 20) (v:=?_) (a':=?_) #[true,true,true,true,true,true,false,false,false,false,false,false] rfl rfl (any_of HT_.out (by kernel_rfl)) (fun _ _ _ h=>h) (Or.inl ⟨by rfl,?_⟩) ?_ ?_
            rotate_left
            · intro w'
              go_simp
              with_reducible rfl
            rotate_left
            · simp only [Act.put,lsA,lsZ,lsS,i64_w,i32_w]
              rfl
            refine take_ (i:=6) (N:=some 21) (v:=?_) (a':=?_) #[true,true,true,true,true,true,true,false,false,false,false,false] rfl rfl (take_ofW HT_.out HW_.out (by kernel_rfl)) (fun _ _ _ h=>h) (Or.inl ⟨by rfl,?_⟩) hHeld ?_ ?_
            rotate_left
            · rintro w' ⟨s0,s1,s2,s3,s4,s5,s6⟩
              go_simp
              with_reducible rfl
            rotate_left
            · simp only [Act.put,lsA,lsZ,lsS,i64_w,i32_w]
              rfl
            refine one_ (i:=7) (N:=some 22) #[true,true,true,true,true,true,true,true,false,false,false,false] rfl rfl (one_of HT_.out (by kernel_rfl)) (by decide) (fun K hK=>?_)
            refine goes_ Try.func12 (by kernel_rfl) rfl #[.agg #[.int .i64 ((rd_T38 l0_1 x4_1).f0),.int .i64 ((rd_T38 l0_1 x4_1).f1),.slice A172_2 ((rd_T38 l0_1 x4_1).f2).length c172_2]] (by rfl) rfl rfl (by(try simp only [List.map_toArray,List.map_cons,List.map_nil]);first|done|rfl) ?_
            with_reducible refine(undercroftlaw04_one.calls ((rd_T38 l0_1 x4_1).f0) ((rd_T38 l0_1 x4_1).f1) _ _ ((rd_T38 l0_1 x4_1).f2) t173 t174 t175 _ ?side1 ?side2 A12.out).mono ?_
            (case side1=>repeat (first|exact(Kd.C_below HR172_2.out HB.out)|(with_reducible refine Kd.C_alloc ?_ _)|(with_reducible refine Kd.C_drewN ?_ _)|(with_reducible refine Kd.C_drew ?_)))
            (case side2=>exact HC172_2.out)
            rintro e w18 ⟨v176,rfl,ho0,hb⟩
            refine⟨_,rfl,?_⟩
            have n0_:=mkA (Kd.S_elder' (by(with_reducible repeat (first|apply Kd.S_alloc|apply Kd.S_drewN|apply Kd.S_drew));exact HO_172001.out) (Kd.R_base ho0) hb)
            have n1_:=mkA (Kd.R_lower ho0 (bwZ (by repeat (with_reducible first|exact HB.out|apply bwA|apply bwN|apply bwD|refine bwS ?_ GE169.out|refine bwS ?_ GE170.out|refine bwS ?_ GE171.out))))
            have n2_:=mkA (bkB (g:=gb169) (o:=.cells #[.int .i64 a0_0,.slice (some ad172) l0_1.length c0_1] 24 (0,0)) (by(with_reducible repeat first|apply bkN|apply bkD|apply bkA);exact BK169.out) hb)
            have n3_:=mkA (bkB (g:=gb170) (o:=.cells #[.int .i64 0,.slice none 0 0] 32 (0,0)) (by(with_reducible repeat first|apply bkN|apply bkD|apply bkA);exact BK170.out) hb)
            have n4_:=mkA (bkB (g:=gb171) (o:=.cells #[.int .i64 a0_0,u172001] 32 (0,0)) (by(with_reducible repeat first|apply bkN|apply bkD|apply bkA);exact BK171.out) hb)
            have n5_:=mkA (below_step (by repeat (with_reducible first|exact HB.out|apply bwA|apply bwN|apply bwD|refine bwS ?_ GE169.out|refine bwS ?_ GE170.out|refine bwS ?_ GE171.out)) hb)
            clear HO_172001
            clear BK169
            clear BK170
            clear BK171
            clear HB
            have HO_172001:=n0_
            have HO177:=n1_
            have BK169:=n2_
            have BK170:=n3_
            have BK171:=n4_
            have HB:=n5_
            clear n0_ n1_ n2_ n3_ n4_ n5_
            (try clear hb)
            (try clear hb2)
            (try clear hk)
            (try clear hi)
            (try clear ho0)
            obtain ⟨Ao20,co20,eo20⟩:=Kd.R_slice HO177.out
            (first|subst eo20|(injection eo20 with f1_ f2_ f3_;have f4_:=f1_.symm;have f5_:=f3_.symm;clear f1_ f2_ f3_;subst f4_;subst f5_))
            refine hK.out _ _ ⟨(bkC BK171.out 0).trans rfl,(bkC BK171.out 1).trans rfl,(bkC BK169.out 0).trans rfl,(bkC BK169.out 1).trans rfl,((HB.out.cell (blC w _ hw172_0)).trans hw172_0),((HB.out.cell (blC w _ hw172_1)).trans hw172_1),((HB.out.cell (blC w _ hw172_2)).trans hw172_2)⟩ (fun hHeld=>?_)
            clear hK K
            refine norm_ (a':=?_) ?_ ?_
            rotate_left
            · show Act.put _ (some 22) _ = _
              simp only [Act.put,lsA,lsZ,lsS,i64_w,i32_w]
              rfl
            refine one_ (i:=8) (N:=some 23) #[true,true,true,true,true,true,true,true,true,false,false,false] rfl rfl (one_of HT_.out (by kernel_rfl)) (by decide) (fun K hK=>?_)
            refine value_ (w1:=?_) (v:=?_) (by rfl) rfl ?_ ?_
            rotate_left 2
            · go_simp
              constructor
              · rfl
              · rfl
            refine hK.out _ _ ⟨(bkC (bkA BK171.out _) 0).trans rfl,(bkC (bkA BK171.out _) 1).trans rfl,(bkC (bkA BK169.out _) 0).trans rfl,(bkC (bkA BK169.out _) 1).trans rfl,(World.cell?_alloc_lt _ _ _ (blC _ _ (((HB.out.cell (blC w _ hw172_0)).trans hw172_0)))).trans (((HB.out.cell (blC w _ hw172_0)).trans hw172_0)),(World.cell?_alloc_lt _ _ _ (blC _ _ (((HB.out.cell (blC w _ hw172_1)).trans hw172_1)))).trans (((HB.out.cell (blC w _ hw172_1)).trans hw172_1)),(World.cell?_alloc_lt _ _ _ (blC _ _ (((HB.out.cell (blC w _ hw172_2)).trans hw172_2)))).trans (((HB.out.cell (blC w _ hw172_2)).trans hw172_2))⟩ (fun hHeld=>?_)
            clear hK K
            refine norm_ (a':=?_) ?_ ?_
            rotate_left
            · show Act.put _ (some 23) _ = _
              simp only [Act.put,lsA,lsZ,lsS,i64_w,i32_w]
              rfl
            refine one_ (i:=9) (N:=some 24) #[true,true,true,true,true,true,true,true,true,true,false,false] rfl rfl (one_of HT_.out (by kernel_rfl)) (by decide) (fun K hK=>?_)
            refine Kd.S_append_step k40 (w0:=w) w.heap.size (by rfl) (.tmp 16) (.tmp 23) 30 40 (.agg #[(.int .i64 0),(.int .i64 0),(.slice none 0 0)]) 40 rfl Try.underlying30 info40 rfl (by decide) (by omega) u172001 x172001_1 (⟨t173,t174,t175⟩ : S40) [.int .i64 t173,.int .i64 t174,.slice Ao20 t175.length co20] (fun _=>True) (fun k_=>some k_ = (.slice Ao20 t175.length co20 : Value).ownBlock) rfl rfl ?aP (fun k_ hk_=>((Kd.R_mono (ok':=fun k_=>((fun _=>True)) k_∧some k_ ≠ (u172001 : Value).ownBlock) (Kd.R_apart' (HO177.out) (Kd.S_typed HO_172001.out) (by decide)) (fun k_ hk=>⟨trivial,hk.2⟩))).1 k_ hk_.symm) ?aF ?aO ?aB ?aS ?aL ?_
            (case aP=>exact k40_mkM _ _ _ (⟨t173,t174,t175⟩ : S40) (Kd.R_mono (Kd.R_tight rfl (Kd.R_mono (ok':=fun k_=>((fun _=>True)) k_∧some k_ ≠ (u172001 : Value).ownBlock) (Kd.R_apart' (HO177.out) (Kd.S_typed HO_172001.out) (by decide)) (fun k_ hk=>⟨trivial,hk.2⟩))) (fun _ h_=>h_)))
            (case aB=>exact(by repeat (with_reducible first|exact HB.out|apply bwA|apply bwN|apply bwD|refine bwS ?_ GE169.out|refine bwS ?_ GE170.out|refine bwS ?_ GE171.out)))
            (case aF=>exact(fun _ _=>trivial))
            (case aO=>exact(by(with_reducible repeat (first|apply Kd.S_alloc|apply Kd.S_drewN|apply Kd.S_drew));exact Kd.S_mono HO_172001.out (fun k_ hk=>⟨trivial,fun e_=>hk.2 e_⟩)))
            (case aS=>exact(bwZ (by repeat (with_reducible first|exact HB.out|apply bwA|apply bwN|apply bwD|refine bwS ?_ GE169.out|refine bwS ?_ GE170.out|refine bwS ?_ GE171.out))))
            (case aL=>have:=LMc13.out;omega)
            intro v179 w19 ho hb hg hat
            rw [← Ny178.out] at ho
            have n0_:=mkA (blk_grown (g:=gb169) (o:=.cells #[.int .i64 a0_0,.slice (some ad172) l0_1.length c0_1] 24 (0,0)) (by(with_reducible repeat first|apply bkN|apply bkD|apply bkA);exact BK169.out) hg (Kd.S_ne HO_172001.out BK169.out (by decide)))
            have n1_:=mkA (blk_grown (g:=gb170) (o:=.cells #[.int .i64 0,.slice none 0 0] 32 (0,0)) (by(with_reducible repeat first|apply bkN|apply bkD|apply bkA);exact BK170.out) hg (Kd.S_ne HO_172001.out BK170.out (by decide)))
            have n2_:=mkA (blk_grown (g:=gb171) (o:=.cells #[.int .i64 a0_0,u172001] 32 (0,0)) (by(with_reducible repeat first|apply bkN|apply bkD|apply bkA);exact BK171.out) hg (Kd.S_ne HO_172001.out BK171.out (by decide)))
            have n3_:=mkA (hb)
            have n4_:=mkA (ho)
            clear BK169
            clear BK170
            clear BK171
            clear HB
            clear HO_172001
            clear HO177
            have BK169:=n0_
            have BK170:=n1_
            have BK171:=n2_
            have HB:=n3_
            have HO180:=n4_
            clear n0_ n1_ n2_ n3_ n4_
            clear ho hb hg hat
            obtain ⟨Ao21,co21,eo21⟩:=Kd.S_slice HO180.out
            (first|subst eo21|(injection eo21 with f1_ f2_ f3_;have f4_:=f1_.symm;have f5_:=f3_.symm;clear f1_ f2_ f3_;subst f4_;subst f5_))
            refine hK.out _ _ ⟨(bkC BK171.out 0).trans rfl,(bkC BK171.out 1).trans rfl,(bkC BK169.out 0).trans rfl,(bkC BK169.out 1).trans rfl,((HB.out.cell (blC w _ hw172_0)).trans hw172_0),((HB.out.cell (blC w _ hw172_1)).trans hw172_1),((HB.out.cell (blC w _ hw172_2)).trans hw172_2)⟩ (fun hHeld=>?_)
            clear hK K
            refine norm_ (a':=?_) ?_ ?_
            rotate_left
            · show Act.put _ (some 24) _ = _
              simp only [Act.put,lsA,lsZ,lsS,i64_w,i32_w]
              rfl
            refine pure_ (i:=10) (N:=some 25) (v:=?_) (a':=?_) #[true,true,true,true,true,true,true,true,true,true,true,false] rfl rfl (any_of HT_.out (by kernel_rfl)) (fun _ _ _ h=>h) (Or.inl ⟨by rfl,?_⟩) ?_ ?_
            rotate_left
            · intro w'
              go_simp
              with_reducible rfl
            rotate_left
            · simp only [Act.put,lsA,lsZ,lsS,i64_w,i32_w]
              rfl
            refine last_ (i:=11) (N:=none) #[true,true,true,true,true,true,true,true,true,true,true,true] rfl rfl (one_of HT_.out (by kernel_rfl)) (by decide) (fun K hK=>?_)
            have hs22 : w19.cell? ⟨gb171,1,none⟩ = some (u172001):=(bkC BK171.out 1).trans rfl
            have hfs22:=bkF BK171.out 1
            have hns22_0:=NB169_171.out
            have hns22_1:=NB170_171.out
            have hms22_0:=NB171_169.out
            have hms22_1:=NB171_170.out
            refine skip_ (w1:=?_) (by rfl) rfl ?_ ?_
            rotate_left
            · go_simp
              rfl
            refine hK.out _ _ ?_
            clear hK K
            refine done_ (done_of HT_.out (by kernel_rfl)) ?_
            try go_wp2
            go_roundg k1
            case measure=>have:=HK1.out;omega
            case rel=>exact⟨(wrap64 (x4_1 + 1)),(y178),(.slice Ao21 y178.length co21),(by first|rfl|(simp;done)|(simp [*];done)),H',⟨by have:=HK1.out;omega⟩,⟨by(with_reducible repeat (first|apply Kd.S_alloc|apply Kd.S_drewN|apply Kd.S_drew));exact Kd.S_mono (Kd.S_far (p:=⟨gb171,1,none⟩) (Kd.S_types HO180.out BK171.out (by decide)) (fun _ hk=>hk.2) (.slice Ao21 y178.length co21)) (fun _ hk=>trivial)⟩,⟨by(with_reducible repeat first|apply bkN|apply bkD|apply bkA);refine blk_far ?_ NB169_171.out _;(with_reducible repeat first|apply bkN|apply bkD|apply bkA);exact BK169.out⟩,⟨by(with_reducible repeat first|apply bkN|apply bkD|apply bkA);refine blk_far ?_ NB170_171.out _;(with_reducible repeat first|apply bkN|apply bkD|apply bkA);exact BK170.out⟩,⟨by(with_reducible repeat first|apply bkN|apply bkD|apply bkA);refine blk_put (cs:=#[.int .i64 a0_0,u172001]) ?_ 1 _ rfl;(with_reducible repeat first|apply bkN|apply bkD|apply bkA);exact BK171.out⟩,⟨by repeat (with_reducible first|exact HB.out|apply bwA|apply bwN|apply bwD|refine bwS ?_ GE169.out|refine bwS ?_ GE170.out|refine bwS ?_ GE171.out)⟩⟩
          · rw [if_neg c13] at H
            exact absurd H (by simp)
        · rw [if_neg c11] at H
          exact absurd H (by simp)
      · rw [if_neg c10] at H
        have c10b0 : decide (x4_1 < (l0_1.length : Int)) = false:=decide_eq_false c10
        clear c10
        simp only [Option.some.injEq,Prod.mk.injEq] at H
        obtain ⟨rfl,rfl⟩:=H
        have hnb23:=NB169_170.out
        have hnc23:=NB170_169.out
        have hnb24:=NB169_171.out
        have hnc24:=NB171_169.out
        have hcz25_0 : wr.cell? ⟨gb169,0,none⟩ = some (.int .i64 a0_0):=(bkC BK169.out 0).trans rfl
        have hcz25_1 : wr.cell? ⟨gb169,1,none⟩ = some (.slice A0_1 l0_1.length c0_1):=(bkC BK169.out 1).trans rfl
        have hfz25_0:=bkF BK169.out 0
        have hfz25_1:=bkF BK169.out 1
        have hnb26:=NB171_170.out
        have hnc26:=NB170_171.out
        have hcz27_0 : wr.cell? ⟨gb171,0,none⟩ = some (.int .i64 a0_0):=(bkC BK171.out 0).trans rfl
        have hcz27_1 : wr.cell? ⟨gb171,1,none⟩ = some (u172001):=(bkC BK171.out 1).trans rfl
        have hfz27_0:=bkF BK171.out 0
        have hfz27_1:=bkF BK171.out 1
        have hcz28_0 : wr.cell? ⟨gb170,0,none⟩ = some (.int .i64 0):=(bkC BK170.out 0).trans rfl
        have hcz28_1 : wr.cell? ⟨gb170,1,none⟩ = some (.slice none 0 0):=(bkC BK170.out 1).trans rfl
        have hfz28_0:=bkF BK170.out 0
        have hfz28_1:=bkF BK170.out 1
        obtain ⟨Ao29,co29,eo29⟩:=Kd.S_slice HO_172001.out
        subst eo29
        go_wp2
        refine bodyPost_ret (results_cell_row rfl _ _ gb170 32 #[.int .i64 a0_0,.slice Ao29 x172001_1.length co29] (0,0) _ rfl (by(with_reducible repeat first|apply bkN|apply bkD|apply bkA);refine blk_put (cs:=#[.int .i64 a0_0,.slice none 0 0]) ?_ 1 _ rfl;(with_reducible repeat first|apply bkN|apply bkD|apply bkA);refine blk_put (cs:=#[.int .i64 0,.slice none 0 0]) ?_ 0 _ rfl;(with_reducible repeat first|apply bkN|apply bkD|apply bkA);exact BK170.out) Try.underlying32 rfl (by kernel_rfl)) rfl ?_
        exact⟨_,by first|rfl|(simp [errW_none,errW_some] <;> rfl)|(simp [*,errW_none,errW_some] <;> rfl),by(with_reducible repeat (first|apply Kd.S_alloc|apply Kd.S_drewN|apply Kd.S_drew));exact Kd.S_mono (Kd.S_far (p:=⟨gb170,1,none⟩) (Kd.S_far (p:=⟨gb170,0,none⟩) (Kd.S_types HO_172001.out BK170.out (by decide)) (fun _ hk=>hk.2) (.int .i64 a0_0)) (fun _ hk=>hk.2) (.slice Ao29 x172001_1.length co29)) (fun _ hk=>trivial),by repeat (with_reducible first|exact HB.out|apply bwA|apply bwN|apply bwD|refine bwS ?_ GE169.out|refine bwS ?_ GE170.out|refine bwS ?_ GE171.out)⟩

/-! ### undercroftref04_node: function 28 -/
def undercroftref04_node.f (a0 : Int) : Option (Bool):=if a0 ≥ 0 then(some (decide (a0 < 9))) else(some false)
set_option maxHeartbeats 8000000 in
set_option maxRecDepth 100000 in
theorem undercroftref04_node.calls (a0 : Int) (r : Bool) (w : World) (h : undercroftref04_node.f a0 = some r) :
    Calls Try.prog 28 #[.int .i64 a0] w fun e w'=>e = .returned (.bool r)∧Drawn0 w w':=by
  have H : (if a0 ≥ 0 then(some (decide (a0 < 9))) else(some false)) = some r:=h
  clear h
  by_cases c2 : a0 ≥ 0
  · rw [if_pos c2] at H
    have c2b0 : decide (0 ≤ a0) = true:=decide_eq_true c2
    clear c2
    obtain rfl:=Option.some.inj H
    go_enter Try.func28,Try.ntmps28
    go_wp2
    go_ret
    exact⟨by first|rfl|(simp;done)|(simp [*];done),by repeat (first|exact Drawn0.refl _|apply Drawn0.step)⟩
  · rw [if_neg c2] at H
    have c2b0 : decide (0 ≤ a0) = false:=decide_eq_false c2
    clear c2
    obtain rfl:=Option.some.inj H
    go_enter Try.func28,Try.ntmps28
    go_wp2
    go_ret
    exact⟨by first|rfl|(simp;done)|(simp [*];done),by repeat (first|exact Drawn0.refl _|apply Drawn0.step)⟩

/-! ### undercroftref04_Check: function 11 -/
mutual
def undercroftref04_Check.j0 : Nat→Bool→Int→List (S38)→Option (Int)
  | 0,_,_,_=>none
  | k + 1,x20,x182000,x182001=>if x20 = true then(some 9) else(undercroftref04_Check.l0 k 0 x182000 x182001)
def undercroftref04_Check.l0 : Nat→Int→Int→List (S38)→Option (Int)
  | 0,_,_,_=>none
  | k + 1,x3,x182000,x182001=>if x3 < (x182001.length : Int) then(if 0 ≤ x3 then((undercroftref04_node.f ((rd_T38 x182001 x3).f0)).bind fun t184=>(if t184 = true then((undercroftref04_node.f ((rd_T38 x182001 x3).f1)).bind fun t185=>(if t185 = true then(if(((rd_T38 x182001 x3).f2).length : Int) > 4096 then(some 9) else(undercroftref04_Check.l0 k (wrap64 (x3 + 1)) x182000 x182001)) else(some 9))) else(some 9))) else(none)) else(some 0)
end
def undercroftref04_Check.f (k : Nat) (a0_0 : Int) (l0_1 : List (S38)) : Option (Int):=if a0_0 < 1 then(undercroftref04_Check.j0 k true a0_0 l0_1) else(if a0_0 > 4096 then(undercroftref04_Check.j0 k true a0_0 l0_1) else(undercroftref04_Check.j0 k (decide ((l0_1.length : Int) > a0_0)) a0_0 l0_1))
theorem undercroftref04_Check.mono_l : ∀ k,(∀ y0 y1 y2,LeO (undercroftref04_Check.j0 k y0 y1 y2) (undercroftref04_Check.j0 (k + 1) y0 y1 y2))∧(∀ y0 y1 y2,LeO (undercroftref04_Check.l0 k y0 y1 y2) (undercroftref04_Check.l0 (k + 1) y0 y1 y2))
  | 0=>⟨fun _ _ _ r h=>by simp [undercroftref04_Check.j0] at h,fun _ _ _ r h=>by simp [undercroftref04_Check.l0] at h⟩
  | k + 1=>by
    obtain ⟨ih0,ih1⟩:=undercroftref04_Check.mono_l k
    refine⟨?_,?_⟩
    · intro y0 y1 y2
      unfold undercroftref04_Check.j0
      repeat' first
      | (with_reducible exact ih0 _ _ _)
      | (with_reducible exact ih1 _ _ _)
      | (with_reducible exact LeO.refl _)
      | (with_reducible exact LeO.none _)
      | (with_reducible refine LeO.ite ?_ ?_)
      | (with_reducible refine LeO.bind ?_ (fun _=>?_))
      | exact ih0 _ _ _
      | exact ih1 _ _ _
      | exact LeO.none _
      | refine LeO.ite ?_ ?_
      | refine LeO.bind ?_ (fun _=>?_)
    · intro y0 y1 y2
      unfold undercroftref04_Check.l0
      repeat' first
      | (with_reducible exact ih0 _ _ _)
      | (with_reducible exact ih1 _ _ _)
      | (with_reducible exact LeO.refl _)
      | (with_reducible exact LeO.none _)
      | (with_reducible refine LeO.ite ?_ ?_)
      | (with_reducible refine LeO.bind ?_ (fun _=>?_))
      | exact ih0 _ _ _
      | exact ih1 _ _ _
      | exact LeO.none _
      | refine LeO.ite ?_ ?_
      | refine LeO.bind ?_ (fun _=>?_)
theorem undercroftref04_Check.mono : ∀ a0 a1 k,LeO (undercroftref04_Check.f k a0 a1) (undercroftref04_Check.f (k + 1) a0 a1):=by
  intro a0 a1 k
  obtain ⟨ih0,ih1⟩:=undercroftref04_Check.mono_l k
  unfold undercroftref04_Check.f
  repeat' first
      | (with_reducible exact ih0 _ _ _)
      | (with_reducible exact ih1 _ _ _)
      | (with_reducible exact LeO.refl _)
      | (with_reducible exact LeO.none _)
      | (with_reducible refine LeO.ite ?_ ?_)
      | (with_reducible refine LeO.bind ?_ (fun _=>?_))
      | exact ih0 _ _ _
      | exact ih1 _ _ _
      | exact LeO.none _
      | refine LeO.ite ?_ ?_
      | refine LeO.bind ?_ (fun _=>?_)
set_option maxHeartbeats 8000000 in
set_option maxRecDepth 100000 in
theorem undercroftref04_Check.calls (k : Nat) (a0_0 : Int) (A0_1 : Option Addr) (c0_1 : Nat) (l0_1 : List (S38)) (r : Int) (w : World) (hr0_1 : Kd.C k38 w A0_1 l0_1.length l0_1) (hc0_1 : l0_1.length ≤ c0_1) (h : undercroftref04_Check.f k a0_0 l0_1 = some r) :
    Calls Try.prog 11 #[.agg #[.int .i64 a0_0,.slice A0_1 l0_1.length c0_1]] w fun e w'=>e = .returned (.int .i64 r)∧Below w.heap.size w w':=by
  have hu24:=Try.underlying24
  have hu38:=Try.underlying38
  have HR0_1:=mkA hr0_1
  have HC0_1:=mkA hc0_1
  clear hr0_1 hc0_1
  have HB:=mkA (Below.refl w.heap.size w)
  have H : (if a0_0 < 1 then(undercroftref04_Check.j0 k true a0_0 l0_1) else(if a0_0 > 4096 then(undercroftref04_Check.j0 k true a0_0 l0_1) else(undercroftref04_Check.j0 k (decide ((l0_1.length : Int) > a0_0)) a0_0 l0_1))) = some r:=h
  clear h
  have HC2:=mkA H
  clear H
  go_enter Try.func11,Try.ntmps11
  go_upto_region 1 with (first|((with_reducible refine gate_dst (N:=1) rfl ?_);(try (refine gate_guard (by rfl) ?_;dsimp only));refine box_event ?hg (N:=1) ?hd (cs:=#[.int .i64 a0_0,.slice A0_1 l0_1.length c0_1]) (t:=24) ?hr ?_;(case hd=>rfl);(case hg=>rfl);(case hr=>first|(go_simp;done)|(go_simp;rfl));intro gb181 hg w3 hbox hb;have n0_:=mkA (below_step (by repeat (with_reducible first|exact HB.out|apply bwA|apply bwN|apply bwD)) hb);have n1_:=mkA (hbox);have n2_:=mkA ((by rw [hg];exact(bwZ (by repeat (with_reducible first|exact HB.out|apply bwA|apply bwN|apply bwD))) : w.heap.size ≤ gb181));have n3_:=mkA ((by rw [hg];exact(bwZ (by repeat (with_reducible first|exact HB.out|apply bwA|apply bwN|apply bwD))) : w.heap.size ≤ gb181));clear HB;have HB:=n0_;have BK181:=n1_;have GW181:=n2_;have GE181:=n3_;clear n0_ n1_ n2_ n3_;clear hb hbox hg))
  (try simp only [Act.put,lsA,lsZ,lsS])
  go_cut [20] (fun v20 wc=>∃ (kq : Nat) (x20_1 : Bool),v20 = .bool x20_1∧Aside0 (undercroftref04_Check.j0 kq x20_1 a0_0 l0_1 = some r)∧Aside0 (kq ≤ k)∧Aside0 (wc.heap[gb181]? = some (.cells #[.int .i64 a0_0,(.slice A0_1 l0_1.length c0_1)] 24 (0,0)))∧Aside0 (Below w.heap.size w wc))
  case first =>
    have H:=HC2.out
    clear HC2
    by_cases c4 : a0_0 < 1
    · rw [if_pos c4] at H
      have c4b0 : decide (a0_0 < 1) = true:=decide_eq_true c4
      clear c4
      (first|rw [c4b0]|(simp only [i64_w,i32_w];rw [c4b0])|skip)
      have H':=mkA H
      clear H
      have hcz5_0 : w3.cell? ⟨gb181,0,none⟩ = some (.int .i64 a0_0):=(bkC BK181.out 0).trans rfl
      have hcz5_1 : w3.cell? ⟨gb181,1,none⟩ = some (.slice A0_1 l0_1.length c0_1):=(bkC BK181.out 1).trans rfl
      have hfz5_0:=bkF BK181.out 0
      have hfz5_1:=bkF BK181.out 1
      go_wp2
      go_meet
      case rel=>exact⟨_,(true),(by first|rfl|(simp;done)|(simp [*];done)),H',⟨by first|omega|exact Nat.le_refl _⟩,⟨by(with_reducible repeat first|apply bkN|apply bkD|apply bkA);exact BK181.out⟩,⟨by repeat (with_reducible first|exact HB.out|apply bwA|apply bwN|apply bwD|refine bwS ?_ GE181.out)⟩⟩
    · rw [if_neg c4] at H
      have c4b0 : decide (a0_0 < 1) = false:=decide_eq_false c4
      clear c4
      (first|rw [c4b0]|(simp only [i64_w,i32_w];rw [c4b0])|skip)
      by_cases c6 : a0_0 > 4096
      · rw [if_pos c6] at H
        have c6b0 : decide (4096 < a0_0) = true:=decide_eq_true c6
        clear c6
        have H':=mkA H
        clear H
        have hcz7_0 : w3.cell? ⟨gb181,0,none⟩ = some (.int .i64 a0_0):=(bkC BK181.out 0).trans rfl
        have hcz7_1 : w3.cell? ⟨gb181,1,none⟩ = some (.slice A0_1 l0_1.length c0_1):=(bkC BK181.out 1).trans rfl
        have hfz7_0:=bkF BK181.out 0
        have hfz7_1:=bkF BK181.out 1
        go_wp2
        go_meet
        case rel=>exact⟨_,(true),(by first|rfl|(simp;done)|(simp [*];done)),H',⟨by first|omega|exact Nat.le_refl _⟩,⟨by(with_reducible repeat first|apply bkN|apply bkD|apply bkA);exact BK181.out⟩,⟨by repeat (with_reducible first|exact HB.out|apply bwA|apply bwN|apply bwD|refine bwS ?_ GE181.out)⟩⟩
      · rw [if_neg c6] at H
        have c6b0 : decide (4096 < a0_0) = false:=decide_eq_false c6
        clear c6
        have H':=mkA H
        clear H
        have hcz8_0 : w3.cell? ⟨gb181,0,none⟩ = some (.int .i64 a0_0):=(bkC BK181.out 0).trans rfl
        have hcz8_1 : w3.cell? ⟨gb181,1,none⟩ = some (.slice A0_1 l0_1.length c0_1):=(bkC BK181.out 1).trans rfl
        have hfz8_0:=bkF BK181.out 0
        have hfz8_1:=bkF BK181.out 1
        go_wp2
        go_meet
        case rel=>exact⟨_,(decide ((l0_1.length : Int) > a0_0)),(by first|rfl|(simp;done)|(simp [*];done)),H',⟨by first|omega|exact Nat.le_refl _⟩,⟨by(with_reducible repeat first|apply bkN|apply bkD|apply bkA);exact BK181.out⟩,⟨by repeat (with_reducible first|exact HB.out|apply bwA|apply bwN|apply bwD|refine bwS ?_ GE181.out)⟩⟩
  case rest =>
    clear HC2
    try clear c1
    try clear p2
    try clear c4
    try clear c4b0
    try clear c6
    try clear c6b0
    try clear hcz5_0
    try clear hcz5_1
    try clear hcz7_0
    try clear hcz7_1
    try clear hcz8_0
    try clear hcz8_1
    try clear hfz5_0
    try clear hfz5_1
    try clear hfz7_0
    try clear hfz7_1
    try clear hfz8_0
    try clear hfz8_1
    obtain ⟨kq,x20_1,rfl,HA,HJ1,BK181,HB⟩:=hcut
    cases kq with
    | zero=>exact absurd HA.out (by simp [undercroftref04_Check.j0])
    | succ kj1 =>
      have H:=HA.out
      clear HA
      simp only [undercroftref04_Check.j0] at H
      by_cases c9 : x20_1 = true
      · subst c9
        have H1 : (some 9) = some r:=by rw [if_pos rfl] at H;exact H
        clear H
        have H:=H1
        clear H1
        obtain rfl:=Option.some.inj H
        go_wp2
        go_ret
        exact⟨by first|rfl|(simp [errW_none,errW_some] <;> rfl)|(simp [*,errW_none,errW_some] <;> rfl),by repeat (with_reducible first|exact HB.out|apply bwA|apply bwN|apply bwD|refine bwS ?_ GE181.out)⟩
      · replace c9:=Bool.eq_false_iff.mpr c9
        subst c9
        have H1 : (undercroftref04_Check.l0 kj1 0 a0_0 l0_1) = some r:=by rw [if_neg (show ¬ (false = true) by decide)] at H;exact H
        clear H
        have H:=H1
        clear H1
        have H':=mkA H
        clear H
        go_wp2
        go_loopg [3] kj1 (fun kq v3 w'=>∃ (x3_2 : Int),v3 = .int .i64 x3_2∧Aside0 (undercroftref04_Check.l0 kq x3_2 a0_0 l0_1 = some r)∧Aside0 (kq ≤ kj1)∧Aside0 (w'.heap[gb181]? = some (.cells #[.int .i64 a0_0,(.slice A0_1 l0_1.length c0_1)] 24 (0,0)))∧Aside0 (Below w.heap.size w w'))
        case atStart=>exact⟨(0),(by first|rfl|(simp;done)|(simp [*];done)),H',⟨Nat.le_refl _⟩,⟨by(with_reducible repeat first|apply bkN|apply bkD|apply bkA);exact BK181.out⟩,⟨by repeat (with_reducible first|exact HB.out|apply bwA|apply bwN|apply bwD|refine bwS ?_ GE181.out)⟩⟩
        case round =>
          clear H'
          try clear c1
          try clear p2
          try clear c4
          try clear c4b0
          try clear c6
          try clear c6b0
          try clear c9
          try clear hcz5_0
          try clear hcz5_1
          try clear hcz7_0
          try clear hcz7_1
          try clear hcz8_0
          try clear hcz8_1
          try clear hfz5_0
          try clear hfz5_1
          try clear hfz7_0
          try clear hfz7_1
          try clear hfz8_0
          try clear hfz8_1
          try clear p2
          obtain ⟨x3_2,rfl,HA,HK2,BK181,HB⟩:=hrel
          cases gk with
          | zero=>exact absurd HA.out (by simp [undercroftref04_Check.l0])
          | succ k2 =>
            have H:=HA.out
            clear HA
            simp only [undercroftref04_Check.l0] at H
            by_cases c10 : x3_2 < (l0_1.length : Int)
            · rw [if_pos c10] at H
              have c10b0 : decide (x3_2 < (l0_1.length : Int)) = true:=decide_eq_true c10
              clear c10
              by_cases c11 : 0 ≤ x3_2
              · rw [if_pos c11] at H
                have c11b0 : decide (0 ≤ x3_2) = true:=decide_eq_true c11
                clear c11
                replace H:=Option.bind_eq_some_iff.mp H
                obtain ⟨t184,A120,H⟩:=H
                replace H : (if t184 = true then((undercroftref04_node.f ((rd_T38 l0_1 x3_2).f1)).bind fun t185=>(if t185 = true then(if(((rd_T38 l0_1 x3_2).f2).length : Int) > 4096 then(some 9) else(undercroftref04_Check.l0 k2 (wrap64 (x3_2 + 1)) a0_0 l0_1)) else(some 9))) else(some 9)) = some r:=H
                have A12:=mkA A120
                clear A120
                by_cases c13 : t184 = true
                · subst c13
                  have H1 : ((undercroftref04_node.f ((rd_T38 l0_1 x3_2).f1)).bind fun t185=>(if t185 = true then(if(((rd_T38 l0_1 x3_2).f2).length : Int) > 4096 then(some 9) else(undercroftref04_Check.l0 k2 (wrap64 (x3_2 + 1)) a0_0 l0_1)) else(some 9))) = some r:=by rw [if_pos rfl] at H;exact H
                  clear H
                  have H:=H1
                  clear H1
                  replace H:=Option.bind_eq_some_iff.mp H
                  obtain ⟨t185,A140,H⟩:=H
                  replace H : (if t185 = true then(if(((rd_T38 l0_1 x3_2).f2).length : Int) > 4096 then(some 9) else(undercroftref04_Check.l0 k2 (wrap64 (x3_2 + 1)) a0_0 l0_1)) else(some 9)) = some r:=H
                  have A14:=mkA A140
                  clear A140
                  by_cases c15 : t185 = true
                  · subst c15
                    have H1 : (if(((rd_T38 l0_1 x3_2).f2).length : Int) > 4096 then(some 9) else(undercroftref04_Check.l0 k2 (wrap64 (x3_2 + 1)) a0_0 l0_1)) = some r:=by rw [if_pos rfl] at H;exact H
                    clear H
                    have H:=H1
                    clear H1
                    by_cases c16 : (((rd_T38 l0_1 x3_2).f2).length : Int) > 4096
                    · rw [if_pos c16] at H
                      have c16b0 : decide (4096 < (((rd_T38 l0_1 x3_2).f2).length : Int)) = true:=decide_eq_true c16
                      have c16b1 : decide (4096 < ((rd_T38 l0_1 x3_2).f2).length) = true:=decide_eq_true (by omega)
                      clear c16
                      obtain rfl:=Option.some.inj H
                      have hcz17_0 : wr.cell? ⟨gb181,0,none⟩ = some (.int .i64 a0_0):=(bkC BK181.out 0).trans rfl
                      have hcz17_1 : wr.cell? ⟨gb181,1,none⟩ = some (.slice A0_1 l0_1.length c0_1):=(bkC BK181.out 1).trans rfl
                      have hfz17_0:=bkF BK181.out 0
                      have hfz17_1:=bkF BK181.out 1
                      have p182 : 0 ≤ (x3_2 : Int):=odt (by first|(with_reducible assumption)|assumption)
                      have q182 : x3_2 < (l0_1.length : Int):=odt (by first|(with_reducible assumption)|assumption)
                      obtain ⟨ad182,A182_2,c182_2,e182,hx182_0,hx182_1,hx182_2,hl182_2,hi182_2⟩:=at_T38 HR0_1.out x3_2 p182 q182
                      cases e182
                      replace hx182_0:=(HB.out.cell (blC w _ hx182_0)).trans hx182_0
                      replace hx182_1:=(HB.out.cell (blC w _ hx182_1)).trans hx182_1
                      replace hx182_2:=(HB.out.cell (blC w _ hx182_2)).trans hx182_2
                      have HR182_2:=mkA hi182_2
                      have HC182_2:=mkA hl182_2
                      clear hi182_2 hl182_2
                      replace p182:=eq_true p182
                      replace q182:=eq_true q182
                      go_wp2_with (first|((with_reducible refine gate_dst (N:=4) rfl ?_);(try (refine gate_guard (by rfl) ?_;dsimp only));refine box_event ?hg (N:=4) ?hd (cs:=#[.int .i64 0,.int .i64 0,.slice none 0 0]) (t:=38) ?hr ?_;(case hd=>rfl);(case hg=>rfl);(case hr=>first|(go_simp;done)|(go_simp;rfl));intro gb183 hg w18 hbox hb;have n0_:=mkA (bkB (g:=gb181) (o:=.cells #[.int .i64 a0_0,.slice (some ad182) l0_1.length c0_1] 24 (0,0)) (by(with_reducible repeat first|apply bkN|apply bkD|apply bkA);exact BK181.out) hb);have n1_:=mkA (below_step (by repeat (with_reducible first|exact HB.out|apply bwA|apply bwN|apply bwD|refine bwS ?_ GE181.out)) hb);have n2_:=mkA (hbox);have n3_:=mkA ((by rw [hg];exact(bwZ (by repeat (with_reducible first|exact HB.out|apply bwA|apply bwN|apply bwD|refine bwS ?_ GE181.out))) : w.heap.size ≤ gb183));have n4_:=mkA ((by rw [hg];exact(bwZ (by repeat (with_reducible first|exact HB.out|apply bwA|apply bwN|apply bwD|refine bwS ?_ GE181.out))) : w.heap.size ≤ gb183));have n5_:=mkA ((by rw [hg];exact Nat.ne_of_lt (blk_lt (g:=gb181) (o:=.cells #[.int .i64 a0_0,.slice (some ad182) l0_1.length c0_1] 24 (0,0)) (by(with_reducible repeat first|apply bkN|apply bkD|apply bkA);exact BK181.out)) : gb181 ≠ gb183));have n6_:=mkA ((by rw [hg];exact Nat.ne_of_gt (blk_lt (g:=gb181) (o:=.cells #[.int .i64 a0_0,.slice (some ad182) l0_1.length c0_1] 24 (0,0)) (by(with_reducible repeat first|apply bkN|apply bkD|apply bkA);exact BK181.out)) : gb183 ≠ gb181));clear BK181;clear HB;have BK181:=n0_;have HB:=n1_;have BK183:=n2_;have GW183:=n3_;have GE183:=n4_;have NB181_183:=n5_;have NB183_181:=n6_;clear n0_ n1_ n2_ n3_ n4_ n5_ n6_;clear hb hbox hg;have hnb19:=NB183_181.out;have hnc19:=NB181_183.out;have hcz20_0 : w18.cell? ⟨gb183,0,none⟩ = some (.int .i64 0):=(bkC BK183.out 0).trans rfl;have hcz20_1 : w18.cell? ⟨gb183,1,none⟩ = some (.int .i64 0):=(bkC BK183.out 1).trans rfl;have hcz20_2 : w18.cell? ⟨gb183,2,none⟩ = some (.slice none 0 0):=(bkC BK183.out 2).trans rfl;have hfz20_0:=bkF BK183.out 0;have hfz20_1:=bkF BK183.out 1;have hfz20_2:=bkF BK183.out 2)|((with_reducible refine gate_callee (f:=28) rfl ?_);refine goesL_ (some 35) rfl rfl Try.func28 (by kernel_rfl) rfl #[.int .i64 ((rd_T38 l0_1 x3_2).f0)] rfl (by(try simp only [List.map_toArray,List.map_cons,List.map_nil]);first|done|rfl) ?_;(with_reducible refine(undercroftref04_node.calls ((rd_T38 l0_1 x3_2).f0) true _ A12.out).mono ?_);rintro e w' ⟨rfl,⟨nd,rfl⟩⟩;refine⟨_,rfl,?_⟩)|(go_at_call 28;(with_reducible refine(undercroftref04_node.calls ((rd_T38 l0_1 x3_2).f1) true _ A14.out).mono ?_);rintro e w' ⟨rfl,⟨nd,rfl⟩⟩))
                      go_ret
                      exact⟨by first|rfl|(simp [errW_none,errW_some] <;> rfl)|(simp [*,errW_none,errW_some] <;> rfl),by repeat (with_reducible first|exact HB.out|apply bwA|apply bwN|apply bwD|refine bwS ?_ GE181.out|refine bwS ?_ GE183.out)⟩
                    · rw [if_neg c16] at H
                      have c16b0 : decide (4096 < (((rd_T38 l0_1 x3_2).f2).length : Int)) = false:=decide_eq_false c16
                      have c16b1 : decide (4096 < ((rd_T38 l0_1 x3_2).f2).length) = false:=decide_eq_false (by omega)
                      clear c16
                      have H':=mkA H
                      clear H
                      have hcz21_0 : wr.cell? ⟨gb181,0,none⟩ = some (.int .i64 a0_0):=(bkC BK181.out 0).trans rfl
                      have hcz21_1 : wr.cell? ⟨gb181,1,none⟩ = some (.slice A0_1 l0_1.length c0_1):=(bkC BK181.out 1).trans rfl
                      have hfz21_0:=bkF BK181.out 0
                      have hfz21_1:=bkF BK181.out 1
                      have p182 : 0 ≤ (x3_2 : Int):=odt (by first|(with_reducible assumption)|assumption)
                      have q182 : x3_2 < (l0_1.length : Int):=odt (by first|(with_reducible assumption)|assumption)
                      obtain ⟨ad182,A182_2,c182_2,e182,hx182_0,hx182_1,hx182_2,hl182_2,hi182_2⟩:=at_T38 HR0_1.out x3_2 p182 q182
                      cases e182
                      replace hx182_0:=(HB.out.cell (blC w _ hx182_0)).trans hx182_0
                      replace hx182_1:=(HB.out.cell (blC w _ hx182_1)).trans hx182_1
                      replace hx182_2:=(HB.out.cell (blC w _ hx182_2)).trans hx182_2
                      have HR182_2:=mkA hi182_2
                      have HC182_2:=mkA hl182_2
                      clear hi182_2 hl182_2
                      replace p182:=eq_true p182
                      replace q182:=eq_true q182
                      go_wp2_with (first|((with_reducible refine gate_dst (N:=4) rfl ?_);(try (refine gate_guard (by rfl) ?_;dsimp only));refine box_event ?hg (N:=4) ?hd (cs:=#[.int .i64 0,.int .i64 0,.slice none 0 0]) (t:=38) ?hr ?_;(case hd=>rfl);(case hg=>rfl);(case hr=>first|(go_simp;done)|(go_simp;rfl));intro gb183 hg w22 hbox hb;have n0_:=mkA (bkB (g:=gb181) (o:=.cells #[.int .i64 a0_0,.slice (some ad182) l0_1.length c0_1] 24 (0,0)) (by(with_reducible repeat first|apply bkN|apply bkD|apply bkA);exact BK181.out) hb);have n1_:=mkA (below_step (by repeat (with_reducible first|exact HB.out|apply bwA|apply bwN|apply bwD|refine bwS ?_ GE181.out)) hb);have n2_:=mkA (hbox);have n3_:=mkA ((by rw [hg];exact(bwZ (by repeat (with_reducible first|exact HB.out|apply bwA|apply bwN|apply bwD|refine bwS ?_ GE181.out))) : w.heap.size ≤ gb183));have n4_:=mkA ((by rw [hg];exact(bwZ (by repeat (with_reducible first|exact HB.out|apply bwA|apply bwN|apply bwD|refine bwS ?_ GE181.out))) : w.heap.size ≤ gb183));have n5_:=mkA ((by rw [hg];exact Nat.ne_of_lt (blk_lt (g:=gb181) (o:=.cells #[.int .i64 a0_0,.slice (some ad182) l0_1.length c0_1] 24 (0,0)) (by(with_reducible repeat first|apply bkN|apply bkD|apply bkA);exact BK181.out)) : gb181 ≠ gb183));have n6_:=mkA ((by rw [hg];exact Nat.ne_of_gt (blk_lt (g:=gb181) (o:=.cells #[.int .i64 a0_0,.slice (some ad182) l0_1.length c0_1] 24 (0,0)) (by(with_reducible repeat first|apply bkN|apply bkD|apply bkA);exact BK181.out)) : gb183 ≠ gb181));clear BK181;clear HB;have BK181:=n0_;have HB:=n1_;have BK183:=n2_;have GW183:=n3_;have GE183:=n4_;have NB181_183:=n5_;have NB183_181:=n6_;clear n0_ n1_ n2_ n3_ n4_ n5_ n6_;clear hb hbox hg;have hnb23:=NB183_181.out;have hnc23:=NB181_183.out;have hcz24_0 : w22.cell? ⟨gb183,0,none⟩ = some (.int .i64 0):=(bkC BK183.out 0).trans rfl;have hcz24_1 : w22.cell? ⟨gb183,1,none⟩ = some (.int .i64 0):=(bkC BK183.out 1).trans rfl;have hcz24_2 : w22.cell? ⟨gb183,2,none⟩ = some (.slice none 0 0):=(bkC BK183.out 2).trans rfl;have hfz24_0:=bkF BK183.out 0;have hfz24_1:=bkF BK183.out 1;have hfz24_2:=bkF BK183.out 2)|((with_reducible refine gate_callee (f:=28) rfl ?_);refine goesL_ (some 35) rfl rfl Try.func28 (by kernel_rfl) rfl #[.int .i64 ((rd_T38 l0_1 x3_2).f0)] rfl (by(try simp only [List.map_toArray,List.map_cons,List.map_nil]);first|done|rfl) ?_;(with_reducible refine(undercroftref04_node.calls ((rd_T38 l0_1 x3_2).f0) true _ A12.out).mono ?_);rintro e w' ⟨rfl,⟨nd,rfl⟩⟩;refine⟨_,rfl,?_⟩)|(go_at_call 28;(with_reducible refine(undercroftref04_node.calls ((rd_T38 l0_1 x3_2).f1) true _ A14.out).mono ?_);rintro e w' ⟨rfl,⟨nd,rfl⟩⟩))
                      go_roundg k2
                      case measure=>have:=HJ1.out;have:=HK2.out;omega
                      case rel=>exact⟨(wrap64 (x3_2 + 1)),(by first|rfl|(simp;done)|(simp [*];done)),H',⟨by have:=HJ1.out;have:=HK2.out;omega⟩,⟨by(with_reducible repeat first|apply bkN|apply bkD|apply bkA);refine blk_far ?_ NB181_183.out _;(with_reducible repeat first|apply bkN|apply bkD|apply bkA);refine blk_far ?_ NB181_183.out _;(with_reducible repeat first|apply bkN|apply bkD|apply bkA);refine blk_far ?_ NB181_183.out _;(with_reducible repeat first|apply bkN|apply bkD|apply bkA);exact BK181.out⟩,⟨by repeat (with_reducible first|exact HB.out|apply bwA|apply bwN|apply bwD|refine bwS ?_ GE181.out|refine bwS ?_ GE183.out)⟩⟩
                  · replace c15:=Bool.eq_false_iff.mpr c15
                    subst c15
                    have H1 : (some 9) = some r:=by rw [if_neg (show ¬ (false = true) by decide)] at H;exact H
                    clear H
                    have H:=H1
                    clear H1
                    obtain rfl:=Option.some.inj H
                    have hcz25_0 : wr.cell? ⟨gb181,0,none⟩ = some (.int .i64 a0_0):=(bkC BK181.out 0).trans rfl
                    have hcz25_1 : wr.cell? ⟨gb181,1,none⟩ = some (.slice A0_1 l0_1.length c0_1):=(bkC BK181.out 1).trans rfl
                    have hfz25_0:=bkF BK181.out 0
                    have hfz25_1:=bkF BK181.out 1
                    have p182 : 0 ≤ (x3_2 : Int):=odt (by first|(with_reducible assumption)|assumption)
                    have q182 : x3_2 < (l0_1.length : Int):=odt (by first|(with_reducible assumption)|assumption)
                    obtain ⟨ad182,A182_2,c182_2,e182,hx182_0,hx182_1,hx182_2,hl182_2,hi182_2⟩:=at_T38 HR0_1.out x3_2 p182 q182
                    cases e182
                    replace hx182_0:=(HB.out.cell (blC w _ hx182_0)).trans hx182_0
                    replace hx182_1:=(HB.out.cell (blC w _ hx182_1)).trans hx182_1
                    replace hx182_2:=(HB.out.cell (blC w _ hx182_2)).trans hx182_2
                    have HR182_2:=mkA hi182_2
                    have HC182_2:=mkA hl182_2
                    clear hi182_2 hl182_2
                    replace p182:=eq_true p182
                    replace q182:=eq_true q182
                    go_wp2_with (first|((with_reducible refine gate_dst (N:=4) rfl ?_);(try (refine gate_guard (by rfl) ?_;dsimp only));refine box_event ?hg (N:=4) ?hd (cs:=#[.int .i64 0,.int .i64 0,.slice none 0 0]) (t:=38) ?hr ?_;(case hd=>rfl);(case hg=>rfl);(case hr=>first|(go_simp;done)|(go_simp;rfl));intro gb183 hg w26 hbox hb;have n0_:=mkA (bkB (g:=gb181) (o:=.cells #[.int .i64 a0_0,.slice (some ad182) l0_1.length c0_1] 24 (0,0)) (by(with_reducible repeat first|apply bkN|apply bkD|apply bkA);exact BK181.out) hb);have n1_:=mkA (below_step (by repeat (with_reducible first|exact HB.out|apply bwA|apply bwN|apply bwD|refine bwS ?_ GE181.out)) hb);have n2_:=mkA (hbox);have n3_:=mkA ((by rw [hg];exact(bwZ (by repeat (with_reducible first|exact HB.out|apply bwA|apply bwN|apply bwD|refine bwS ?_ GE181.out))) : w.heap.size ≤ gb183));have n4_:=mkA ((by rw [hg];exact(bwZ (by repeat (with_reducible first|exact HB.out|apply bwA|apply bwN|apply bwD|refine bwS ?_ GE181.out))) : w.heap.size ≤ gb183));have n5_:=mkA ((by rw [hg];exact Nat.ne_of_lt (blk_lt (g:=gb181) (o:=.cells #[.int .i64 a0_0,.slice (some ad182) l0_1.length c0_1] 24 (0,0)) (by(with_reducible repeat first|apply bkN|apply bkD|apply bkA);exact BK181.out)) : gb181 ≠ gb183));have n6_:=mkA ((by rw [hg];exact Nat.ne_of_gt (blk_lt (g:=gb181) (o:=.cells #[.int .i64 a0_0,.slice (some ad182) l0_1.length c0_1] 24 (0,0)) (by(with_reducible repeat first|apply bkN|apply bkD|apply bkA);exact BK181.out)) : gb183 ≠ gb181));clear BK181;clear HB;have BK181:=n0_;have HB:=n1_;have BK183:=n2_;have GW183:=n3_;have GE183:=n4_;have NB181_183:=n5_;have NB183_181:=n6_;clear n0_ n1_ n2_ n3_ n4_ n5_ n6_;clear hb hbox hg;have hnb27:=NB183_181.out;have hnc27:=NB181_183.out;have hcz28_0 : w26.cell? ⟨gb183,0,none⟩ = some (.int .i64 0):=(bkC BK183.out 0).trans rfl;have hcz28_1 : w26.cell? ⟨gb183,1,none⟩ = some (.int .i64 0):=(bkC BK183.out 1).trans rfl;have hcz28_2 : w26.cell? ⟨gb183,2,none⟩ = some (.slice none 0 0):=(bkC BK183.out 2).trans rfl;have hfz28_0:=bkF BK183.out 0;have hfz28_1:=bkF BK183.out 1;have hfz28_2:=bkF BK183.out 2)|((with_reducible refine gate_callee (f:=28) rfl ?_);refine goesL_ (some 35) rfl rfl Try.func28 (by kernel_rfl) rfl #[.int .i64 ((rd_T38 l0_1 x3_2).f0)] rfl (by(try simp only [List.map_toArray,List.map_cons,List.map_nil]);first|done|rfl) ?_;(with_reducible refine(undercroftref04_node.calls ((rd_T38 l0_1 x3_2).f0) true _ A12.out).mono ?_);rintro e w' ⟨rfl,⟨nd,rfl⟩⟩;refine⟨_,rfl,?_⟩)|(go_at_call 28;(with_reducible refine(undercroftref04_node.calls ((rd_T38 l0_1 x3_2).f1) false _ A14.out).mono ?_);rintro e w' ⟨rfl,⟨nd,rfl⟩⟩))
                    go_ret
                    exact⟨by first|rfl|(simp [errW_none,errW_some] <;> rfl)|(simp [*,errW_none,errW_some] <;> rfl),by repeat (with_reducible first|exact HB.out|apply bwA|apply bwN|apply bwD|refine bwS ?_ GE181.out|refine bwS ?_ GE183.out)⟩
                · replace c13:=Bool.eq_false_iff.mpr c13
                  subst c13
                  have H1 : (some 9) = some r:=by rw [if_neg (show ¬ (false = true) by decide)] at H;exact H
                  clear H
                  have H:=H1
                  clear H1
                  obtain rfl:=Option.some.inj H
                  have hcz29_0 : wr.cell? ⟨gb181,0,none⟩ = some (.int .i64 a0_0):=(bkC BK181.out 0).trans rfl
                  have hcz29_1 : wr.cell? ⟨gb181,1,none⟩ = some (.slice A0_1 l0_1.length c0_1):=(bkC BK181.out 1).trans rfl
                  have hfz29_0:=bkF BK181.out 0
                  have hfz29_1:=bkF BK181.out 1
                  have p182 : 0 ≤ (x3_2 : Int):=odt (by first|(with_reducible assumption)|assumption)
                  have q182 : x3_2 < (l0_1.length : Int):=odt (by first|(with_reducible assumption)|assumption)
                  obtain ⟨ad182,A182_2,c182_2,e182,hx182_0,hx182_1,hx182_2,hl182_2,hi182_2⟩:=at_T38 HR0_1.out x3_2 p182 q182
                  cases e182
                  replace hx182_0:=(HB.out.cell (blC w _ hx182_0)).trans hx182_0
                  replace hx182_1:=(HB.out.cell (blC w _ hx182_1)).trans hx182_1
                  replace hx182_2:=(HB.out.cell (blC w _ hx182_2)).trans hx182_2
                  have HR182_2:=mkA hi182_2
                  have HC182_2:=mkA hl182_2
                  clear hi182_2 hl182_2
                  replace p182:=eq_true p182
                  replace q182:=eq_true q182
                  go_wp2_with (first|((with_reducible refine gate_dst (N:=4) rfl ?_);(try (refine gate_guard (by rfl) ?_;dsimp only));refine box_event ?hg (N:=4) ?hd (cs:=#[.int .i64 0,.int .i64 0,.slice none 0 0]) (t:=38) ?hr ?_;(case hd=>rfl);(case hg=>rfl);(case hr=>first|(go_simp;done)|(go_simp;rfl));intro gb183 hg w30 hbox hb;have n0_:=mkA (bkB (g:=gb181) (o:=.cells #[.int .i64 a0_0,.slice (some ad182) l0_1.length c0_1] 24 (0,0)) (by(with_reducible repeat first|apply bkN|apply bkD|apply bkA);exact BK181.out) hb);have n1_:=mkA (below_step (by repeat (with_reducible first|exact HB.out|apply bwA|apply bwN|apply bwD|refine bwS ?_ GE181.out)) hb);have n2_:=mkA (hbox);have n3_:=mkA ((by rw [hg];exact(bwZ (by repeat (with_reducible first|exact HB.out|apply bwA|apply bwN|apply bwD|refine bwS ?_ GE181.out))) : w.heap.size ≤ gb183));have n4_:=mkA ((by rw [hg];exact(bwZ (by repeat (with_reducible first|exact HB.out|apply bwA|apply bwN|apply bwD|refine bwS ?_ GE181.out))) : w.heap.size ≤ gb183));have n5_:=mkA ((by rw [hg];exact Nat.ne_of_lt (blk_lt (g:=gb181) (o:=.cells #[.int .i64 a0_0,.slice (some ad182) l0_1.length c0_1] 24 (0,0)) (by(with_reducible repeat first|apply bkN|apply bkD|apply bkA);exact BK181.out)) : gb181 ≠ gb183));have n6_:=mkA ((by rw [hg];exact Nat.ne_of_gt (blk_lt (g:=gb181) (o:=.cells #[.int .i64 a0_0,.slice (some ad182) l0_1.length c0_1] 24 (0,0)) (by(with_reducible repeat first|apply bkN|apply bkD|apply bkA);exact BK181.out)) : gb183 ≠ gb181));clear BK181;clear HB;have BK181:=n0_;have HB:=n1_;have BK183:=n2_;have GW183:=n3_;have GE183:=n4_;have NB181_183:=n5_;have NB183_181:=n6_;clear n0_ n1_ n2_ n3_ n4_ n5_ n6_;clear hb hbox hg;have hnb31:=NB183_181.out;have hnc31:=NB181_183.out;have hcz32_0 : w30.cell? ⟨gb183,0,none⟩ = some (.int .i64 0):=(bkC BK183.out 0).trans rfl;have hcz32_1 : w30.cell? ⟨gb183,1,none⟩ = some (.int .i64 0):=(bkC BK183.out 1).trans rfl;have hcz32_2 : w30.cell? ⟨gb183,2,none⟩ = some (.slice none 0 0):=(bkC BK183.out 2).trans rfl;have hfz32_0:=bkF BK183.out 0;have hfz32_1:=bkF BK183.out 1;have hfz32_2:=bkF BK183.out 2)|((with_reducible refine gate_callee (f:=28) rfl ?_);refine goesL_ (some 35) rfl rfl Try.func28 (by kernel_rfl) rfl #[.int .i64 ((rd_T38 l0_1 x3_2).f0)] rfl (by(try simp only [List.map_toArray,List.map_cons,List.map_nil]);first|done|rfl) ?_;(with_reducible refine(undercroftref04_node.calls ((rd_T38 l0_1 x3_2).f0) false _ A12.out).mono ?_);rintro e w' ⟨rfl,⟨nd,rfl⟩⟩;refine⟨_,rfl,?_⟩))
                  go_ret
                  exact⟨by first|rfl|(simp [errW_none,errW_some] <;> rfl)|(simp [*,errW_none,errW_some] <;> rfl),by repeat (with_reducible first|exact HB.out|apply bwA|apply bwN|apply bwD|refine bwS ?_ GE181.out|refine bwS ?_ GE183.out)⟩
              · rw [if_neg c11] at H
                exact absurd H (by simp)
            · rw [if_neg c10] at H
              have c10b0 : decide (x3_2 < (l0_1.length : Int)) = false:=decide_eq_false c10
              clear c10
              obtain rfl:=Option.some.inj H
              have hcz33_0 : wr.cell? ⟨gb181,0,none⟩ = some (.int .i64 a0_0):=(bkC BK181.out 0).trans rfl
              have hcz33_1 : wr.cell? ⟨gb181,1,none⟩ = some (.slice A0_1 l0_1.length c0_1):=(bkC BK181.out 1).trans rfl
              have hfz33_0:=bkF BK181.out 0
              have hfz33_1:=bkF BK181.out 1
              go_wp2
              go_ret
              exact⟨by first|rfl|(simp [errW_none,errW_some] <;> rfl)|(simp [*,errW_none,errW_some] <;> rfl),by repeat (with_reducible first|exact HB.out|apply bwA|apply bwN|apply bwD|refine bwS ?_ GE181.out)⟩

/-! ### undercroftref02_Copied: function 43 -/
def undercroftref02_Copied.f (l0 : List Int) : Option (List Int):=if([] : List Int).length + l0.length < 140737488355328 then(some (([] : List Int) ++ l0)) else(none)
set_option maxHeartbeats 8000000 in
set_option maxRecDepth 100000 in
theorem undercroftref02_Copied.calls (A0 : Option Addr) (c0 : Nat) (l0 : List Int) (r : List Int) (w : World) (hr0 : Kd.C (Kd.int .u8) w A0 l0.length l0) (hc0 : l0.length ≤ c0) (h : undercroftref02_Copied.f l0 = some r) :
    Calls Try.prog 43 #[.slice A0 l0.length c0] w fun e w'=>∃ v0_ : Value,e = .returned (v0_)∧Kd.R (Kd.int .u8) 5 w' w.heap.size (fun _=>True) v0_ r∧Below w.heap.size w w':=by
  have HR0:=mkA hr0
  have HC0:=mkA hc0
  clear hr0 hc0
  have HB:=mkA (Below.refl w.heap.size w)
  have H : (if([] : List Int).length + l0.length < 140737488355328 then(some (([] : List Int) ++ l0)) else(none)) = some r:=h
  clear h
  by_cases c2 : ([] : List Int).length + l0.length < 140737488355328
  · rw [if_pos c2] at H
    have LMc2:=mkA c2
    clear c2
    obtain ⟨y204,hy204⟩ : ∃ y_ : List Int,y_ = (([] : List Int) ++ l0):=⟨_,rfl⟩
    replace H : (some y204) = some r:=by first|(rw [hy204];with_reducible exact H)|(have H2_:=(Option.bind_some _ _).symm.trans H;rw [hy204];with_reducible exact H2_)|(have H2_:=(Option.bind_some _ _).symm.trans H;with_reducible exact H2_)|with_reducible exact H|(rw [hy204];exact H)|exact H
    have Ny204:=mkA hy204
    clear hy204
    obtain rfl:=Option.some.inj H
    go_enter Try.func43,Try.ntmps43
    go_wp2_with (first|((with_reducible refine gate_builtin (b:=.append) (xs:=#[.tmp 4,.tmp 5]) rfl ?_);at_builtin;refine Kd.R_append_rows (Kd.int .u8) (w0:=w) w.heap.size rfl (.tmp 4) (.tmp 5) 36 5 (.int .u8 0) 1 rfl Try.underlying36 info5 rfl (by decide) (by omega) (.slice none 0 0) ([] : List Int) l0 _ _ _ (fun _=>True) (fun _=>False) rfl rfl ?aO ?aR (fun _ _ h=>h) (fun _ h=>h.elim) ?aF ?aB ?aS ?aL ?_;(case aR=>repeat (first|exact HR0.out|(with_reducible refine Kd.C_alloc ?_ _)|(with_reducible refine Kd.C_drewN ?_ _)|(with_reducible refine Kd.C_drew ?_)));(case aB=>exact(by repeat (with_reducible first|exact HB.out|apply bwA|apply bwN|apply bwD)));(case aF=>exact(fun _ _=>trivial));(case aO=>exact((Kd.R_nil _ _ _ _ (fun _=>True))));(case aS=>exact(bwZ (by repeat (with_reducible first|exact HB.out|apply bwA|apply bwN|apply bwD))));(case aL=>have:=LMc2.out;omega);intro v205 w3 ho hb hg hat;rw [← Ny204.out] at ho;have n0_:=mkA (hb);have n1_:=mkA (ho);clear HB;have HB:=n0_;have HO206:=n1_;clear n0_ n1_;clear ho hb hg hat))
    go_ret
    exact⟨_,by first|rfl|(simp [errW_none,errW_some] <;> rfl)|(simp [*,errW_none,errW_some] <;> rfl),by(with_reducible repeat (first|apply Kd.R_alloc|apply Kd.R_drewN|apply Kd.R_drew));exact HO206.out,by repeat (with_reducible first|exact HB.out|apply bwA|apply bwN|apply bwD)⟩
  · rw [if_neg c2] at H
    exact absurd H (by simp)

/-! ### undercroftref04_copied: function 34 -/
def undercroftref04_copied.f (a0_0 : Int) (a0_1 : Int) (l0_2 : List Int) : Option (Int × Int × List Int):=(undercroftref02_Copied.f l0_2).bind fun t209=>(some (a0_0,a0_1,t209))
def undercroftref04_copied.T1 : Bool × List (List Nat × List Nat):=(true,[([],[]),([0],[0]),([],[]),([2],[2]),([],[]),([4],[4]),([5],[5]),([1,3,6],[1,3,6]),([7,6,0,1,2,3,4,5,6,7],[7])])
def undercroftref04_copied.B1 : List Nat:=[0,1,0,4,0,16,48,127,255]
theorem undercroftref04_copied.tab1 : rtab .any (opsOf Try.f34 1) = undercroftref04_copied.T1:=by kernel_rfl
theorem undercroftref04_copied.bits1 : waitsOk undercroftref04_copied.T1.2 undercroftref04_copied.B1 = true:=by kernel_rfl
set_option maxHeartbeats 8000000 in
set_option maxRecDepth 100000 in
theorem undercroftref04_copied.calls (a0_0 : Int) (a0_1 : Int) (A0_2 : Option Addr) (c0_2 : Nat) (l0_2 : List Int) (r1 : Int) (r2 : Int) (r3 : List Int) (w : World) (hr0_2 : Kd.C (Kd.int .u8) w A0_2 l0_2.length l0_2) (hc0_2 : l0_2.length ≤ c0_2) (h : undercroftref04_copied.f a0_0 a0_1 l0_2 = some (r1,r2,r3)) :
    Calls Try.prog 34 #[.agg #[.int .i64 a0_0,.int .i64 a0_1,.slice A0_2 l0_2.length c0_2]] w fun e w'=>∃ v2_ : Value,e = .returned (.agg #[.int .i64 r1,.int .i64 r2,v2_])∧Kd.R (Kd.int .u8) 5 w' w.heap.size (fun _=>True) v2_ r3∧Below w.heap.size w w':=by
  have hu38:=Try.underlying38
  have HR0_2:=mkA hr0_2
  have HC0_2:=mkA hc0_2
  clear hr0_2 hc0_2
  have HB:=mkA (Below.refl w.heap.size w)
  have H : ((undercroftref02_Copied.f l0_2).bind fun t209=>(some (a0_0,a0_1,t209))) = some (r1,r2,r3):=h
  clear h
  replace H:=Option.bind_eq_some_iff.mp H
  obtain ⟨t209,A20,H⟩:=H
  replace H : (some (a0_0,a0_1,t209)) = some (r1,r2,r3):=H
  have A2:=mkA A20
  clear A20
  simp only [Option.some.injEq,Prod.mk.injEq] at H
  obtain ⟨rfl,rfl,rfl⟩:=H
  go_enter Try.func34,Try.ntmps34
  try go_wp2_with (first|((with_reducible refine gate_dst (N:=1) rfl ?_);refine box_event ?hg (N:=1) ?hd (cs:=#[.int .i64 a0_0,.int .i64 a0_1,.slice A0_2 l0_2.length c0_2]) (t:=38) ?hr ?_;(case hd=>rfl);(case hg=>rfl);(case hr=>first|(go_simp;done)|(go_simp;rfl));intro gb207 hg w3 hbox hb;have n0_:=mkA (below_step (by repeat (with_reducible first|exact HB.out|apply bwA|apply bwN|apply bwD)) hb);have n1_:=mkA (hbox);have n2_:=mkA ((by rw [hg];exact(bwZ (by repeat (with_reducible first|exact HB.out|apply bwA|apply bwN|apply bwD))) : w.heap.size ≤ gb207));have n3_:=mkA ((by rw [hg];exact(bwZ (by repeat (with_reducible first|exact HB.out|apply bwA|apply bwN|apply bwD))) : w.heap.size ≤ gb207));clear HB;have HB:=n0_;have BK207:=n1_;have GW207:=n2_;have GE207:=n3_;clear n0_ n1_ n2_ n3_;clear hb hbox hg)|((with_reducible refine gate_dst (N:=2) rfl ?_);refine box_event ?hg (N:=2) ?hd (cs:=#[.int .i64 0,.int .i64 0,.slice none 0 0]) (t:=38) ?hr ?_;(case hd=>rfl);(case hg=>rfl);(case hr=>first|(go_simp;done)|(go_simp;rfl));intro gb208 hg w4 hbox hb;have n0_:=mkA (bkB (g:=gb207) (o:=.cells #[.int .i64 a0_0,.int .i64 a0_1,.slice A0_2 l0_2.length c0_2] 38 (0,0)) (by(with_reducible repeat first|apply bkN|apply bkD|apply bkA);exact BK207.out) hb);have n1_:=mkA (below_step (by repeat (with_reducible first|exact HB.out|apply bwA|apply bwN|apply bwD|refine bwS ?_ GE207.out)) hb);have n2_:=mkA (hbox);have n3_:=mkA ((by rw [hg];exact(bwZ (by repeat (with_reducible first|exact HB.out|apply bwA|apply bwN|apply bwD|refine bwS ?_ GE207.out))) : w.heap.size ≤ gb208));have n4_:=mkA ((by rw [hg];exact(bwZ (by repeat (with_reducible first|exact HB.out|apply bwA|apply bwN|apply bwD|refine bwS ?_ GE207.out))) : w.heap.size ≤ gb208));have n5_:=mkA ((by rw [hg];exact Nat.ne_of_lt (blk_lt (g:=gb207) (o:=.cells #[.int .i64 a0_0,.int .i64 a0_1,.slice A0_2 l0_2.length c0_2] 38 (0,0)) (by(with_reducible repeat first|apply bkN|apply bkD|apply bkA);exact BK207.out)) : gb207 ≠ gb208));have n6_:=mkA ((by rw [hg];exact Nat.ne_of_gt (blk_lt (g:=gb207) (o:=.cells #[.int .i64 a0_0,.int .i64 a0_1,.slice A0_2 l0_2.length c0_2] 38 (0,0)) (by(with_reducible repeat first|apply bkN|apply bkD|apply bkA);exact BK207.out)) : gb208 ≠ gb207));clear BK207;clear HB;have BK207:=n0_;have HB:=n1_;have BK208:=n2_;have GW208:=n3_;have GE208:=n4_;have NB207_208:=n5_;have NB208_207:=n6_;clear n0_ n1_ n2_ n3_ n4_ n5_ n6_;clear hb hbox hg))
  have n0_:=mkA (bkD BK207.out)
  have n1_:=mkA (bkD BK208.out)
  have n2_:=mkA (bwD HB.out)
  clear BK207
  clear BK208
  clear HB
  have BK207:=n0_
  have BK208:=n1_
  have HB:=n2_
  clear n0_ n1_ n2_
  refine start_ (n:=9) (S:=fun w'=>w'.cell? ⟨gb207,0,none⟩ = some (.int .i64 a0_0)∧w'.cell? ⟨gb207,1,none⟩ = some (.int .i64 a0_1)∧w'.cell? ⟨gb207,2,none⟩ = some (.slice A0_2 l0_2.length c0_2)) (ds:=[]) #[false,false,false,false,false,false,false,false,false] (by kernel_rfl) rfl rfl ⟨(bkC BK207.out 0).trans rfl,(bkC BK207.out 1).trans rfl,(bkC BK207.out 2).trans rfl⟩ (fun hHeld=>?_);refine with_tabW undercroftref04_copied.tab1 undercroftref04_copied.bits1 (fun HT_ HW_=>?_)
  generalize w4.drew = w5 at BK207 BK208 HB hHeld ⊢
  refine pure_ (i:=0) (N:=some 3) (v:=?_) (a':=?_) #[true,false,false,false,false,false,false,false,false] rfl rfl (any_of HT_.out (by kernel_rfl)) (fun _ _ _ h=>h) (Or.inl ⟨by rfl,?_⟩) ?_ ?_
  rotate_left
  · intro w'
    go_simp
    with_reducible rfl
  rotate_left
  · simp only [Act.put,lsA,lsZ,lsS,i64_w,i32_w]
    rfl
  refine pure_ (i:=2) (N:=some 5) (v:=?_) (a':=?_) #[true,false,true,false,false,false,false,false,false] rfl rfl (any_of HT_.out (by kernel_rfl)) (fun _ _ _ h=>h) (Or.inl ⟨by rfl,?_⟩) ?_ ?_
  rotate_left
  · intro w'
    go_simp
    with_reducible rfl
  rotate_left
  · simp only [Act.put,lsA,lsZ,lsS,i64_w,i32_w]
    rfl
  refine pure_ (i:=4) (N:=some 7) (v:=?_) (a':=?_) #[true,false,true,false,true,false,false,false,false] rfl rfl (any_of HT_.out (by kernel_rfl)) (fun _ _ _ h=>h) (Or.inl ⟨by rfl,?_⟩) ?_ ?_
  rotate_left
  · intro w'
    go_simp
    with_reducible rfl
  rotate_left
  · simp only [Act.put,lsA,lsZ,lsS,i64_w,i32_w]
    rfl
  refine take_ (i:=1) (N:=some 4) (v:=?_) (a':=?_) #[true,true,true,false,true,false,false,false,false] rfl rfl (take_ofW HT_.out HW_.out (by kernel_rfl)) (fun _ _ _ h=>h) (Or.inl ⟨by rfl,?_⟩) hHeld ?_ ?_
  rotate_left
  · rintro w' ⟨s0,s1,s2⟩
    go_simp
    with_reducible rfl
  rotate_left
  · simp only [Act.put,lsA,lsZ,lsS,i64_w,i32_w]
    rfl
  refine take_ (i:=3) (N:=some 6) (v:=?_) (a':=?_) #[true,true,true,true,true,false,false,false,false] rfl rfl (take_ofW HT_.out HW_.out (by kernel_rfl)) (fun _ _ _ h=>h) (Or.inl ⟨by rfl,?_⟩) hHeld ?_ ?_
  rotate_left
  · rintro w' ⟨s0,s1,s2⟩
    go_simp
    with_reducible rfl
  rotate_left
  · simp only [Act.put,lsA,lsZ,lsS,i64_w,i32_w]
    rfl
  refine take_ (i:=5) (N:=some 8) (v:=?_) (a':=?_) #[true,true,true,true,true,true,false,false,false] rfl rfl (take_ofW HT_.out HW_.out (by kernel_rfl)) (fun _ _ _ h=>h) (Or.inl ⟨by rfl,?_⟩) hHeld ?_ ?_
  rotate_left
  · rintro w' ⟨s0,s1,s2⟩
    go_simp
    with_reducible rfl
  rotate_left
  · simp only [Act.put,lsA,lsZ,lsS,i64_w,i32_w]
    rfl
  refine one_ (i:=6) (N:=some 9) #[true,true,true,true,true,true,true,false,false] rfl rfl (one_of HT_.out (by kernel_rfl)) (by decide) (fun K hK=>?_)
  refine goes_ Try.func43 (by kernel_rfl) rfl #[.slice A0_2 l0_2.length c0_2] (by rfl) rfl rfl (by(try simp only [List.map_toArray,List.map_cons,List.map_nil]);first|done|rfl) ?_
  with_reducible refine(undercroftref02_Copied.calls _ _ l0_2 t209 _ ?side1 ?side2 A2.out).mono ?_
  (case side1=>repeat (first|exact(Kd.C_below HR0_2.out HB.out)|(with_reducible refine Kd.C_alloc ?_ _)|(with_reducible refine Kd.C_drewN ?_ _)|(with_reducible refine Kd.C_drew ?_)))
  (case side2=>exact HC0_2.out)
  rintro e w6 ⟨v210,rfl,ho0,hb⟩
  refine⟨_,rfl,?_⟩
  have n0_:=mkA (Kd.R_lower ho0 (bwZ (by repeat (with_reducible first|exact HB.out|apply bwA|apply bwN|apply bwD|refine bwS ?_ GE207.out|refine bwS ?_ GE208.out))))
  have n1_:=mkA (bkB (g:=gb207) (o:=.cells #[.int .i64 a0_0,.int .i64 a0_1,.slice A0_2 l0_2.length c0_2] 38 (0,0)) (by(with_reducible repeat first|apply bkN|apply bkD|apply bkA);exact BK207.out) hb)
  have n2_:=mkA (bkB (g:=gb208) (o:=.cells #[.int .i64 0,.int .i64 0,.slice none 0 0] 38 (0,0)) (by(with_reducible repeat first|apply bkN|apply bkD|apply bkA);exact BK208.out) hb)
  have n3_:=mkA (below_step (by repeat (with_reducible first|exact HB.out|apply bwA|apply bwN|apply bwD|refine bwS ?_ GE207.out|refine bwS ?_ GE208.out)) hb)
  clear BK207
  clear BK208
  clear HB
  have HO211:=n0_
  have BK207:=n1_
  have BK208:=n2_
  have HB:=n3_
  clear n0_ n1_ n2_ n3_
  (try clear hb)
  (try clear hb2)
  (try clear hk)
  (try clear hi)
  (try clear ho0)
  obtain ⟨Ao7,co7,eo7⟩:=Kd.R_slice HO211.out
  (first|subst eo7|(injection eo7 with f1_ f2_ f3_;have f4_:=f1_.symm;have f5_:=f3_.symm;clear f1_ f2_ f3_;subst f4_;subst f5_))
  refine hK.out _ _ ⟨(bkC BK207.out 0).trans rfl,(bkC BK207.out 1).trans rfl,(bkC BK207.out 2).trans rfl⟩ (fun hHeld=>?_)
  clear hK K
  refine norm_ (a':=?_) ?_ ?_
  rotate_left
  · show Act.put _ (some 9) _ = _
    simp only [Act.put,lsA,lsZ,lsS,i64_w,i32_w]
    rfl
  refine pure_ (i:=7) (N:=some 10) (v:=?_) (a':=?_) #[true,true,true,true,true,true,true,true,false] rfl rfl (any_of HT_.out (by kernel_rfl)) (fun _ _ _ h=>h) (Or.inl ⟨by rfl,?_⟩) ?_ ?_
  rotate_left
  · intro w'
    go_simp
    with_reducible rfl
  rotate_left
  · simp only [Act.put,lsA,lsZ,lsS,i64_w,i32_w]
    rfl
  refine one_ (i:=8) (N:=none) #[true,true,true,true,true,true,true,true,true] rfl rfl (one_of HT_.out (by kernel_rfl)) (by decide) (fun K hK=>?_)
  have hs8 : w6.cell? ⟨gb208,0,none⟩ = some (.int .i64 0):=(bkC BK208.out 0).trans rfl
  have hfs8:=bkF BK208.out 0
  have hns8_0:=NB207_208.out
  have hms8_0:=NB208_207.out
  have hs9 : w6.cell? ⟨gb208,1,none⟩ = some (.int .i64 0):=(bkC BK208.out 1).trans rfl
  have hfs9:=bkF BK208.out 1
  have hns9_0:=NB207_208.out
  have hms9_0:=NB208_207.out
  have hs10 : w6.cell? ⟨gb208,2,none⟩ = some (.slice none 0 0):=(bkC BK208.out 2).trans rfl
  have hfs10:=bkF BK208.out 2
  have hns10_0:=NB207_208.out
  have hms10_0:=NB208_207.out
  refine skip_ (w1:=?_) (by rfl) rfl ?_ ?_
  rotate_left
  · go_simp
    rfl
  refine hK.out _ _ ⟨((cell_far (p:=⟨gb208,_,none⟩) NB207_208.out _).trans (((cell_far (p:=⟨gb208,_,none⟩) NB207_208.out _).trans (((cell_far (p:=⟨gb208,_,none⟩) NB207_208.out _).trans (hHeld.1)))))),((cell_far (p:=⟨gb208,_,none⟩) NB207_208.out _).trans (((cell_far (p:=⟨gb208,_,none⟩) NB207_208.out _).trans (((cell_far (p:=⟨gb208,_,none⟩) NB207_208.out _).trans (hHeld.2.1)))))),((cell_far (p:=⟨gb208,_,none⟩) NB207_208.out _).trans (((cell_far (p:=⟨gb208,_,none⟩) NB207_208.out _).trans (((cell_far (p:=⟨gb208,_,none⟩) NB207_208.out _).trans (hHeld.2.2))))))⟩ (fun hHeld=>?_)
  clear hK K
  refine done_ (done_of HT_.out (by kernel_rfl)) ?_
  try go_wp2
  refine bodyPost_ret (results_cell_row rfl _ _ gb208 38 #[.int .i64 a0_0,.int .i64 a0_1,.slice Ao7 t209.length co7] (0,0) _ rfl (by(with_reducible repeat first|apply bkN|apply bkD|apply bkA);refine blk_put (cs:=#[.int .i64 a0_0,.int .i64 a0_1,.slice none 0 0]) ?_ 2 _ rfl;(with_reducible repeat first|apply bkN|apply bkD|apply bkA);refine blk_put (cs:=#[.int .i64 a0_0,.int .i64 0,.slice none 0 0]) ?_ 1 _ rfl;(with_reducible repeat first|apply bkN|apply bkD|apply bkA);refine blk_put (cs:=#[.int .i64 0,.int .i64 0,.slice none 0 0]) ?_ 0 _ rfl;(with_reducible repeat first|apply bkN|apply bkD|apply bkA);exact BK208.out) Try.underlying38 rfl (by kernel_rfl)) rfl ?_
  exact⟨_,by first|rfl|(simp [errW_none,errW_some] <;> rfl)|(simp [*,errW_none,errW_some] <;> rfl),by(with_reducible repeat (first|apply Kd.R_alloc|apply Kd.R_drewN|apply Kd.R_drew));exact Kd.R_mono (Kd.R_far (p:=⟨gb208,2,none⟩) (Kd.R_far (p:=⟨gb208,1,none⟩) (Kd.R_far (p:=⟨gb208,0,none⟩) (Kd.R_types HO211.out BK208.out (by decide)) (fun _ hk=>hk.2) (.int .i64 a0_0)) (fun _ hk=>hk.2) (.int .i64 a0_1)) (fun _ hk=>hk.2) (.slice Ao7 t209.length co7)) (fun _ hk=>trivial),by repeat (with_reducible first|exact HB.out|apply bwA|apply bwN|apply bwD|refine bwS ?_ GE207.out|refine bwS ?_ GE208.out)⟩
end Go.Proofs.Ytgglmibbbjallaa.T
