/- NetOwn: the whole walk. -/
import Derived.Test.YtgglmibbbjallaaNc
namespace Go.Proofs.Ytgglmibbbjallaa.T
open Go.RowKit Go.Proofs.YtgglmibbbjallaaW.PrintWords Go.Proofs.YtgglmibbbjallaaW.PrintLast Go.Proofs.YtgglmibbbjallaaW.PrintMore
attribute [local go_sem] max2_int min2_int max_two min_two max_three min_three max_four min_four   -- for this text's walks alone
set_option linter.unusedVariables false
set_option linter.unusedSimpArgs false
def NetOwn.T1 : Bool × List (List Nat × List Nat):=(true,[([],[]),([0],[0]),([],[]),([2,1],[2]),([],[]),([],[]),([4,1,3,0,1,4,5],[1,4]),([5,3,6,0,1,2,3,4,5,6],[3,5])])
def NetOwn.B1 : List Nat:=[0,1,0,7,0,0,63,127]
theorem NetOwn.tab1 : rtab .any (opsOf Try.f4 3) = NetOwn.T1:=by kernel_rfl
theorem NetOwn.bits1 : waitsOk NetOwn.T1.2 NetOwn.B1 = true:=by kernel_rfl
set_option maxHeartbeats 16000000 in
set_option maxRecDepth 100000 in
theorem NetOwn.calls (k : Nat) (a0_0 : Int) (A0_1 : Option Addr) (c0_1 : Nat) (l0_1 : List S38) (a1_0 a1_1 : Int) (A1_2 : Option Addr) (c1_2 : Nat) (l1_2 : List Int) (a2 : Int) (lx : List S40) (sa : Int) (sl : List S40) (sm : List S38) (sb : Bool) (se : Int) (ta : Int) (tl : List S40) (tm : List S38) (t0 t1 : Int) (td : List Int) (te : Int) (w : World) (hr0_1 : Kd.C k38 w A0_1 l0_1.length l0_1) (hc0_1 : l0_1.length ≤ c0_1) (hr1_2 : Kd.C (Kd.int .u8) w A1_2 l1_2.length l1_2) (hc1_2 : l1_2.length ≤ c1_2)
    (g11 : undercroftlaw04_alive.f k = some true) (A50 : undercroftlaw04_Of.f k a0_0 l0_1 = some (a0_0,lx)) (A60 : undercroftlaw04_one.f a1_0 a1_1 l1_2 = some (a1_0,a1_1,l1_2)) (h1 : net_Send.f k a0_0 lx a1_0 a1_1 l1_2 = some (sa,sl,sb,se)) (h2 : undercroftref04_Send.f k a0_0 l0_1 a1_0 a1_1 l1_2 = some (sa,sm,sb,se)) (h3 : net_Take.f a0_0 lx a2 = some (ta,tl,t0,t1,td,te)) (h4 : undercroftref04_Take.f k a0_0 l0_1 a2 = some (ta,tm,t0,t1,td,te)) (g1 : undercroftlaw04_same.f k sa sl sa sm = some true) (g2 : undercroftlaw04_same.f k ta tl ta tm = some true) (g3 : undercroftlaw04_samePacket.f k t0 t1 td t0 t1 td = some true) :
    Calls Try.prog 4 #[.agg #[.int .i64 a0_0,.slice A0_1 l0_1.length c0_1],.agg #[.int .i64 a1_0,.int .i64 a1_1,.slice A1_2 l1_2.length c1_2],.int .i64 a2] w fun e w'=>e = .returned (.bool true)∧Below w.heap.size w w':=by
  have hu24:=Try.underlying24
  have hu38:=Try.underlying38
  have hu32:=Try.underlying32
  have hu40:=Try.underlying40
  have HR0_1:=mkA hr0_1
  have HC0_1:=mkA hc0_1
  have HR1_2:=mkA hr1_2
  have HC1_2:=mkA hc1_2
  have A5:=mkA A50
  have A6:=mkA A60
  have HB:=mkA (Below.refl w.heap.size w)
  clear hr0_1 hc0_1 hr1_2 hc1_2 A50 A60
  replace h1:=mkA h1
  replace h2:=mkA h2
  replace h3:=mkA h3
  replace h4:=mkA h4
  replace g1:=mkA g1
  replace g2:=mkA g2
  replace g3:=mkA g3
  replace g11:=mkA g11
  go_enter Try.func4,Try.ntmps4
  try go_wp2_with (first|((with_reducible refine gate_dst (N:=3) rfl ?_);refine box_event ?hg (N:=3) ?hd (cs:=#[.int .i64 a0_0,.slice A0_1 l0_1.length c0_1]) (t:=24) ?hr ?_;(case hd=>rfl);(case hg=>rfl);(case hr=>first|(go_simp;done)|(go_simp;rfl));intro gb459 hg w50 hbox hb;have n0_:=mkA (below_step (by repeat (with_reducible first|exact HB.out|apply bwA|apply bwN|apply bwD)) hb);have n1_:=mkA (hbox);have n2_:=mkA ((by rw [hg];exact(bwZ (by repeat (with_reducible first|exact HB.out|apply bwA|apply bwN|apply bwD))) : w.heap.size ≤ gb459));have n3_:=mkA ((by rw [hg];exact(bwZ (by repeat (with_reducible first|exact HB.out|apply bwA|apply bwN|apply bwD))) : w.heap.size ≤ gb459));clear HB;have HB:=n0_;have BK459:=n1_;have GW459:=n2_;have GE459:=n3_;clear n0_ n1_ n2_ n3_;clear hb hbox hg)|((with_reducible refine gate_dst (N:=4) rfl ?_);refine box_event ?hg (N:=4) ?hd (cs:=#[.int .i64 a1_0,.int .i64 a1_1,.slice A1_2 l1_2.length c1_2]) (t:=38) ?hr ?_;(case hd=>rfl);(case hg=>rfl);(case hr=>first|(go_simp;done)|(go_simp;rfl));intro gb460 hg w51 hbox hb;have n0_:=mkA (bkB (g:=gb459) (o:=.cells #[.int .i64 a0_0,.slice A0_1 l0_1.length c0_1] 24 (0,0)) (by(with_reducible repeat first|apply bkN|apply bkD|apply bkA);exact BK459.out) hb);have n1_:=mkA (below_step (by repeat (with_reducible first|exact HB.out|apply bwA|apply bwN|apply bwD|refine bwS ?_ GE459.out)) hb);have n2_:=mkA (hbox);have n3_:=mkA ((by rw [hg];exact(bwZ (by repeat (with_reducible first|exact HB.out|apply bwA|apply bwN|apply bwD|refine bwS ?_ GE459.out))) : w.heap.size ≤ gb460));have n4_:=mkA ((by rw [hg];exact(bwZ (by repeat (with_reducible first|exact HB.out|apply bwA|apply bwN|apply bwD|refine bwS ?_ GE459.out))) : w.heap.size ≤ gb460));have n5_:=mkA ((by rw [hg];exact Nat.ne_of_lt (blk_lt (g:=gb459) (o:=.cells #[.int .i64 a0_0,.slice A0_1 l0_1.length c0_1] 24 (0,0)) (by(with_reducible repeat first|apply bkN|apply bkD|apply bkA);exact BK459.out)) : gb459 ≠ gb460));have n6_:=mkA ((by rw [hg];exact Nat.ne_of_gt (blk_lt (g:=gb459) (o:=.cells #[.int .i64 a0_0,.slice A0_1 l0_1.length c0_1] 24 (0,0)) (by(with_reducible repeat first|apply bkN|apply bkD|apply bkA);exact BK459.out)) : gb460 ≠ gb459));clear BK459;clear HB;have BK459:=n0_;have HB:=n1_;have BK460:=n2_;have GW460:=n3_;have GE460:=n4_;have NB459_460:=n5_;have NB460_459:=n6_;clear n0_ n1_ n2_ n3_ n4_ n5_ n6_;clear hb hbox hg)|(go_at_call 7;refine(undercroftlaw04_alive.calls k true _ g11.out).mono ?_;rintro e w51b ⟨rfl,hb⟩;replace BK459:=mkA (bkB BK459.out hb);replace BK460:=mkA (bkB BK460.out hb);replace HB:=mkA (below_step HB.out hb);clear hb))
  have n0_:=mkA (bkD BK459.out)
  have n1_:=mkA (bkD BK460.out)
  have n2_:=mkA (bwD HB.out)
  clear BK459
  clear BK460
  clear HB
  have BK459:=n0_
  have BK460:=n1_
  have HB:=n2_
  clear n0_ n1_ n2_
  refine start_ (n:=8) (S:=fun w'=>w'.cell? ⟨gb459,0,none⟩ = some (.int .i64 a0_0)∧w'.cell? ⟨gb459,1,none⟩ = some (.slice A0_1 l0_1.length c0_1)∧w'.cell? ⟨gb460,0,none⟩ = some (.int .i64 a1_0)∧w'.cell? ⟨gb460,1,none⟩ = some (.int .i64 a1_1)∧w'.cell? ⟨gb460,2,none⟩ = some (.slice A1_2 l1_2.length c1_2)) (ds:=[]) #[false,false,false,false,false,false,false,false] (by kernel_rfl) rfl rfl ⟨(bkC BK459.out 0).trans rfl,(bkC BK459.out 1).trans rfl,(bkC BK460.out 0).trans rfl,(bkC BK460.out 1).trans rfl,(bkC BK460.out 2).trans rfl⟩ (fun hHeld=>?_);refine with_tabW NetOwn.tab1 NetOwn.bits1 (fun HT_ HW_=>?_)
  generalize w51b.drew = w52 at BK459 BK460 HB hHeld ⊢
  refine take_ (i:=0) (N:=some 24) (v:=?_) (a':=?_) #[true,false,false,false,false,false,false,false] rfl rfl (take_ofW HT_.out HW_.out (by kernel_rfl)) (fun _ _ _ h=>h) (Or.inl ⟨by rfl,?_⟩) hHeld ?_ ?_
  rotate_left
  · rintro w' ⟨s0,s1,s2,s3,s4⟩
    go_simp
    with_reducible rfl
  rotate_left
  · simp only [Act.put,lsA,lsZ,lsS,i64_w,i32_w]
    rfl
  refine take_ (i:=2) (N:=some 26) (v:=?_) (a':=?_) #[true,false,true,false,false,false,false,false] rfl rfl (take_ofW HT_.out HW_.out (by kernel_rfl)) (fun _ _ _ h=>h) (Or.inl ⟨by rfl,?_⟩) hHeld ?_ ?_
  rotate_left
  · rintro w' ⟨s0,s1,s2,s3,s4⟩
    go_simp
    with_reducible rfl
  rotate_left
  · simp only [Act.put,lsA,lsZ,lsS,i64_w,i32_w]
    rfl
  refine join_ (σ:=Value × Value × Nat × Nat) 2 #[true,true,true,true,true,true,false,false] (fun s_=>[(25,.agg #[.int .i64 a0_0,s_.1]),(27,.agg #[.int .i64 a1_0,.int .i64 a1_1,s_.2.1]),(7,.pointer (some ⟨s_.2.2.1,0,none⟩)),(8,.pointer (some ⟨s_.2.2.2,0,none⟩))]) (fun s_ w'=>(w'.cell? ⟨gb459,0,none⟩ = some (.int .i64 a0_0)∧w'.cell? ⟨gb459,1,none⟩ = some (.slice A0_1 l0_1.length c0_1)∧w'.cell? ⟨gb460,0,none⟩ = some (.int .i64 a1_0)∧w'.cell? ⟨gb460,1,none⟩ = some (.int .i64 a1_1)∧w'.cell? ⟨gb460,2,none⟩ = some (.slice A1_2 l1_2.length c1_2))∧(Kd.S k40 40 w' w.heap.size (fun k_=>some k_ ≠ (s_.2.1 : Value).ownBlock∧k_ ≠ s_.2.2.2) s_.1 lx)∧(Kd.R (Kd.int .u8) 5 w' w.heap.size (fun _=>True) s_.2.1 l1_2)∧(w'.heap[gb459]? = some (.cells #[.int .i64 a0_0,.slice A0_1 l0_1.length c0_1] 24 (0,0)))∧(w'.heap[gb460]? = some (.cells #[.int .i64 a1_0,.int .i64 a1_1,.slice A1_2 l1_2.length c1_2] 38 (0,0)))∧(w'.heap[s_.2.2.1]? = some (.cells #[.int .i64 0,.slice none 0 0] 32 (0,0)))∧(w'.heap[s_.2.2.2]? = some (.cells #[.int .i64 0,.int .i64 0,.slice none 0 0] 40 (0,0)))∧(w.heap.size ≤ s_.2.2.1)∧(w.heap.size ≤ s_.2.2.1)∧(gb459 ≠ s_.2.2.1)∧(s_.2.2.1 ≠ gb459)∧(gb460 ≠ s_.2.2.1)∧(s_.2.2.1 ≠ gb460)∧(s_.2.2.2 ≠ s_.2.2.1)∧(s_.2.2.1 ≠ s_.2.2.2)∧(w.heap.size ≤ s_.2.2.2)∧(w.heap.size ≤ s_.2.2.2)∧(gb459 ≠ s_.2.2.2)∧(s_.2.2.2 ≠ gb459)∧(gb460 ≠ s_.2.2.2)∧(s_.2.2.2 ≠ gb460)∧(Below w.heap.size w w')) ?_ ?_
  rotate_left
  · intro hJ1_3_4_5
    refine join_ (σ:=Value × Value × Nat) 3 #[true,true,true,true,true,false,false,false] (fun s_=>[(25,.agg #[.int .i64 a0_0,s_.1]),(27,.agg #[.int .i64 a1_0,.int .i64 a1_1,s_.2.1]),(7,.pointer (some ⟨s_.2.2,0,none⟩))]) (fun s_ w'=>(w'.cell? ⟨gb459,0,none⟩ = some (.int .i64 a0_0)∧w'.cell? ⟨gb459,1,none⟩ = some (.slice A0_1 l0_1.length c0_1)∧w'.cell? ⟨gb460,0,none⟩ = some (.int .i64 a1_0)∧w'.cell? ⟨gb460,1,none⟩ = some (.int .i64 a1_1)∧w'.cell? ⟨gb460,2,none⟩ = some (.slice A1_2 l1_2.length c1_2))∧(Kd.S k40 40 w' w.heap.size (fun k_=>some k_ ≠ (s_.2.1 : Value).ownBlock) s_.1 lx)∧(Kd.R (Kd.int .u8) 5 w' w.heap.size (fun _=>True) s_.2.1 l1_2)∧(w'.heap[gb459]? = some (.cells #[.int .i64 a0_0,.slice A0_1 l0_1.length c0_1] 24 (0,0)))∧(w'.heap[gb460]? = some (.cells #[.int .i64 a1_0,.int .i64 a1_1,.slice A1_2 l1_2.length c1_2] 38 (0,0)))∧(w'.heap[s_.2.2]? = some (.cells #[.int .i64 0,.slice none 0 0] 32 (0,0)))∧(w.heap.size ≤ s_.2.2)∧(w.heap.size ≤ s_.2.2)∧(gb459 ≠ s_.2.2)∧(s_.2.2 ≠ gb459)∧(gb460 ≠ s_.2.2)∧(s_.2.2 ≠ gb460)∧(Below w.heap.size w w')) ?_ ?_
    rotate_left
    · intro hJ1_3_4
      refine join_ (σ:=Value × Value × Nat) 3 #[true,true,true,true,false,true,false,false] (fun s_=>[(25,.agg #[.int .i64 a0_0,s_.1]),(27,.agg #[.int .i64 a1_0,.int .i64 a1_1,s_.2.1]),(8,.pointer (some ⟨s_.2.2,0,none⟩))]) (fun s_ w'=>(w'.cell? ⟨gb459,0,none⟩ = some (.int .i64 a0_0)∧w'.cell? ⟨gb459,1,none⟩ = some (.slice A0_1 l0_1.length c0_1)∧w'.cell? ⟨gb460,0,none⟩ = some (.int .i64 a1_0)∧w'.cell? ⟨gb460,1,none⟩ = some (.int .i64 a1_1)∧w'.cell? ⟨gb460,2,none⟩ = some (.slice A1_2 l1_2.length c1_2))∧(Kd.S k40 40 w' w.heap.size (fun k_=>some k_ ≠ (s_.2.1 : Value).ownBlock∧k_ ≠ s_.2.2) s_.1 lx)∧(Kd.R (Kd.int .u8) 5 w' w.heap.size (fun _=>True) s_.2.1 l1_2)∧(w'.heap[gb459]? = some (.cells #[.int .i64 a0_0,.slice A0_1 l0_1.length c0_1] 24 (0,0)))∧(w'.heap[gb460]? = some (.cells #[.int .i64 a1_0,.int .i64 a1_1,.slice A1_2 l1_2.length c1_2] 38 (0,0)))∧(w'.heap[s_.2.2]? = some (.cells #[.int .i64 0,.int .i64 0,.slice none 0 0] 40 (0,0)))∧(w.heap.size ≤ s_.2.2)∧(w.heap.size ≤ s_.2.2)∧(gb459 ≠ s_.2.2)∧(s_.2.2 ≠ gb459)∧(gb460 ≠ s_.2.2)∧(s_.2.2 ≠ gb460)∧(Below w.heap.size w w')) ?_ ?_
      rotate_left
      · intro hJ1_3_5
        refine join_ (σ:=Value × Nat × Nat) 3 #[true,true,true,false,true,true,false,false] (fun s_=>[(25,.agg #[.int .i64 a0_0,s_.1]),(7,.pointer (some ⟨s_.2.1,0,none⟩)),(8,.pointer (some ⟨s_.2.2,0,none⟩))]) (fun s_ w'=>(w'.cell? ⟨gb459,0,none⟩ = some (.int .i64 a0_0)∧w'.cell? ⟨gb459,1,none⟩ = some (.slice A0_1 l0_1.length c0_1)∧w'.cell? ⟨gb460,0,none⟩ = some (.int .i64 a1_0)∧w'.cell? ⟨gb460,1,none⟩ = some (.int .i64 a1_1)∧w'.cell? ⟨gb460,2,none⟩ = some (.slice A1_2 l1_2.length c1_2))∧(Kd.S k40 40 w' w.heap.size (fun k_=>k_ ≠ s_.2.2) s_.1 lx)∧(w'.heap[gb459]? = some (.cells #[.int .i64 a0_0,.slice A0_1 l0_1.length c0_1] 24 (0,0)))∧(w'.heap[gb460]? = some (.cells #[.int .i64 a1_0,.int .i64 a1_1,.slice A1_2 l1_2.length c1_2] 38 (0,0)))∧(w'.heap[s_.2.1]? = some (.cells #[.int .i64 0,.slice none 0 0] 32 (0,0)))∧(w'.heap[s_.2.2]? = some (.cells #[.int .i64 0,.int .i64 0,.slice none 0 0] 40 (0,0)))∧(w.heap.size ≤ s_.2.1)∧(w.heap.size ≤ s_.2.1)∧(gb459 ≠ s_.2.1)∧(s_.2.1 ≠ gb459)∧(gb460 ≠ s_.2.1)∧(s_.2.1 ≠ gb460)∧(s_.2.2 ≠ s_.2.1)∧(s_.2.1 ≠ s_.2.2)∧(w.heap.size ≤ s_.2.2)∧(w.heap.size ≤ s_.2.2)∧(gb459 ≠ s_.2.2)∧(s_.2.2 ≠ gb459)∧(gb460 ≠ s_.2.2)∧(s_.2.2 ≠ gb460)∧(Below w.heap.size w w')) ?_ ?_
        rotate_left
        · intro hJ1_4_5
          refine join_ (σ:=Value × Value) 4 #[true,true,true,true,false,false,false,false] (fun s_=>[(25,.agg #[.int .i64 a0_0,s_.1]),(27,.agg #[.int .i64 a1_0,.int .i64 a1_1,s_.2])]) (fun s_ w'=>(w'.cell? ⟨gb459,0,none⟩ = some (.int .i64 a0_0)∧w'.cell? ⟨gb459,1,none⟩ = some (.slice A0_1 l0_1.length c0_1)∧w'.cell? ⟨gb460,0,none⟩ = some (.int .i64 a1_0)∧w'.cell? ⟨gb460,1,none⟩ = some (.int .i64 a1_1)∧w'.cell? ⟨gb460,2,none⟩ = some (.slice A1_2 l1_2.length c1_2))∧(Kd.S k40 40 w' w.heap.size (fun k_=>some k_ ≠ (s_.2 : Value).ownBlock) s_.1 lx)∧(Kd.R (Kd.int .u8) 5 w' w.heap.size (fun _=>True) s_.2 l1_2)∧(w'.heap[gb459]? = some (.cells #[.int .i64 a0_0,.slice A0_1 l0_1.length c0_1] 24 (0,0)))∧(w'.heap[gb460]? = some (.cells #[.int .i64 a1_0,.int .i64 a1_1,.slice A1_2 l1_2.length c1_2] 38 (0,0)))∧(Below w.heap.size w w')) ?_ ?_
          rotate_left
          · intro hJ1_3
            refine join_ (σ:=Value × Nat) 4 #[true,true,true,false,true,false,false,false] (fun s_=>[(25,.agg #[.int .i64 a0_0,s_.1]),(7,.pointer (some ⟨s_.2,0,none⟩))]) (fun s_ w'=>(w'.cell? ⟨gb459,0,none⟩ = some (.int .i64 a0_0)∧w'.cell? ⟨gb459,1,none⟩ = some (.slice A0_1 l0_1.length c0_1)∧w'.cell? ⟨gb460,0,none⟩ = some (.int .i64 a1_0)∧w'.cell? ⟨gb460,1,none⟩ = some (.int .i64 a1_1)∧w'.cell? ⟨gb460,2,none⟩ = some (.slice A1_2 l1_2.length c1_2))∧(Kd.S k40 40 w' w.heap.size (fun _=>True) s_.1 lx)∧(w'.heap[gb459]? = some (.cells #[.int .i64 a0_0,.slice A0_1 l0_1.length c0_1] 24 (0,0)))∧(w'.heap[gb460]? = some (.cells #[.int .i64 a1_0,.int .i64 a1_1,.slice A1_2 l1_2.length c1_2] 38 (0,0)))∧(w'.heap[s_.2]? = some (.cells #[.int .i64 0,.slice none 0 0] 32 (0,0)))∧(w.heap.size ≤ s_.2)∧(w.heap.size ≤ s_.2)∧(gb459 ≠ s_.2)∧(s_.2 ≠ gb459)∧(gb460 ≠ s_.2)∧(s_.2 ≠ gb460)∧(Below w.heap.size w w')) ?_ ?_
            rotate_left
            · intro hJ1_4
              refine join_ (σ:=Value × Nat) 4 #[true,true,true,false,false,true,false,false] (fun s_=>[(25,.agg #[.int .i64 a0_0,s_.1]),(8,.pointer (some ⟨s_.2,0,none⟩))]) (fun s_ w'=>(w'.cell? ⟨gb459,0,none⟩ = some (.int .i64 a0_0)∧w'.cell? ⟨gb459,1,none⟩ = some (.slice A0_1 l0_1.length c0_1)∧w'.cell? ⟨gb460,0,none⟩ = some (.int .i64 a1_0)∧w'.cell? ⟨gb460,1,none⟩ = some (.int .i64 a1_1)∧w'.cell? ⟨gb460,2,none⟩ = some (.slice A1_2 l1_2.length c1_2))∧(Kd.S k40 40 w' w.heap.size (fun k_=>k_ ≠ s_.2) s_.1 lx)∧(w'.heap[gb459]? = some (.cells #[.int .i64 a0_0,.slice A0_1 l0_1.length c0_1] 24 (0,0)))∧(w'.heap[gb460]? = some (.cells #[.int .i64 a1_0,.int .i64 a1_1,.slice A1_2 l1_2.length c1_2] 38 (0,0)))∧(w'.heap[s_.2]? = some (.cells #[.int .i64 0,.int .i64 0,.slice none 0 0] 40 (0,0)))∧(w.heap.size ≤ s_.2)∧(w.heap.size ≤ s_.2)∧(gb459 ≠ s_.2)∧(s_.2 ≠ gb459)∧(gb460 ≠ s_.2)∧(s_.2 ≠ gb460)∧(Below w.heap.size w w')) ?_ ?_
              rotate_left
              · intro hJ1_5
                refine join_ (σ:=Nat × Nat) 4 #[true,false,true,false,true,true,false,false] (fun s_=>[(7,.pointer (some ⟨s_.1,0,none⟩)),(8,.pointer (some ⟨s_.2,0,none⟩))]) (fun s_ w'=>(w'.cell? ⟨gb459,0,none⟩ = some (.int .i64 a0_0)∧w'.cell? ⟨gb459,1,none⟩ = some (.slice A0_1 l0_1.length c0_1)∧w'.cell? ⟨gb460,0,none⟩ = some (.int .i64 a1_0)∧w'.cell? ⟨gb460,1,none⟩ = some (.int .i64 a1_1)∧w'.cell? ⟨gb460,2,none⟩ = some (.slice A1_2 l1_2.length c1_2))∧(w'.heap[gb459]? = some (.cells #[.int .i64 a0_0,.slice A0_1 l0_1.length c0_1] 24 (0,0)))∧(w'.heap[gb460]? = some (.cells #[.int .i64 a1_0,.int .i64 a1_1,.slice A1_2 l1_2.length c1_2] 38 (0,0)))∧(w'.heap[s_.1]? = some (.cells #[.int .i64 0,.slice none 0 0] 32 (0,0)))∧(w'.heap[s_.2]? = some (.cells #[.int .i64 0,.int .i64 0,.slice none 0 0] 40 (0,0)))∧(w.heap.size ≤ s_.1)∧(w.heap.size ≤ s_.1)∧(gb459 ≠ s_.1)∧(s_.1 ≠ gb459)∧(gb460 ≠ s_.1)∧(s_.1 ≠ gb460)∧(s_.2 ≠ s_.1)∧(s_.1 ≠ s_.2)∧(w.heap.size ≤ s_.2)∧(w.heap.size ≤ s_.2)∧(gb459 ≠ s_.2)∧(s_.2 ≠ gb459)∧(gb460 ≠ s_.2)∧(s_.2 ≠ gb460)∧(Below w.heap.size w w')) ?_ ?_
                rotate_left
                · intro hJ4_5
                  refine join_ (σ:=Value) 5 #[true,true,true,false,false,false,false,false] (fun s_=>[(25,.agg #[.int .i64 a0_0,s_])]) (fun s_ w'=>(w'.cell? ⟨gb459,0,none⟩ = some (.int .i64 a0_0)∧w'.cell? ⟨gb459,1,none⟩ = some (.slice A0_1 l0_1.length c0_1)∧w'.cell? ⟨gb460,0,none⟩ = some (.int .i64 a1_0)∧w'.cell? ⟨gb460,1,none⟩ = some (.int .i64 a1_1)∧w'.cell? ⟨gb460,2,none⟩ = some (.slice A1_2 l1_2.length c1_2))∧(Kd.S k40 40 w' w.heap.size (fun _=>True) s_ lx)∧(w'.heap[gb459]? = some (.cells #[.int .i64 a0_0,.slice A0_1 l0_1.length c0_1] 24 (0,0)))∧(w'.heap[gb460]? = some (.cells #[.int .i64 a1_0,.int .i64 a1_1,.slice A1_2 l1_2.length c1_2] 38 (0,0)))∧(Below w.heap.size w w')) ?_ ?_
                  rotate_left
                  · intro hJ1
                    refine join_ (σ:=Nat) 5 #[true,false,true,false,true,false,false,false] (fun s_=>[(7,.pointer (some ⟨s_,0,none⟩))]) (fun s_ w'=>(w'.cell? ⟨gb459,0,none⟩ = some (.int .i64 a0_0)∧w'.cell? ⟨gb459,1,none⟩ = some (.slice A0_1 l0_1.length c0_1)∧w'.cell? ⟨gb460,0,none⟩ = some (.int .i64 a1_0)∧w'.cell? ⟨gb460,1,none⟩ = some (.int .i64 a1_1)∧w'.cell? ⟨gb460,2,none⟩ = some (.slice A1_2 l1_2.length c1_2))∧(w'.heap[gb459]? = some (.cells #[.int .i64 a0_0,.slice A0_1 l0_1.length c0_1] 24 (0,0)))∧(w'.heap[gb460]? = some (.cells #[.int .i64 a1_0,.int .i64 a1_1,.slice A1_2 l1_2.length c1_2] 38 (0,0)))∧(w'.heap[s_]? = some (.cells #[.int .i64 0,.slice none 0 0] 32 (0,0)))∧(w.heap.size ≤ s_)∧(w.heap.size ≤ s_)∧(gb459 ≠ s_)∧(s_ ≠ gb459)∧(gb460 ≠ s_)∧(s_ ≠ gb460)∧(Below w.heap.size w w')) ?_ ?_
                    rotate_left
                    · intro hJ4
                      refine join_ (σ:=Nat) 5 #[true,false,true,false,false,true,false,false] (fun s_=>[(8,.pointer (some ⟨s_,0,none⟩))]) (fun s_ w'=>(w'.cell? ⟨gb459,0,none⟩ = some (.int .i64 a0_0)∧w'.cell? ⟨gb459,1,none⟩ = some (.slice A0_1 l0_1.length c0_1)∧w'.cell? ⟨gb460,0,none⟩ = some (.int .i64 a1_0)∧w'.cell? ⟨gb460,1,none⟩ = some (.int .i64 a1_1)∧w'.cell? ⟨gb460,2,none⟩ = some (.slice A1_2 l1_2.length c1_2))∧(w'.heap[gb459]? = some (.cells #[.int .i64 a0_0,.slice A0_1 l0_1.length c0_1] 24 (0,0)))∧(w'.heap[gb460]? = some (.cells #[.int .i64 a1_0,.int .i64 a1_1,.slice A1_2 l1_2.length c1_2] 38 (0,0)))∧(w'.heap[s_]? = some (.cells #[.int .i64 0,.int .i64 0,.slice none 0 0] 40 (0,0)))∧(w.heap.size ≤ s_)∧(w.heap.size ≤ s_)∧(gb459 ≠ s_)∧(s_ ≠ gb459)∧(gb460 ≠ s_)∧(s_ ≠ gb460)∧(Below w.heap.size w w')) ?_ ?_
                      rotate_left
                      · intro hJ5
                        refine three_ (i:=1) (j:=4) (k:=5) (Ni:=some 25) (Nj:=some 7) (Nk:=some 8) #[true,true,true,false,false,false,false,false] #[true,false,true,false,true,false,false,false] #[true,false,true,false,false,true,false,false] rfl rfl rfl rfl rfl rfl (three_of HT_.out (by kernel_rfl)) (by decide) (by decide) (by decide) (fun K hK=>?_) (fun K hK=>?_) (fun K hK=>?_)
                        · skip
                          refine goes_ Try.func9 (by kernel_rfl) rfl #[.agg #[.int .i64 a0_0,.slice A0_1 l0_1.length c0_1]] (by rfl) rfl rfl (by(try simp only [List.map_toArray,List.map_cons,List.map_nil]);first|done|rfl) ?_
                          with_reducible refine(undercroftlaw04_Of.calls k a0_0 _ _ l0_1 a0_0 lx _ ?side1 ?side2 A5.out).mono ?_
                          (case side1=>repeat (first|exact(Kd.C_below HR0_1.out HB.out)|(with_reducible refine Kd.C_alloc ?_ _)|(with_reducible refine Kd.C_drewN ?_ _)|(with_reducible refine Kd.C_drew ?_)))
                          (case side2=>exact HC0_1.out)
                          rintro e w53 ⟨v463,rfl,ho0,hb⟩
                          refine⟨_,rfl,?_⟩
                          have n0_:=mkA (Kd.S_lower ho0 (bwZ (by repeat (with_reducible first|exact HB.out|apply bwA|apply bwN|apply bwD|refine bwS ?_ GE459.out|refine bwS ?_ GE460.out))))
                          have n1_:=mkA (bkB (g:=gb459) (o:=.cells #[.int .i64 a0_0,.slice A0_1 l0_1.length c0_1] 24 (0,0)) (by(with_reducible repeat first|apply bkN|apply bkD|apply bkA);exact BK459.out) hb)
                          have n2_:=mkA (bkB (g:=gb460) (o:=.cells #[.int .i64 a1_0,.int .i64 a1_1,.slice A1_2 l1_2.length c1_2] 38 (0,0)) (by(with_reducible repeat first|apply bkN|apply bkD|apply bkA);exact BK460.out) hb)
                          have n3_:=mkA (below_step (by repeat (with_reducible first|exact HB.out|apply bwA|apply bwN|apply bwD|refine bwS ?_ GE459.out|refine bwS ?_ GE460.out)) hb)
                          clear BK459
                          clear BK460
                          clear HB
                          have HO464:=n0_
                          have BK459:=n1_
                          have BK460:=n2_
                          have HB:=n3_
                          clear n0_ n1_ n2_ n3_
                          (try clear hb)
                          (try clear hb2)
                          (try clear hk)
                          (try clear hi)
                          (try clear ho0)
                          refine hK.out _ _ ⟨(bkC BK459.out 0).trans rfl,(bkC BK459.out 1).trans rfl,(bkC BK460.out 0).trans rfl,(bkC BK460.out 1).trans rfl,(bkC BK460.out 2).trans rfl⟩ (fun hHeld=>?_)
                          clear hK K
                          refine norm_ (a':=?_) ?_ ?_
                          rotate_left
                          · show Act.put _ (some 25) _ = _
                            simp only [Act.put,lsA,lsZ,lsS,i64_w,i32_w]
                            rfl
                          exact norm_ (by first|(simp only [putAll,Act.put,lsA,lsZ,lsS];done)|(simp only [putAll,Act.put,lsA,lsZ,lsS];rfl)) (hJ1 (v463) _ ⟨hHeld,(by(with_reducible repeat (first|apply Kd.S_alloc|apply Kd.S_drewN|apply Kd.S_drew));exact HO464.out),(by(with_reducible repeat first|apply bkN|apply bkD|apply bkA);exact BK459.out),(by(with_reducible repeat first|apply bkN|apply bkD|apply bkA);exact BK460.out),(by repeat (with_reducible first|exact HB.out|apply bwA|apply bwN|apply bwD|refine bwS ?_ GE459.out|refine bwS ?_ GE460.out))⟩)
                        · skip
                          refine box_step ?hg (N:=7) ?hd (cs:=#[.int .i64 0,.slice none 0 0]) (t:=32) ?hr ?_;(case hd=>rfl);(case hg=>rfl);(case hr=>first|(go_simp;done)|(go_simp;rfl))
                          intro gb470 hg w53 hbox hb
                          have n0_:=mkA (bkB (g:=gb459) (o:=.cells #[.int .i64 a0_0,.slice A0_1 l0_1.length c0_1] 24 (0,0)) (by(with_reducible repeat first|apply bkN|apply bkD|apply bkA);exact BK459.out) hb)
                          have n1_:=mkA (bkB (g:=gb460) (o:=.cells #[.int .i64 a1_0,.int .i64 a1_1,.slice A1_2 l1_2.length c1_2] 38 (0,0)) (by(with_reducible repeat first|apply bkN|apply bkD|apply bkA);exact BK460.out) hb)
                          have n2_:=mkA (below_step (by repeat (with_reducible first|exact HB.out|apply bwA|apply bwN|apply bwD|refine bwS ?_ GE459.out|refine bwS ?_ GE460.out)) hb)
                          have n3_:=mkA (hbox)
                          have n4_:=mkA ((by rw [hg];exact(bwZ (by repeat (with_reducible first|exact HB.out|apply bwA|apply bwN|apply bwD|refine bwS ?_ GE459.out|refine bwS ?_ GE460.out))) : w.heap.size ≤ gb470))
                          have n5_:=mkA ((by rw [hg];exact(bwZ (by repeat (with_reducible first|exact HB.out|apply bwA|apply bwN|apply bwD|refine bwS ?_ GE459.out|refine bwS ?_ GE460.out))) : w.heap.size ≤ gb470))
                          have n6_:=mkA ((by rw [hg];exact Nat.ne_of_lt (blk_lt (g:=gb459) (o:=.cells #[.int .i64 a0_0,.slice A0_1 l0_1.length c0_1] 24 (0,0)) (by(with_reducible repeat first|apply bkN|apply bkD|apply bkA);exact BK459.out)) : gb459 ≠ gb470))
                          have n7_:=mkA ((by rw [hg];exact Nat.ne_of_gt (blk_lt (g:=gb459) (o:=.cells #[.int .i64 a0_0,.slice A0_1 l0_1.length c0_1] 24 (0,0)) (by(with_reducible repeat first|apply bkN|apply bkD|apply bkA);exact BK459.out)) : gb470 ≠ gb459))
                          have n8_:=mkA ((by rw [hg];exact Nat.ne_of_lt (blk_lt (g:=gb460) (o:=.cells #[.int .i64 a1_0,.int .i64 a1_1,.slice A1_2 l1_2.length c1_2] 38 (0,0)) (by(with_reducible repeat first|apply bkN|apply bkD|apply bkA);exact BK460.out)) : gb460 ≠ gb470))
                          have n9_:=mkA ((by rw [hg];exact Nat.ne_of_gt (blk_lt (g:=gb460) (o:=.cells #[.int .i64 a1_0,.int .i64 a1_1,.slice A1_2 l1_2.length c1_2] 38 (0,0)) (by(with_reducible repeat first|apply bkN|apply bkD|apply bkA);exact BK460.out)) : gb470 ≠ gb460))
                          clear BK459
                          clear BK460
                          clear HB
                          have BK459:=n0_
                          have BK460:=n1_
                          have HB:=n2_
                          have BK470:=n3_
                          have GW470:=n4_
                          have GE470:=n5_
                          have NB459_470:=n6_
                          have NB470_459:=n7_
                          have NB460_470:=n8_
                          have NB470_460:=n9_
                          clear n0_ n1_ n2_ n3_ n4_ n5_ n6_ n7_ n8_ n9_
                          clear hb hbox hg
                          refine hK.out _ _ ⟨(bkC BK459.out 0).trans rfl,(bkC BK459.out 1).trans rfl,(bkC BK460.out 0).trans rfl,(bkC BK460.out 1).trans rfl,(bkC BK460.out 2).trans rfl⟩ (fun hHeld=>?_)
                          clear hK K
                          refine norm_ (a':=?_) ?_ ?_
                          rotate_left
                          · show Act.put _ (some 7) _ = _
                            simp only [Act.put,lsA,lsZ,lsS,i64_w,i32_w]
                            rfl
                          exact norm_ (by first|(simp only [putAll,Act.put,lsA,lsZ,lsS];done)|(simp only [putAll,Act.put,lsA,lsZ,lsS];rfl)) (hJ4 (gb470) _ ⟨hHeld,(by(with_reducible repeat first|apply bkN|apply bkD|apply bkA);exact BK459.out),(by(with_reducible repeat first|apply bkN|apply bkD|apply bkA);exact BK460.out),(by(with_reducible repeat first|apply bkN|apply bkD|apply bkA);exact BK470.out),GW470.out,GE470.out,NB459_470.out,NB470_459.out,NB460_470.out,NB470_460.out,(by repeat (with_reducible first|exact HB.out|apply bwA|apply bwN|apply bwD|refine bwS ?_ GE459.out|refine bwS ?_ GE460.out|refine bwS ?_ GE470.out))⟩)
                        · skip
                          refine box_step ?hg (N:=8) ?hd (cs:=#[.int .i64 0,.int .i64 0,.slice none 0 0]) (t:=40) ?hr ?_;(case hd=>rfl);(case hg=>rfl);(case hr=>first|(go_simp;done)|(go_simp;rfl))
                          intro gb471 hg w53 hbox hb
                          have n0_:=mkA (bkB (g:=gb459) (o:=.cells #[.int .i64 a0_0,.slice A0_1 l0_1.length c0_1] 24 (0,0)) (by(with_reducible repeat first|apply bkN|apply bkD|apply bkA);exact BK459.out) hb)
                          have n1_:=mkA (bkB (g:=gb460) (o:=.cells #[.int .i64 a1_0,.int .i64 a1_1,.slice A1_2 l1_2.length c1_2] 38 (0,0)) (by(with_reducible repeat first|apply bkN|apply bkD|apply bkA);exact BK460.out) hb)
                          have n2_:=mkA (below_step (by repeat (with_reducible first|exact HB.out|apply bwA|apply bwN|apply bwD|refine bwS ?_ GE459.out|refine bwS ?_ GE460.out)) hb)
                          have n3_:=mkA (hbox)
                          have n4_:=mkA ((by rw [hg];exact(bwZ (by repeat (with_reducible first|exact HB.out|apply bwA|apply bwN|apply bwD|refine bwS ?_ GE459.out|refine bwS ?_ GE460.out))) : w.heap.size ≤ gb471))
                          have n5_:=mkA ((by rw [hg];exact(bwZ (by repeat (with_reducible first|exact HB.out|apply bwA|apply bwN|apply bwD|refine bwS ?_ GE459.out|refine bwS ?_ GE460.out))) : w.heap.size ≤ gb471))
                          have n6_:=mkA ((by rw [hg];exact Nat.ne_of_lt (blk_lt (g:=gb459) (o:=.cells #[.int .i64 a0_0,.slice A0_1 l0_1.length c0_1] 24 (0,0)) (by(with_reducible repeat first|apply bkN|apply bkD|apply bkA);exact BK459.out)) : gb459 ≠ gb471))
                          have n7_:=mkA ((by rw [hg];exact Nat.ne_of_gt (blk_lt (g:=gb459) (o:=.cells #[.int .i64 a0_0,.slice A0_1 l0_1.length c0_1] 24 (0,0)) (by(with_reducible repeat first|apply bkN|apply bkD|apply bkA);exact BK459.out)) : gb471 ≠ gb459))
                          have n8_:=mkA ((by rw [hg];exact Nat.ne_of_lt (blk_lt (g:=gb460) (o:=.cells #[.int .i64 a1_0,.int .i64 a1_1,.slice A1_2 l1_2.length c1_2] 38 (0,0)) (by(with_reducible repeat first|apply bkN|apply bkD|apply bkA);exact BK460.out)) : gb460 ≠ gb471))
                          have n9_:=mkA ((by rw [hg];exact Nat.ne_of_gt (blk_lt (g:=gb460) (o:=.cells #[.int .i64 a1_0,.int .i64 a1_1,.slice A1_2 l1_2.length c1_2] 38 (0,0)) (by(with_reducible repeat first|apply bkN|apply bkD|apply bkA);exact BK460.out)) : gb471 ≠ gb460))
                          clear BK459
                          clear BK460
                          clear HB
                          have BK459:=n0_
                          have BK460:=n1_
                          have HB:=n2_
                          have BK471:=n3_
                          have GW471:=n4_
                          have GE471:=n5_
                          have NB459_471:=n6_
                          have NB471_459:=n7_
                          have NB460_471:=n8_
                          have NB471_460:=n9_
                          clear n0_ n1_ n2_ n3_ n4_ n5_ n6_ n7_ n8_ n9_
                          clear hb hbox hg
                          refine hK.out _ _ ⟨(bkC BK459.out 0).trans rfl,(bkC BK459.out 1).trans rfl,(bkC BK460.out 0).trans rfl,(bkC BK460.out 1).trans rfl,(bkC BK460.out 2).trans rfl⟩ (fun hHeld=>?_)
                          clear hK K
                          refine norm_ (a':=?_) ?_ ?_
                          rotate_left
                          · show Act.put _ (some 8) _ = _
                            simp only [Act.put,lsA,lsZ,lsS,i64_w,i32_w]
                            rfl
                          exact norm_ (by first|(simp only [putAll,Act.put,lsA,lsZ,lsS];done)|(simp only [putAll,Act.put,lsA,lsZ,lsS];rfl)) (hJ5 (gb471) _ ⟨hHeld,(by(with_reducible repeat first|apply bkN|apply bkD|apply bkA);exact BK459.out),(by(with_reducible repeat first|apply bkN|apply bkD|apply bkA);exact BK460.out),(by(with_reducible repeat first|apply bkN|apply bkD|apply bkA);exact BK471.out),GW471.out,GE471.out,NB459_471.out,NB471_459.out,NB460_471.out,NB471_460.out,(by repeat (with_reducible first|exact HB.out|apply bwA|apply bwN|apply bwD|refine bwS ?_ GE459.out|refine bwS ?_ GE460.out|refine bwS ?_ GE471.out))⟩)
                      · skip
                        rintro gb471 w54 ⟨hS_,h0_,h1_,h2_,h3_,h4_,h5_,h6_,h7_,h8_,h9_⟩
                        have n0_ : Aside0 (w54.heap[gb459]? = some (.cells #[.int .i64 a0_0,.slice A0_1 l0_1.length c0_1] 24 (0,0))):=⟨h0_⟩
                        have n1_ : Aside0 (w54.heap[gb460]? = some (.cells #[.int .i64 a1_0,.int .i64 a1_1,.slice A1_2 l1_2.length c1_2] 38 (0,0))):=⟨h1_⟩
                        have n2_ : Aside0 (w54.heap[gb471]? = some (.cells #[.int .i64 0,.int .i64 0,.slice none 0 0] 40 (0,0))):=⟨h2_⟩
                        have n3_ : Aside0 (w.heap.size ≤ gb471):=⟨h3_⟩
                        have n4_ : Aside0 (w.heap.size ≤ gb471):=⟨h4_⟩
                        have n5_ : Aside0 (gb459 ≠ gb471):=⟨h5_⟩
                        have n6_ : Aside0 (gb471 ≠ gb459):=⟨h6_⟩
                        have n7_ : Aside0 (gb460 ≠ gb471):=⟨h7_⟩
                        have n8_ : Aside0 (gb471 ≠ gb460):=⟨h8_⟩
                        have n9_ : Aside0 (Below w.heap.size w w54):=⟨h9_⟩
                        clear BK459
                        clear BK460
                        clear HB
                        clear h0_ h1_ h2_ h3_ h4_ h5_ h6_ h7_ h8_ h9_
                        have BK459:=n0_
                        have BK460:=n1_
                        have BK471:=n2_
                        have GW471:=n3_
                        have GE471:=n4_
                        have NB459_471:=n5_
                        have NB471_459:=n6_
                        have NB460_471:=n7_
                        have NB471_460:=n8_
                        have HB:=n9_
                        clear n0_ n1_ n2_ n3_ n4_ n5_ n6_ n7_ n8_ n9_
                        have hHeld : w54.cell? ⟨gb459,0,none⟩ = some (.int .i64 a0_0)∧w54.cell? ⟨gb459,1,none⟩ = some (.slice A0_1 l0_1.length c0_1)∧w54.cell? ⟨gb460,0,none⟩ = some (.int .i64 a1_0)∧w54.cell? ⟨gb460,1,none⟩ = some (.int .i64 a1_1)∧w54.cell? ⟨gb460,2,none⟩ = some (.slice A1_2 l1_2.length c1_2):=hS_
                        refine norm_ (a':=?_) ?_ ?_
                        rotate_left
                        · simp only [putAll,Act.put,lsA,lsZ,lsS]
                          rfl
                        refine two_ (i:=1) (j:=4) (Ni:=some 25) (Nj:=some 7) #[true,true,true,false,false,true,false,false] #[true,false,true,false,true,true,false,false] rfl rfl rfl rfl (two_of HT_.out (by kernel_rfl)) (by decide) (by decide) (fun K hK=>?_) (fun K hK=>?_)
                        · skip
                          refine goes_ Try.func9 (by kernel_rfl) rfl #[.agg #[.int .i64 a0_0,.slice A0_1 l0_1.length c0_1]] (by rfl) rfl rfl (by(try simp only [List.map_toArray,List.map_cons,List.map_nil]);first|done|rfl) ?_
                          with_reducible refine(undercroftlaw04_Of.calls k a0_0 _ _ l0_1 a0_0 lx _ ?side1 ?side2 A5.out).mono ?_
                          (case side1=>repeat (first|exact(Kd.C_below HR0_1.out HB.out)|(with_reducible refine Kd.C_alloc ?_ _)|(with_reducible refine Kd.C_drewN ?_ _)|(with_reducible refine Kd.C_drew ?_)))
                          (case side2=>exact HC0_1.out)
                          rintro e w55 ⟨v463,rfl,ho0,hb⟩
                          refine⟨_,rfl,?_⟩
                          have n0_:=mkA (Kd.S_lower (Kd.S_newB ho0 (g:=gb471) (o:=.cells #[.int .i64 0,.int .i64 0,.slice none 0 0] 40 (0,0)) (by(with_reducible repeat first|apply bkN|apply bkD|apply bkA);exact BK471.out)) (bwZ (by repeat (with_reducible first|exact HB.out|apply bwA|apply bwN|apply bwD|refine bwS ?_ GE459.out|refine bwS ?_ GE460.out|refine bwS ?_ GE471.out))))
                          have n1_:=mkA (bkB (g:=gb459) (o:=.cells #[.int .i64 a0_0,.slice A0_1 l0_1.length c0_1] 24 (0,0)) (by(with_reducible repeat first|apply bkN|apply bkD|apply bkA);exact BK459.out) hb)
                          have n2_:=mkA (bkB (g:=gb460) (o:=.cells #[.int .i64 a1_0,.int .i64 a1_1,.slice A1_2 l1_2.length c1_2] 38 (0,0)) (by(with_reducible repeat first|apply bkN|apply bkD|apply bkA);exact BK460.out) hb)
                          have n3_:=mkA (bkB (g:=gb471) (o:=.cells #[.int .i64 0,.int .i64 0,.slice none 0 0] 40 (0,0)) (by(with_reducible repeat first|apply bkN|apply bkD|apply bkA);exact BK471.out) hb)
                          have n4_:=mkA (below_step (by repeat (with_reducible first|exact HB.out|apply bwA|apply bwN|apply bwD|refine bwS ?_ GE459.out|refine bwS ?_ GE460.out|refine bwS ?_ GE471.out)) hb)
                          clear BK459
                          clear BK460
                          clear BK471
                          clear HB
                          have HO464:=n0_
                          have BK459:=n1_
                          have BK460:=n2_
                          have BK471:=n3_
                          have HB:=n4_
                          clear n0_ n1_ n2_ n3_ n4_
                          (try clear hb)
                          (try clear hb2)
                          (try clear hk)
                          (try clear hi)
                          (try clear ho0)
                          refine hK.out _ _ ⟨(bkC BK459.out 0).trans rfl,(bkC BK459.out 1).trans rfl,(bkC BK460.out 0).trans rfl,(bkC BK460.out 1).trans rfl,(bkC BK460.out 2).trans rfl⟩ (fun hHeld=>?_)
                          clear hK K
                          refine norm_ (a':=?_) ?_ ?_
                          rotate_left
                          · show Act.put _ (some 25) _ = _
                            simp only [Act.put,lsA,lsZ,lsS,i64_w,i32_w]
                            rfl
                          exact norm_ (by first|(simp only [putAll,Act.put,lsA,lsZ,lsS];done)|(simp only [putAll,Act.put,lsA,lsZ,lsS];rfl)) (hJ1_5 (v463,gb471) _ ⟨hHeld,(by(with_reducible repeat (first|apply Kd.S_alloc|apply Kd.S_drewN|apply Kd.S_drew));exact Kd.S_mono HO464.out (fun _ hk=>hk.2)),(by(with_reducible repeat first|apply bkN|apply bkD|apply bkA);exact BK459.out),(by(with_reducible repeat first|apply bkN|apply bkD|apply bkA);exact BK460.out),(by(with_reducible repeat first|apply bkN|apply bkD|apply bkA);exact BK471.out),GW471.out,GE471.out,NB459_471.out,NB471_459.out,NB460_471.out,NB471_460.out,(by repeat (with_reducible first|exact HB.out|apply bwA|apply bwN|apply bwD|refine bwS ?_ GE459.out|refine bwS ?_ GE460.out|refine bwS ?_ GE471.out))⟩)
                        · skip
                          refine box_step ?hg (N:=7) ?hd (cs:=#[.int .i64 0,.slice none 0 0]) (t:=32) ?hr ?_;(case hd=>rfl);(case hg=>rfl);(case hr=>first|(go_simp;done)|(go_simp;rfl))
                          intro gb470 hg w55 hbox hb
                          have n0_:=mkA (bkB (g:=gb459) (o:=.cells #[.int .i64 a0_0,.slice A0_1 l0_1.length c0_1] 24 (0,0)) (by(with_reducible repeat first|apply bkN|apply bkD|apply bkA);exact BK459.out) hb)
                          have n1_:=mkA (bkB (g:=gb460) (o:=.cells #[.int .i64 a1_0,.int .i64 a1_1,.slice A1_2 l1_2.length c1_2] 38 (0,0)) (by(with_reducible repeat first|apply bkN|apply bkD|apply bkA);exact BK460.out) hb)
                          have n2_:=mkA (bkB (g:=gb471) (o:=.cells #[.int .i64 0,.int .i64 0,.slice none 0 0] 40 (0,0)) (by(with_reducible repeat first|apply bkN|apply bkD|apply bkA);exact BK471.out) hb)
                          have n3_:=mkA (below_step (by repeat (with_reducible first|exact HB.out|apply bwA|apply bwN|apply bwD|refine bwS ?_ GE459.out|refine bwS ?_ GE460.out|refine bwS ?_ GE471.out)) hb)
                          have n4_:=mkA (hbox)
                          have n5_:=mkA ((by rw [hg];exact(bwZ (by repeat (with_reducible first|exact HB.out|apply bwA|apply bwN|apply bwD|refine bwS ?_ GE459.out|refine bwS ?_ GE460.out|refine bwS ?_ GE471.out))) : w.heap.size ≤ gb470))
                          have n6_:=mkA ((by rw [hg];exact(bwZ (by repeat (with_reducible first|exact HB.out|apply bwA|apply bwN|apply bwD|refine bwS ?_ GE459.out|refine bwS ?_ GE460.out|refine bwS ?_ GE471.out))) : w.heap.size ≤ gb470))
                          have n7_:=mkA ((by rw [hg];exact Nat.ne_of_lt (blk_lt (g:=gb459) (o:=.cells #[.int .i64 a0_0,.slice A0_1 l0_1.length c0_1] 24 (0,0)) (by(with_reducible repeat first|apply bkN|apply bkD|apply bkA);exact BK459.out)) : gb459 ≠ gb470))
                          have n8_:=mkA ((by rw [hg];exact Nat.ne_of_gt (blk_lt (g:=gb459) (o:=.cells #[.int .i64 a0_0,.slice A0_1 l0_1.length c0_1] 24 (0,0)) (by(with_reducible repeat first|apply bkN|apply bkD|apply bkA);exact BK459.out)) : gb470 ≠ gb459))
                          have n9_:=mkA ((by rw [hg];exact Nat.ne_of_lt (blk_lt (g:=gb460) (o:=.cells #[.int .i64 a1_0,.int .i64 a1_1,.slice A1_2 l1_2.length c1_2] 38 (0,0)) (by(with_reducible repeat first|apply bkN|apply bkD|apply bkA);exact BK460.out)) : gb460 ≠ gb470))
                          have n10_:=mkA ((by rw [hg];exact Nat.ne_of_gt (blk_lt (g:=gb460) (o:=.cells #[.int .i64 a1_0,.int .i64 a1_1,.slice A1_2 l1_2.length c1_2] 38 (0,0)) (by(with_reducible repeat first|apply bkN|apply bkD|apply bkA);exact BK460.out)) : gb470 ≠ gb460))
                          have n11_:=mkA ((by rw [hg];exact Nat.ne_of_lt (blk_lt (g:=gb471) (o:=.cells #[.int .i64 0,.int .i64 0,.slice none 0 0] 40 (0,0)) (by(with_reducible repeat first|apply bkN|apply bkD|apply bkA);exact BK471.out)) : gb471 ≠ gb470))
                          have n12_:=mkA ((by rw [hg];exact Nat.ne_of_gt (blk_lt (g:=gb471) (o:=.cells #[.int .i64 0,.int .i64 0,.slice none 0 0] 40 (0,0)) (by(with_reducible repeat first|apply bkN|apply bkD|apply bkA);exact BK471.out)) : gb470 ≠ gb471))
                          clear BK459
                          clear BK460
                          clear BK471
                          clear HB
                          have BK459:=n0_
                          have BK460:=n1_
                          have BK471:=n2_
                          have HB:=n3_
                          have BK470:=n4_
                          have GW470:=n5_
                          have GE470:=n6_
                          have NB459_470:=n7_
                          have NB470_459:=n8_
                          have NB460_470:=n9_
                          have NB470_460:=n10_
                          have NB471_470:=n11_
                          have NB470_471:=n12_
                          clear n0_ n1_ n2_ n3_ n4_ n5_ n6_ n7_ n8_ n9_ n10_ n11_ n12_
                          clear hb hbox hg
                          refine hK.out _ _ ⟨(bkC BK459.out 0).trans rfl,(bkC BK459.out 1).trans rfl,(bkC BK460.out 0).trans rfl,(bkC BK460.out 1).trans rfl,(bkC BK460.out 2).trans rfl⟩ (fun hHeld=>?_)
                          clear hK K
                          refine norm_ (a':=?_) ?_ ?_
                          rotate_left
                          · show Act.put _ (some 7) _ = _
                            simp only [Act.put,lsA,lsZ,lsS,i64_w,i32_w]
                            rfl
                          exact norm_ (by first|(simp only [putAll,Act.put,lsA,lsZ,lsS];done)|(simp only [putAll,Act.put,lsA,lsZ,lsS];rfl)) (hJ4_5 (gb470,gb471) _ ⟨hHeld,(by(with_reducible repeat first|apply bkN|apply bkD|apply bkA);exact BK459.out),(by(with_reducible repeat first|apply bkN|apply bkD|apply bkA);exact BK460.out),(by(with_reducible repeat first|apply bkN|apply bkD|apply bkA);exact BK470.out),(by(with_reducible repeat first|apply bkN|apply bkD|apply bkA);exact BK471.out),GW470.out,GE470.out,NB459_470.out,NB470_459.out,NB460_470.out,NB470_460.out,NB471_470.out,NB470_471.out,GW471.out,GE471.out,NB459_471.out,NB471_459.out,NB460_471.out,NB471_460.out,(by repeat (with_reducible first|exact HB.out|apply bwA|apply bwN|apply bwD|refine bwS ?_ GE459.out|refine bwS ?_ GE460.out|refine bwS ?_ GE471.out|refine bwS ?_ GE470.out))⟩)
                    · skip
                      rintro gb470 w54 ⟨hS_,h0_,h1_,h2_,h3_,h4_,h5_,h6_,h7_,h8_,h9_⟩
                      have n0_ : Aside0 (w54.heap[gb459]? = some (.cells #[.int .i64 a0_0,.slice A0_1 l0_1.length c0_1] 24 (0,0))):=⟨h0_⟩
                      have n1_ : Aside0 (w54.heap[gb460]? = some (.cells #[.int .i64 a1_0,.int .i64 a1_1,.slice A1_2 l1_2.length c1_2] 38 (0,0))):=⟨h1_⟩
                      have n2_ : Aside0 (w54.heap[gb470]? = some (.cells #[.int .i64 0,.slice none 0 0] 32 (0,0))):=⟨h2_⟩
                      have n3_ : Aside0 (w.heap.size ≤ gb470):=⟨h3_⟩
                      have n4_ : Aside0 (w.heap.size ≤ gb470):=⟨h4_⟩
                      have n5_ : Aside0 (gb459 ≠ gb470):=⟨h5_⟩
                      have n6_ : Aside0 (gb470 ≠ gb459):=⟨h6_⟩
                      have n7_ : Aside0 (gb460 ≠ gb470):=⟨h7_⟩
                      have n8_ : Aside0 (gb470 ≠ gb460):=⟨h8_⟩
                      have n9_ : Aside0 (Below w.heap.size w w54):=⟨h9_⟩
                      clear BK459
                      clear BK460
                      clear HB
                      clear h0_ h1_ h2_ h3_ h4_ h5_ h6_ h7_ h8_ h9_
                      have BK459:=n0_
                      have BK460:=n1_
                      have BK470:=n2_
                      have GW470:=n3_
                      have GE470:=n4_
                      have NB459_470:=n5_
                      have NB470_459:=n6_
                      have NB460_470:=n7_
                      have NB470_460:=n8_
                      have HB:=n9_
                      clear n0_ n1_ n2_ n3_ n4_ n5_ n6_ n7_ n8_ n9_
                      have hHeld : w54.cell? ⟨gb459,0,none⟩ = some (.int .i64 a0_0)∧w54.cell? ⟨gb459,1,none⟩ = some (.slice A0_1 l0_1.length c0_1)∧w54.cell? ⟨gb460,0,none⟩ = some (.int .i64 a1_0)∧w54.cell? ⟨gb460,1,none⟩ = some (.int .i64 a1_1)∧w54.cell? ⟨gb460,2,none⟩ = some (.slice A1_2 l1_2.length c1_2):=hS_
                      refine norm_ (a':=?_) ?_ ?_
                      rotate_left
                      · simp only [putAll,Act.put,lsA,lsZ,lsS]
                        rfl
                      refine two_ (i:=1) (j:=5) (Ni:=some 25) (Nj:=some 8) #[true,true,true,false,true,false,false,false] #[true,false,true,false,true,true,false,false] rfl rfl rfl rfl (two_of HT_.out (by kernel_rfl)) (by decide) (by decide) (fun K hK=>?_) (fun K hK=>?_)
                      · skip
                        refine goes_ Try.func9 (by kernel_rfl) rfl #[.agg #[.int .i64 a0_0,.slice A0_1 l0_1.length c0_1]] (by rfl) rfl rfl (by(try simp only [List.map_toArray,List.map_cons,List.map_nil]);first|done|rfl) ?_
                        with_reducible refine(undercroftlaw04_Of.calls k a0_0 _ _ l0_1 a0_0 lx _ ?side1 ?side2 A5.out).mono ?_
                        (case side1=>repeat (first|exact(Kd.C_below HR0_1.out HB.out)|(with_reducible refine Kd.C_alloc ?_ _)|(with_reducible refine Kd.C_drewN ?_ _)|(with_reducible refine Kd.C_drew ?_)))
                        (case side2=>exact HC0_1.out)
                        rintro e w55 ⟨v463,rfl,ho0,hb⟩
                        refine⟨_,rfl,?_⟩
                        have n0_:=mkA (Kd.S_lower ho0 (bwZ (by repeat (with_reducible first|exact HB.out|apply bwA|apply bwN|apply bwD|refine bwS ?_ GE459.out|refine bwS ?_ GE460.out|refine bwS ?_ GE470.out))))
                        have n1_:=mkA (bkB (g:=gb459) (o:=.cells #[.int .i64 a0_0,.slice A0_1 l0_1.length c0_1] 24 (0,0)) (by(with_reducible repeat first|apply bkN|apply bkD|apply bkA);exact BK459.out) hb)
                        have n2_:=mkA (bkB (g:=gb460) (o:=.cells #[.int .i64 a1_0,.int .i64 a1_1,.slice A1_2 l1_2.length c1_2] 38 (0,0)) (by(with_reducible repeat first|apply bkN|apply bkD|apply bkA);exact BK460.out) hb)
                        have n3_:=mkA (bkB (g:=gb470) (o:=.cells #[.int .i64 0,.slice none 0 0] 32 (0,0)) (by(with_reducible repeat first|apply bkN|apply bkD|apply bkA);exact BK470.out) hb)
                        have n4_:=mkA (below_step (by repeat (with_reducible first|exact HB.out|apply bwA|apply bwN|apply bwD|refine bwS ?_ GE459.out|refine bwS ?_ GE460.out|refine bwS ?_ GE470.out)) hb)
                        clear BK459
                        clear BK460
                        clear BK470
                        clear HB
                        have HO464:=n0_
                        have BK459:=n1_
                        have BK460:=n2_
                        have BK470:=n3_
                        have HB:=n4_
                        clear n0_ n1_ n2_ n3_ n4_
                        (try clear hb)
                        (try clear hb2)
                        (try clear hk)
                        (try clear hi)
                        (try clear ho0)
                        refine hK.out _ _ ⟨(bkC BK459.out 0).trans rfl,(bkC BK459.out 1).trans rfl,(bkC BK460.out 0).trans rfl,(bkC BK460.out 1).trans rfl,(bkC BK460.out 2).trans rfl⟩ (fun hHeld=>?_)
                        clear hK K
                        refine norm_ (a':=?_) ?_ ?_
                        rotate_left
                        · show Act.put _ (some 25) _ = _
                          simp only [Act.put,lsA,lsZ,lsS,i64_w,i32_w]
                          rfl
                        exact norm_ (by first|(simp only [putAll,Act.put,lsA,lsZ,lsS];done)|(simp only [putAll,Act.put,lsA,lsZ,lsS];rfl)) (hJ1_4 (v463,gb470) _ ⟨hHeld,(by(with_reducible repeat (first|apply Kd.S_alloc|apply Kd.S_drewN|apply Kd.S_drew));exact HO464.out),(by(with_reducible repeat first|apply bkN|apply bkD|apply bkA);exact BK459.out),(by(with_reducible repeat first|apply bkN|apply bkD|apply bkA);exact BK460.out),(by(with_reducible repeat first|apply bkN|apply bkD|apply bkA);exact BK470.out),GW470.out,GE470.out,NB459_470.out,NB470_459.out,NB460_470.out,NB470_460.out,(by repeat (with_reducible first|exact HB.out|apply bwA|apply bwN|apply bwD|refine bwS ?_ GE459.out|refine bwS ?_ GE460.out|refine bwS ?_ GE470.out))⟩)
                      · skip
                        refine box_step ?hg (N:=8) ?hd (cs:=#[.int .i64 0,.int .i64 0,.slice none 0 0]) (t:=40) ?hr ?_;(case hd=>rfl);(case hg=>rfl);(case hr=>first|(go_simp;done)|(go_simp;rfl))
                        intro gb471 hg w55 hbox hb
                        have n0_:=mkA (bkB (g:=gb459) (o:=.cells #[.int .i64 a0_0,.slice A0_1 l0_1.length c0_1] 24 (0,0)) (by(with_reducible repeat first|apply bkN|apply bkD|apply bkA);exact BK459.out) hb)
                        have n1_:=mkA (bkB (g:=gb460) (o:=.cells #[.int .i64 a1_0,.int .i64 a1_1,.slice A1_2 l1_2.length c1_2] 38 (0,0)) (by(with_reducible repeat first|apply bkN|apply bkD|apply bkA);exact BK460.out) hb)
                        have n2_:=mkA (bkB (g:=gb470) (o:=.cells #[.int .i64 0,.slice none 0 0] 32 (0,0)) (by(with_reducible repeat first|apply bkN|apply bkD|apply bkA);exact BK470.out) hb)
                        have n3_:=mkA (below_step (by repeat (with_reducible first|exact HB.out|apply bwA|apply bwN|apply bwD|refine bwS ?_ GE459.out|refine bwS ?_ GE460.out|refine bwS ?_ GE470.out)) hb)
                        have n4_:=mkA (hbox)
                        have n5_:=mkA ((by rw [hg];exact(bwZ (by repeat (with_reducible first|exact HB.out|apply bwA|apply bwN|apply bwD|refine bwS ?_ GE459.out|refine bwS ?_ GE460.out|refine bwS ?_ GE470.out))) : w.heap.size ≤ gb471))
                        have n6_:=mkA ((by rw [hg];exact(bwZ (by repeat (with_reducible first|exact HB.out|apply bwA|apply bwN|apply bwD|refine bwS ?_ GE459.out|refine bwS ?_ GE460.out|refine bwS ?_ GE470.out))) : w.heap.size ≤ gb471))
                        have n7_:=mkA ((by rw [hg];exact Nat.ne_of_lt (blk_lt (g:=gb459) (o:=.cells #[.int .i64 a0_0,.slice A0_1 l0_1.length c0_1] 24 (0,0)) (by(with_reducible repeat first|apply bkN|apply bkD|apply bkA);exact BK459.out)) : gb459 ≠ gb471))
                        have n8_:=mkA ((by rw [hg];exact Nat.ne_of_gt (blk_lt (g:=gb459) (o:=.cells #[.int .i64 a0_0,.slice A0_1 l0_1.length c0_1] 24 (0,0)) (by(with_reducible repeat first|apply bkN|apply bkD|apply bkA);exact BK459.out)) : gb471 ≠ gb459))
                        have n9_:=mkA ((by rw [hg];exact Nat.ne_of_lt (blk_lt (g:=gb460) (o:=.cells #[.int .i64 a1_0,.int .i64 a1_1,.slice A1_2 l1_2.length c1_2] 38 (0,0)) (by(with_reducible repeat first|apply bkN|apply bkD|apply bkA);exact BK460.out)) : gb460 ≠ gb471))
                        have n10_:=mkA ((by rw [hg];exact Nat.ne_of_gt (blk_lt (g:=gb460) (o:=.cells #[.int .i64 a1_0,.int .i64 a1_1,.slice A1_2 l1_2.length c1_2] 38 (0,0)) (by(with_reducible repeat first|apply bkN|apply bkD|apply bkA);exact BK460.out)) : gb471 ≠ gb460))
                        have n11_:=mkA ((by rw [hg];exact Nat.ne_of_lt (blk_lt (g:=gb470) (o:=.cells #[.int .i64 0,.slice none 0 0] 32 (0,0)) (by(with_reducible repeat first|apply bkN|apply bkD|apply bkA);exact BK470.out)) : gb470 ≠ gb471))
                        have n12_:=mkA ((by rw [hg];exact Nat.ne_of_gt (blk_lt (g:=gb470) (o:=.cells #[.int .i64 0,.slice none 0 0] 32 (0,0)) (by(with_reducible repeat first|apply bkN|apply bkD|apply bkA);exact BK470.out)) : gb471 ≠ gb470))
                        clear BK459
                        clear BK460
                        clear BK470
                        clear HB
                        have BK459:=n0_
                        have BK460:=n1_
                        have BK470:=n2_
                        have HB:=n3_
                        have BK471:=n4_
                        have GW471:=n5_
                        have GE471:=n6_
                        have NB459_471:=n7_
                        have NB471_459:=n8_
                        have NB460_471:=n9_
                        have NB471_460:=n10_
                        have NB470_471:=n11_
                        have NB471_470:=n12_
                        clear n0_ n1_ n2_ n3_ n4_ n5_ n6_ n7_ n8_ n9_ n10_ n11_ n12_
                        clear hb hbox hg
                        refine hK.out _ _ ⟨(bkC BK459.out 0).trans rfl,(bkC BK459.out 1).trans rfl,(bkC BK460.out 0).trans rfl,(bkC BK460.out 1).trans rfl,(bkC BK460.out 2).trans rfl⟩ (fun hHeld=>?_)
                        clear hK K
                        refine norm_ (a':=?_) ?_ ?_
                        rotate_left
                        · show Act.put _ (some 8) _ = _
                          simp only [Act.put,lsA,lsZ,lsS,i64_w,i32_w]
                          rfl
                        exact norm_ (by first|(simp only [putAll,Act.put,lsA,lsZ,lsS];done)|(simp only [putAll,Act.put,lsA,lsZ,lsS];rfl)) (hJ4_5 (gb470,gb471) _ ⟨hHeld,(by(with_reducible repeat first|apply bkN|apply bkD|apply bkA);exact BK459.out),(by(with_reducible repeat first|apply bkN|apply bkD|apply bkA);exact BK460.out),(by(with_reducible repeat first|apply bkN|apply bkD|apply bkA);exact BK470.out),(by(with_reducible repeat first|apply bkN|apply bkD|apply bkA);exact BK471.out),GW470.out,GE470.out,NB459_470.out,NB470_459.out,NB460_470.out,NB470_460.out,NB471_470.out,NB470_471.out,GW471.out,GE471.out,NB459_471.out,NB471_459.out,NB460_471.out,NB471_460.out,(by repeat (with_reducible first|exact HB.out|apply bwA|apply bwN|apply bwD|refine bwS ?_ GE459.out|refine bwS ?_ GE460.out|refine bwS ?_ GE470.out|refine bwS ?_ GE471.out))⟩)
                  · skip
                    rintro v463 w54 ⟨hS_,h0_,h1_,h2_,h3_⟩
                    have n0_ : Aside0 (Kd.S k40 40 w54 w.heap.size (fun _=>True) v463 lx):=⟨h0_⟩
                    have n1_ : Aside0 (w54.heap[gb459]? = some (.cells #[.int .i64 a0_0,.slice A0_1 l0_1.length c0_1] 24 (0,0))):=⟨h1_⟩
                    have n2_ : Aside0 (w54.heap[gb460]? = some (.cells #[.int .i64 a1_0,.int .i64 a1_1,.slice A1_2 l1_2.length c1_2] 38 (0,0))):=⟨h2_⟩
                    have n3_ : Aside0 (Below w.heap.size w w54):=⟨h3_⟩
                    clear BK459
                    clear BK460
                    clear HB
                    clear h0_ h1_ h2_ h3_
                    have HO464:=n0_
                    have BK459:=n1_
                    have BK460:=n2_
                    have HB:=n3_
                    clear n0_ n1_ n2_ n3_
                    have hHeld : w54.cell? ⟨gb459,0,none⟩ = some (.int .i64 a0_0)∧w54.cell? ⟨gb459,1,none⟩ = some (.slice A0_1 l0_1.length c0_1)∧w54.cell? ⟨gb460,0,none⟩ = some (.int .i64 a1_0)∧w54.cell? ⟨gb460,1,none⟩ = some (.int .i64 a1_1)∧w54.cell? ⟨gb460,2,none⟩ = some (.slice A1_2 l1_2.length c1_2):=hS_
                    refine norm_ (a':=?_) ?_ ?_
                    rotate_left
                    · simp only [putAll,Act.put,lsA,lsZ,lsS]
                      rfl
                    refine three_ (i:=3) (j:=4) (k:=5) (Ni:=some 27) (Nj:=some 7) (Nk:=some 8) #[true,true,true,true,false,false,false,false] #[true,true,true,false,true,false,false,false] #[true,true,true,false,false,true,false,false] rfl rfl rfl rfl rfl rfl (three_of HT_.out (by kernel_rfl)) (by decide) (by decide) (by decide) (fun K hK=>?_) (fun K hK=>?_) (fun K hK=>?_)
                    · skip
                      refine goes_ Try.func12 (by kernel_rfl) rfl #[.agg #[.int .i64 a1_0,.int .i64 a1_1,.slice A1_2 l1_2.length c1_2]] (by rfl) rfl rfl (by(try simp only [List.map_toArray,List.map_cons,List.map_nil]);first|done|rfl) ?_
                      with_reducible refine(undercroftlaw04_one.calls a1_0 a1_1 _ _ l1_2 a1_0 a1_1 l1_2 _ ?side1 ?side2 A6.out).mono ?_
                      (case side1=>repeat (first|exact(Kd.C_below HR1_2.out HB.out)|(with_reducible refine Kd.C_alloc ?_ _)|(with_reducible refine Kd.C_drewN ?_ _)|(with_reducible refine Kd.C_drew ?_)))
                      (case side2=>exact HC1_2.out)
                      rintro e w55 ⟨v468,rfl,ho0,hb⟩
                      refine⟨_,rfl,?_⟩
                      have n0_:=mkA (Kd.S_elder' (by(with_reducible repeat (first|apply Kd.S_alloc|apply Kd.S_drewN|apply Kd.S_drew));exact HO464.out) (Kd.R_base ho0) hb)
                      have n1_:=mkA (Kd.R_lower ho0 (bwZ (by repeat (with_reducible first|exact HB.out|apply bwA|apply bwN|apply bwD|refine bwS ?_ GE459.out|refine bwS ?_ GE460.out))))
                      have n2_:=mkA (bkB (g:=gb459) (o:=.cells #[.int .i64 a0_0,.slice A0_1 l0_1.length c0_1] 24 (0,0)) (by(with_reducible repeat first|apply bkN|apply bkD|apply bkA);exact BK459.out) hb)
                      have n3_:=mkA (bkB (g:=gb460) (o:=.cells #[.int .i64 a1_0,.int .i64 a1_1,.slice A1_2 l1_2.length c1_2] 38 (0,0)) (by(with_reducible repeat first|apply bkN|apply bkD|apply bkA);exact BK460.out) hb)
                      have n4_:=mkA (below_step (by repeat (with_reducible first|exact HB.out|apply bwA|apply bwN|apply bwD|refine bwS ?_ GE459.out|refine bwS ?_ GE460.out)) hb)
                      clear HO464
                      clear BK459
                      clear BK460
                      clear HB
                      have HO464:=n0_
                      have HO469:=n1_
                      have BK459:=n2_
                      have BK460:=n3_
                      have HB:=n4_
                      clear n0_ n1_ n2_ n3_ n4_
                      (try clear hb)
                      (try clear hb2)
                      (try clear hk)
                      (try clear hi)
                      (try clear ho0)
                      refine hK.out _ _ ⟨(bkC BK459.out 0).trans rfl,(bkC BK459.out 1).trans rfl,(bkC BK460.out 0).trans rfl,(bkC BK460.out 1).trans rfl,(bkC BK460.out 2).trans rfl⟩ (fun hHeld=>?_)
                      clear hK K
                      refine norm_ (a':=?_) ?_ ?_
                      rotate_left
                      · show Act.put _ (some 27) _ = _
                        simp only [Act.put,lsA,lsZ,lsS,i64_w,i32_w]
                        rfl
                      exact norm_ (by first|(simp only [putAll,Act.put,lsA,lsZ,lsS];done)|(simp only [putAll,Act.put,lsA,lsZ,lsS];rfl)) (hJ1_3 (v463,v468) _ ⟨hHeld,(by(with_reducible repeat (first|apply Kd.S_alloc|apply Kd.S_drewN|apply Kd.S_drew));exact Kd.S_mono HO464.out (fun _ hk=>hk.2)),(by(with_reducible repeat (first|apply Kd.R_alloc|apply Kd.R_drewN|apply Kd.R_drew));exact HO469.out),(by(with_reducible repeat first|apply bkN|apply bkD|apply bkA);exact BK459.out),(by(with_reducible repeat first|apply bkN|apply bkD|apply bkA);exact BK460.out),(by repeat (with_reducible first|exact HB.out|apply bwA|apply bwN|apply bwD|refine bwS ?_ GE459.out|refine bwS ?_ GE460.out))⟩)
                    · skip
                      refine box_step ?hg (N:=7) ?hd (cs:=#[.int .i64 0,.slice none 0 0]) (t:=32) ?hr ?_;(case hd=>rfl);(case hg=>rfl);(case hr=>first|(go_simp;done)|(go_simp;rfl))
                      intro gb470 hg w55 hbox hb
                      have n0_:=mkA (Kd.S_below (by(with_reducible repeat (first|apply Kd.S_alloc|apply Kd.S_drewN|apply Kd.S_drew));exact HO464.out) hb)
                      have n1_:=mkA (bkB (g:=gb459) (o:=.cells #[.int .i64 a0_0,.slice A0_1 l0_1.length c0_1] 24 (0,0)) (by(with_reducible repeat first|apply bkN|apply bkD|apply bkA);exact BK459.out) hb)
                      have n2_:=mkA (bkB (g:=gb460) (o:=.cells #[.int .i64 a1_0,.int .i64 a1_1,.slice A1_2 l1_2.length c1_2] 38 (0,0)) (by(with_reducible repeat first|apply bkN|apply bkD|apply bkA);exact BK460.out) hb)
                      have n3_:=mkA (below_step (by repeat (with_reducible first|exact HB.out|apply bwA|apply bwN|apply bwD|refine bwS ?_ GE459.out|refine bwS ?_ GE460.out)) hb)
                      have n4_:=mkA (hbox)
                      have n5_:=mkA ((by rw [hg];exact(bwZ (by repeat (with_reducible first|exact HB.out|apply bwA|apply bwN|apply bwD|refine bwS ?_ GE459.out|refine bwS ?_ GE460.out))) : w.heap.size ≤ gb470))
                      have n6_:=mkA ((by rw [hg];exact(bwZ (by repeat (with_reducible first|exact HB.out|apply bwA|apply bwN|apply bwD|refine bwS ?_ GE459.out|refine bwS ?_ GE460.out))) : w.heap.size ≤ gb470))
                      have n7_:=mkA ((by rw [hg];exact Nat.ne_of_lt (blk_lt (g:=gb459) (o:=.cells #[.int .i64 a0_0,.slice A0_1 l0_1.length c0_1] 24 (0,0)) (by(with_reducible repeat first|apply bkN|apply bkD|apply bkA);exact BK459.out)) : gb459 ≠ gb470))
                      have n8_:=mkA ((by rw [hg];exact Nat.ne_of_gt (blk_lt (g:=gb459) (o:=.cells #[.int .i64 a0_0,.slice A0_1 l0_1.length c0_1] 24 (0,0)) (by(with_reducible repeat first|apply bkN|apply bkD|apply bkA);exact BK459.out)) : gb470 ≠ gb459))
                      have n9_:=mkA ((by rw [hg];exact Nat.ne_of_lt (blk_lt (g:=gb460) (o:=.cells #[.int .i64 a1_0,.int .i64 a1_1,.slice A1_2 l1_2.length c1_2] 38 (0,0)) (by(with_reducible repeat first|apply bkN|apply bkD|apply bkA);exact BK460.out)) : gb460 ≠ gb470))
                      have n10_:=mkA ((by rw [hg];exact Nat.ne_of_gt (blk_lt (g:=gb460) (o:=.cells #[.int .i64 a1_0,.int .i64 a1_1,.slice A1_2 l1_2.length c1_2] 38 (0,0)) (by(with_reducible repeat first|apply bkN|apply bkD|apply bkA);exact BK460.out)) : gb470 ≠ gb460))
                      clear HO464
                      clear BK459
                      clear BK460
                      clear HB
                      have HO464:=n0_
                      have BK459:=n1_
                      have BK460:=n2_
                      have HB:=n3_
                      have BK470:=n4_
                      have GW470:=n5_
                      have GE470:=n6_
                      have NB459_470:=n7_
                      have NB470_459:=n8_
                      have NB460_470:=n9_
                      have NB470_460:=n10_
                      clear n0_ n1_ n2_ n3_ n4_ n5_ n6_ n7_ n8_ n9_ n10_
                      clear hb hbox hg
                      refine hK.out _ _ ⟨(bkC BK459.out 0).trans rfl,(bkC BK459.out 1).trans rfl,(bkC BK460.out 0).trans rfl,(bkC BK460.out 1).trans rfl,(bkC BK460.out 2).trans rfl⟩ (fun hHeld=>?_)
                      clear hK K
                      refine norm_ (a':=?_) ?_ ?_
                      rotate_left
                      · show Act.put _ (some 7) _ = _
                        simp only [Act.put,lsA,lsZ,lsS,i64_w,i32_w]
                        rfl
                      exact norm_ (by first|(simp only [putAll,Act.put,lsA,lsZ,lsS];done)|(simp only [putAll,Act.put,lsA,lsZ,lsS];rfl)) (hJ1_4 (v463,gb470) _ ⟨hHeld,(by(with_reducible repeat (first|apply Kd.S_alloc|apply Kd.S_drewN|apply Kd.S_drew));exact HO464.out),(by(with_reducible repeat first|apply bkN|apply bkD|apply bkA);exact BK459.out),(by(with_reducible repeat first|apply bkN|apply bkD|apply bkA);exact BK460.out),(by(with_reducible repeat first|apply bkN|apply bkD|apply bkA);exact BK470.out),GW470.out,GE470.out,NB459_470.out,NB470_459.out,NB460_470.out,NB470_460.out,(by repeat (with_reducible first|exact HB.out|apply bwA|apply bwN|apply bwD|refine bwS ?_ GE459.out|refine bwS ?_ GE460.out|refine bwS ?_ GE470.out))⟩)
                    · skip
                      refine box_step ?hg (N:=8) ?hd (cs:=#[.int .i64 0,.int .i64 0,.slice none 0 0]) (t:=40) ?hr ?_;(case hd=>rfl);(case hg=>rfl);(case hr=>first|(go_simp;done)|(go_simp;rfl))
                      intro gb471 hg w55 hbox hb
                      have n0_:=mkA (Kd.S_below (Kd.S_elderB (by(with_reducible repeat (first|apply Kd.S_alloc|apply Kd.S_drewN|apply Kd.S_drew));exact HO464.out) gb471 (Nat.le_of_eq hg.symm)) hb)
                      have n1_:=mkA (bkB (g:=gb459) (o:=.cells #[.int .i64 a0_0,.slice A0_1 l0_1.length c0_1] 24 (0,0)) (by(with_reducible repeat first|apply bkN|apply bkD|apply bkA);exact BK459.out) hb)
                      have n2_:=mkA (bkB (g:=gb460) (o:=.cells #[.int .i64 a1_0,.int .i64 a1_1,.slice A1_2 l1_2.length c1_2] 38 (0,0)) (by(with_reducible repeat first|apply bkN|apply bkD|apply bkA);exact BK460.out) hb)
                      have n3_:=mkA (below_step (by repeat (with_reducible first|exact HB.out|apply bwA|apply bwN|apply bwD|refine bwS ?_ GE459.out|refine bwS ?_ GE460.out)) hb)
                      have n4_:=mkA (hbox)
                      have n5_:=mkA ((by rw [hg];exact(bwZ (by repeat (with_reducible first|exact HB.out|apply bwA|apply bwN|apply bwD|refine bwS ?_ GE459.out|refine bwS ?_ GE460.out))) : w.heap.size ≤ gb471))
                      have n6_:=mkA ((by rw [hg];exact(bwZ (by repeat (with_reducible first|exact HB.out|apply bwA|apply bwN|apply bwD|refine bwS ?_ GE459.out|refine bwS ?_ GE460.out))) : w.heap.size ≤ gb471))
                      have n7_:=mkA ((by rw [hg];exact Nat.ne_of_lt (blk_lt (g:=gb459) (o:=.cells #[.int .i64 a0_0,.slice A0_1 l0_1.length c0_1] 24 (0,0)) (by(with_reducible repeat first|apply bkN|apply bkD|apply bkA);exact BK459.out)) : gb459 ≠ gb471))
                      have n8_:=mkA ((by rw [hg];exact Nat.ne_of_gt (blk_lt (g:=gb459) (o:=.cells #[.int .i64 a0_0,.slice A0_1 l0_1.length c0_1] 24 (0,0)) (by(with_reducible repeat first|apply bkN|apply bkD|apply bkA);exact BK459.out)) : gb471 ≠ gb459))
                      have n9_:=mkA ((by rw [hg];exact Nat.ne_of_lt (blk_lt (g:=gb460) (o:=.cells #[.int .i64 a1_0,.int .i64 a1_1,.slice A1_2 l1_2.length c1_2] 38 (0,0)) (by(with_reducible repeat first|apply bkN|apply bkD|apply bkA);exact BK460.out)) : gb460 ≠ gb471))
                      have n10_:=mkA ((by rw [hg];exact Nat.ne_of_gt (blk_lt (g:=gb460) (o:=.cells #[.int .i64 a1_0,.int .i64 a1_1,.slice A1_2 l1_2.length c1_2] 38 (0,0)) (by(with_reducible repeat first|apply bkN|apply bkD|apply bkA);exact BK460.out)) : gb471 ≠ gb460))
                      clear HO464
                      clear BK459
                      clear BK460
                      clear HB
                      have HO464:=n0_
                      have BK459:=n1_
                      have BK460:=n2_
                      have HB:=n3_
                      have BK471:=n4_
                      have GW471:=n5_
                      have GE471:=n6_
                      have NB459_471:=n7_
                      have NB471_459:=n8_
                      have NB460_471:=n9_
                      have NB471_460:=n10_
                      clear n0_ n1_ n2_ n3_ n4_ n5_ n6_ n7_ n8_ n9_ n10_
                      clear hb hbox hg
                      refine hK.out _ _ ⟨(bkC BK459.out 0).trans rfl,(bkC BK459.out 1).trans rfl,(bkC BK460.out 0).trans rfl,(bkC BK460.out 1).trans rfl,(bkC BK460.out 2).trans rfl⟩ (fun hHeld=>?_)
                      clear hK K
                      refine norm_ (a':=?_) ?_ ?_
                      rotate_left
                      · show Act.put _ (some 8) _ = _
                        simp only [Act.put,lsA,lsZ,lsS,i64_w,i32_w]
                        rfl
                      exact norm_ (by first|(simp only [putAll,Act.put,lsA,lsZ,lsS];done)|(simp only [putAll,Act.put,lsA,lsZ,lsS];rfl)) (hJ1_5 (v463,gb471) _ ⟨hHeld,(by(with_reducible repeat (first|apply Kd.S_alloc|apply Kd.S_drewN|apply Kd.S_drew));exact Kd.S_mono HO464.out (fun _ hk=>hk.2)),(by(with_reducible repeat first|apply bkN|apply bkD|apply bkA);exact BK459.out),(by(with_reducible repeat first|apply bkN|apply bkD|apply bkA);exact BK460.out),(by(with_reducible repeat first|apply bkN|apply bkD|apply bkA);exact BK471.out),GW471.out,GE471.out,NB459_471.out,NB471_459.out,NB460_471.out,NB471_460.out,(by repeat (with_reducible first|exact HB.out|apply bwA|apply bwN|apply bwD|refine bwS ?_ GE459.out|refine bwS ?_ GE460.out|refine bwS ?_ GE471.out))⟩)
                · skip
                  rintro ⟨gb470,gb471⟩ w55 ⟨hS_,h0_,h1_,h2_,h3_,h4_,h5_,h6_,h7_,h8_,h9_,h10_,h11_,h12_,h13_,h14_,h15_,h16_,h17_,h18_⟩
                  have n0_ : Aside0 (w55.heap[gb459]? = some (.cells #[.int .i64 a0_0,.slice A0_1 l0_1.length c0_1] 24 (0,0))):=⟨h0_⟩
                  have n1_ : Aside0 (w55.heap[gb460]? = some (.cells #[.int .i64 a1_0,.int .i64 a1_1,.slice A1_2 l1_2.length c1_2] 38 (0,0))):=⟨h1_⟩
                  have n2_ : Aside0 (w55.heap[gb470]? = some (.cells #[.int .i64 0,.slice none 0 0] 32 (0,0))):=⟨h2_⟩
                  have n3_ : Aside0 (w55.heap[gb471]? = some (.cells #[.int .i64 0,.int .i64 0,.slice none 0 0] 40 (0,0))):=⟨h3_⟩
                  have n4_ : Aside0 (w.heap.size ≤ gb470):=⟨h4_⟩
                  have n5_ : Aside0 (w.heap.size ≤ gb470):=⟨h5_⟩
                  have n6_ : Aside0 (gb459 ≠ gb470):=⟨h6_⟩
                  have n7_ : Aside0 (gb470 ≠ gb459):=⟨h7_⟩
                  have n8_ : Aside0 (gb460 ≠ gb470):=⟨h8_⟩
                  have n9_ : Aside0 (gb470 ≠ gb460):=⟨h9_⟩
                  have n10_ : Aside0 (gb471 ≠ gb470):=⟨h10_⟩
                  have n11_ : Aside0 (gb470 ≠ gb471):=⟨h11_⟩
                  have n12_ : Aside0 (w.heap.size ≤ gb471):=⟨h12_⟩
                  have n13_ : Aside0 (w.heap.size ≤ gb471):=⟨h13_⟩
                  have n14_ : Aside0 (gb459 ≠ gb471):=⟨h14_⟩
                  have n15_ : Aside0 (gb471 ≠ gb459):=⟨h15_⟩
                  have n16_ : Aside0 (gb460 ≠ gb471):=⟨h16_⟩
                  have n17_ : Aside0 (gb471 ≠ gb460):=⟨h17_⟩
                  have n18_ : Aside0 (Below w.heap.size w w55):=⟨h18_⟩
                  clear BK459
                  clear BK460
                  clear HB
                  clear h0_ h1_ h2_ h3_ h4_ h5_ h6_ h7_ h8_ h9_ h10_ h11_ h12_ h13_ h14_ h15_ h16_ h17_ h18_
                  have BK459:=n0_
                  have BK460:=n1_
                  have BK470:=n2_
                  have BK471:=n3_
                  have GW470:=n4_
                  have GE470:=n5_
                  have NB459_470:=n6_
                  have NB470_459:=n7_
                  have NB460_470:=n8_
                  have NB470_460:=n9_
                  have NB471_470:=n10_
                  have NB470_471:=n11_
                  have GW471:=n12_
                  have GE471:=n13_
                  have NB459_471:=n14_
                  have NB471_459:=n15_
                  have NB460_471:=n16_
                  have NB471_460:=n17_
                  have HB:=n18_
                  clear n0_ n1_ n2_ n3_ n4_ n5_ n6_ n7_ n8_ n9_ n10_ n11_ n12_ n13_ n14_ n15_ n16_ n17_ n18_
                  have hHeld : w55.cell? ⟨gb459,0,none⟩ = some (.int .i64 a0_0)∧w55.cell? ⟨gb459,1,none⟩ = some (.slice A0_1 l0_1.length c0_1)∧w55.cell? ⟨gb460,0,none⟩ = some (.int .i64 a1_0)∧w55.cell? ⟨gb460,1,none⟩ = some (.int .i64 a1_1)∧w55.cell? ⟨gb460,2,none⟩ = some (.slice A1_2 l1_2.length c1_2):=hS_
                  refine norm_ (a':=?_) ?_ ?_
                  rotate_left
                  · simp only [putAll,Act.put,lsA,lsZ,lsS]
                    rfl
                  refine one_ (i:=1) (N:=some 25) #[true,true,true,false,true,true,false,false] rfl rfl (one_of HT_.out (by kernel_rfl)) (by decide) (fun K hK=>?_)
                  refine goes_ Try.func9 (by kernel_rfl) rfl #[.agg #[.int .i64 a0_0,.slice A0_1 l0_1.length c0_1]] (by rfl) rfl rfl (by(try simp only [List.map_toArray,List.map_cons,List.map_nil]);first|done|rfl) ?_
                  with_reducible refine(undercroftlaw04_Of.calls k a0_0 _ _ l0_1 a0_0 lx _ ?side1 ?side2 A5.out).mono ?_
                  (case side1=>repeat (first|exact(Kd.C_below HR0_1.out HB.out)|(with_reducible refine Kd.C_alloc ?_ _)|(with_reducible refine Kd.C_drewN ?_ _)|(with_reducible refine Kd.C_drew ?_)))
                  (case side2=>exact HC0_1.out)
                  rintro e w56 ⟨v463,rfl,ho0,hb⟩
                  refine⟨_,rfl,?_⟩
                  have n0_:=mkA (Kd.S_lower (Kd.S_newB ho0 (g:=gb471) (o:=.cells #[.int .i64 0,.int .i64 0,.slice none 0 0] 40 (0,0)) (by(with_reducible repeat first|apply bkN|apply bkD|apply bkA);exact BK471.out)) (bwZ (by repeat (with_reducible first|exact HB.out|apply bwA|apply bwN|apply bwD|refine bwS ?_ GE459.out|refine bwS ?_ GE460.out|refine bwS ?_ GE470.out|refine bwS ?_ GE471.out))))
                  have n1_:=mkA (bkB (g:=gb459) (o:=.cells #[.int .i64 a0_0,.slice A0_1 l0_1.length c0_1] 24 (0,0)) (by(with_reducible repeat first|apply bkN|apply bkD|apply bkA);exact BK459.out) hb)
                  have n2_:=mkA (bkB (g:=gb460) (o:=.cells #[.int .i64 a1_0,.int .i64 a1_1,.slice A1_2 l1_2.length c1_2] 38 (0,0)) (by(with_reducible repeat first|apply bkN|apply bkD|apply bkA);exact BK460.out) hb)
                  have n3_:=mkA (bkB (g:=gb470) (o:=.cells #[.int .i64 0,.slice none 0 0] 32 (0,0)) (by(with_reducible repeat first|apply bkN|apply bkD|apply bkA);exact BK470.out) hb)
                  have n4_:=mkA (bkB (g:=gb471) (o:=.cells #[.int .i64 0,.int .i64 0,.slice none 0 0] 40 (0,0)) (by(with_reducible repeat first|apply bkN|apply bkD|apply bkA);exact BK471.out) hb)
                  have n5_:=mkA (below_step (by repeat (with_reducible first|exact HB.out|apply bwA|apply bwN|apply bwD|refine bwS ?_ GE459.out|refine bwS ?_ GE460.out|refine bwS ?_ GE470.out|refine bwS ?_ GE471.out)) hb)
                  clear BK459
                  clear BK460
                  clear BK470
                  clear BK471
                  clear HB
                  have HO464:=n0_
                  have BK459:=n1_
                  have BK460:=n2_
                  have BK470:=n3_
                  have BK471:=n4_
                  have HB:=n5_
                  clear n0_ n1_ n2_ n3_ n4_ n5_
                  (try clear hb)
                  (try clear hb2)
                  (try clear hk)
                  (try clear hi)
                  (try clear ho0)
                  refine hK.out _ _ ⟨(bkC BK459.out 0).trans rfl,(bkC BK459.out 1).trans rfl,(bkC BK460.out 0).trans rfl,(bkC BK460.out 1).trans rfl,(bkC BK460.out 2).trans rfl⟩ (fun hHeld=>?_)
                  clear hK K
                  refine norm_ (a':=?_) ?_ ?_
                  rotate_left
                  · show Act.put _ (some 25) _ = _
                    simp only [Act.put,lsA,lsZ,lsS,i64_w,i32_w]
                    rfl
                  exact norm_ (by first|(simp only [putAll,Act.put,lsA,lsZ,lsS];done)|(simp only [putAll,Act.put,lsA,lsZ,lsS];rfl)) (hJ1_4_5 (v463,gb470,gb471) _ ⟨hHeld,(by(with_reducible repeat (first|apply Kd.S_alloc|apply Kd.S_drewN|apply Kd.S_drew));exact Kd.S_mono HO464.out (fun _ hk=>hk.2)),(by(with_reducible repeat first|apply bkN|apply bkD|apply bkA);exact BK459.out),(by(with_reducible repeat first|apply bkN|apply bkD|apply bkA);exact BK460.out),(by(with_reducible repeat first|apply bkN|apply bkD|apply bkA);exact BK470.out),(by(with_reducible repeat first|apply bkN|apply bkD|apply bkA);exact BK471.out),GW470.out,GE470.out,NB459_470.out,NB470_459.out,NB460_470.out,NB470_460.out,NB471_470.out,NB470_471.out,GW471.out,GE471.out,NB459_471.out,NB471_459.out,NB460_471.out,NB471_460.out,(by repeat (with_reducible first|exact HB.out|apply bwA|apply bwN|apply bwD|refine bwS ?_ GE459.out|refine bwS ?_ GE460.out|refine bwS ?_ GE470.out|refine bwS ?_ GE471.out))⟩)
              · skip
                rintro ⟨v463,gb471⟩ w55 ⟨hS_,h0_,h1_,h2_,h3_,h4_,h5_,h6_,h7_,h8_,h9_,h10_⟩
                have n0_ : Aside0 (Kd.S k40 40 w55 w.heap.size (fun k_=>k_ ≠ gb471) v463 lx):=⟨h0_⟩
                have n1_ : Aside0 (w55.heap[gb459]? = some (.cells #[.int .i64 a0_0,.slice A0_1 l0_1.length c0_1] 24 (0,0))):=⟨h1_⟩
                have n2_ : Aside0 (w55.heap[gb460]? = some (.cells #[.int .i64 a1_0,.int .i64 a1_1,.slice A1_2 l1_2.length c1_2] 38 (0,0))):=⟨h2_⟩
                have n3_ : Aside0 (w55.heap[gb471]? = some (.cells #[.int .i64 0,.int .i64 0,.slice none 0 0] 40 (0,0))):=⟨h3_⟩
                have n4_ : Aside0 (w.heap.size ≤ gb471):=⟨h4_⟩
                have n5_ : Aside0 (w.heap.size ≤ gb471):=⟨h5_⟩
                have n6_ : Aside0 (gb459 ≠ gb471):=⟨h6_⟩
                have n7_ : Aside0 (gb471 ≠ gb459):=⟨h7_⟩
                have n8_ : Aside0 (gb460 ≠ gb471):=⟨h8_⟩
                have n9_ : Aside0 (gb471 ≠ gb460):=⟨h9_⟩
                have n10_ : Aside0 (Below w.heap.size w w55):=⟨h10_⟩
                clear BK459
                clear BK460
                clear HB
                clear h0_ h1_ h2_ h3_ h4_ h5_ h6_ h7_ h8_ h9_ h10_
                have HO464:=n0_
                have BK459:=n1_
                have BK460:=n2_
                have BK471:=n3_
                have GW471:=n4_
                have GE471:=n5_
                have NB459_471:=n6_
                have NB471_459:=n7_
                have NB460_471:=n8_
                have NB471_460:=n9_
                have HB:=n10_
                clear n0_ n1_ n2_ n3_ n4_ n5_ n6_ n7_ n8_ n9_ n10_
                have hHeld : w55.cell? ⟨gb459,0,none⟩ = some (.int .i64 a0_0)∧w55.cell? ⟨gb459,1,none⟩ = some (.slice A0_1 l0_1.length c0_1)∧w55.cell? ⟨gb460,0,none⟩ = some (.int .i64 a1_0)∧w55.cell? ⟨gb460,1,none⟩ = some (.int .i64 a1_1)∧w55.cell? ⟨gb460,2,none⟩ = some (.slice A1_2 l1_2.length c1_2):=hS_
                refine norm_ (a':=?_) ?_ ?_
                rotate_left
                · simp only [putAll,Act.put,lsA,lsZ,lsS]
                  rfl
                refine two_ (i:=3) (j:=4) (Ni:=some 27) (Nj:=some 7) #[true,true,true,true,false,true,false,false] #[true,true,true,false,true,true,false,false] rfl rfl rfl rfl (two_of HT_.out (by kernel_rfl)) (by decide) (by decide) (fun K hK=>?_) (fun K hK=>?_)
                · skip
                  refine goes_ Try.func12 (by kernel_rfl) rfl #[.agg #[.int .i64 a1_0,.int .i64 a1_1,.slice A1_2 l1_2.length c1_2]] (by rfl) rfl rfl (by(try simp only [List.map_toArray,List.map_cons,List.map_nil]);first|done|rfl) ?_
                  with_reducible refine(undercroftlaw04_one.calls a1_0 a1_1 _ _ l1_2 a1_0 a1_1 l1_2 _ ?side1 ?side2 A6.out).mono ?_
                  (case side1=>repeat (first|exact(Kd.C_below HR1_2.out HB.out)|(with_reducible refine Kd.C_alloc ?_ _)|(with_reducible refine Kd.C_drewN ?_ _)|(with_reducible refine Kd.C_drew ?_)))
                  (case side2=>exact HC1_2.out)
                  rintro e w56 ⟨v468,rfl,ho0,hb⟩
                  refine⟨_,rfl,?_⟩
                  have n0_:=mkA (Kd.S_elder' (by(with_reducible repeat (first|apply Kd.S_alloc|apply Kd.S_drewN|apply Kd.S_drew));exact HO464.out) (Kd.R_base ho0) hb)
                  have n1_:=mkA (Kd.R_lower ho0 (bwZ (by repeat (with_reducible first|exact HB.out|apply bwA|apply bwN|apply bwD|refine bwS ?_ GE459.out|refine bwS ?_ GE460.out|refine bwS ?_ GE471.out))))
                  have n2_:=mkA (bkB (g:=gb459) (o:=.cells #[.int .i64 a0_0,.slice A0_1 l0_1.length c0_1] 24 (0,0)) (by(with_reducible repeat first|apply bkN|apply bkD|apply bkA);exact BK459.out) hb)
                  have n3_:=mkA (bkB (g:=gb460) (o:=.cells #[.int .i64 a1_0,.int .i64 a1_1,.slice A1_2 l1_2.length c1_2] 38 (0,0)) (by(with_reducible repeat first|apply bkN|apply bkD|apply bkA);exact BK460.out) hb)
                  have n4_:=mkA (bkB (g:=gb471) (o:=.cells #[.int .i64 0,.int .i64 0,.slice none 0 0] 40 (0,0)) (by(with_reducible repeat first|apply bkN|apply bkD|apply bkA);exact BK471.out) hb)
                  have n5_:=mkA (below_step (by repeat (with_reducible first|exact HB.out|apply bwA|apply bwN|apply bwD|refine bwS ?_ GE459.out|refine bwS ?_ GE460.out|refine bwS ?_ GE471.out)) hb)
                  clear HO464
                  clear BK459
                  clear BK460
                  clear BK471
                  clear HB
                  have HO464:=n0_
                  have HO469:=n1_
                  have BK459:=n2_
                  have BK460:=n3_
                  have BK471:=n4_
                  have HB:=n5_
                  clear n0_ n1_ n2_ n3_ n4_ n5_
                  (try clear hb)
                  (try clear hb2)
                  (try clear hk)
                  (try clear hi)
                  (try clear ho0)
                  refine hK.out _ _ ⟨(bkC BK459.out 0).trans rfl,(bkC BK459.out 1).trans rfl,(bkC BK460.out 0).trans rfl,(bkC BK460.out 1).trans rfl,(bkC BK460.out 2).trans rfl⟩ (fun hHeld=>?_)
                  clear hK K
                  refine norm_ (a':=?_) ?_ ?_
                  rotate_left
                  · show Act.put _ (some 27) _ = _
                    simp only [Act.put,lsA,lsZ,lsS,i64_w,i32_w]
                    rfl
                  exact norm_ (by first|(simp only [putAll,Act.put,lsA,lsZ,lsS];done)|(simp only [putAll,Act.put,lsA,lsZ,lsS];rfl)) (hJ1_3_5 (v463,v468,gb471) _ ⟨hHeld,(by(with_reducible repeat (first|apply Kd.S_alloc|apply Kd.S_drewN|apply Kd.S_drew));exact Kd.S_mono HO464.out (fun _ hk=>⟨hk.2,hk.1⟩)),(by(with_reducible repeat (first|apply Kd.R_alloc|apply Kd.R_drewN|apply Kd.R_drew));exact HO469.out),(by(with_reducible repeat first|apply bkN|apply bkD|apply bkA);exact BK459.out),(by(with_reducible repeat first|apply bkN|apply bkD|apply bkA);exact BK460.out),(by(with_reducible repeat first|apply bkN|apply bkD|apply bkA);exact BK471.out),GW471.out,GE471.out,NB459_471.out,NB471_459.out,NB460_471.out,NB471_460.out,(by repeat (with_reducible first|exact HB.out|apply bwA|apply bwN|apply bwD|refine bwS ?_ GE459.out|refine bwS ?_ GE460.out|refine bwS ?_ GE471.out))⟩)
                · skip
                  refine box_step ?hg (N:=7) ?hd (cs:=#[.int .i64 0,.slice none 0 0]) (t:=32) ?hr ?_;(case hd=>rfl);(case hg=>rfl);(case hr=>first|(go_simp;done)|(go_simp;rfl))
                  intro gb470 hg w56 hbox hb
                  have n0_:=mkA (Kd.S_below (by(with_reducible repeat (first|apply Kd.S_alloc|apply Kd.S_drewN|apply Kd.S_drew));exact HO464.out) hb)
                  have n1_:=mkA (bkB (g:=gb459) (o:=.cells #[.int .i64 a0_0,.slice A0_1 l0_1.length c0_1] 24 (0,0)) (by(with_reducible repeat first|apply bkN|apply bkD|apply bkA);exact BK459.out) hb)
                  have n2_:=mkA (bkB (g:=gb460) (o:=.cells #[.int .i64 a1_0,.int .i64 a1_1,.slice A1_2 l1_2.length c1_2] 38 (0,0)) (by(with_reducible repeat first|apply bkN|apply bkD|apply bkA);exact BK460.out) hb)
                  have n3_:=mkA (bkB (g:=gb471) (o:=.cells #[.int .i64 0,.int .i64 0,.slice none 0 0] 40 (0,0)) (by(with_reducible repeat first|apply bkN|apply bkD|apply bkA);exact BK471.out) hb)
                  have n4_:=mkA (below_step (by repeat (with_reducible first|exact HB.out|apply bwA|apply bwN|apply bwD|refine bwS ?_ GE459.out|refine bwS ?_ GE460.out|refine bwS ?_ GE471.out)) hb)
                  have n5_:=mkA (hbox)
                  have n6_:=mkA ((by rw [hg];exact(bwZ (by repeat (with_reducible first|exact HB.out|apply bwA|apply bwN|apply bwD|refine bwS ?_ GE459.out|refine bwS ?_ GE460.out|refine bwS ?_ GE471.out))) : w.heap.size ≤ gb470))
                  have n7_:=mkA ((by rw [hg];exact(bwZ (by repeat (with_reducible first|exact HB.out|apply bwA|apply bwN|apply bwD|refine bwS ?_ GE459.out|refine bwS ?_ GE460.out|refine bwS ?_ GE471.out))) : w.heap.size ≤ gb470))
                  have n8_:=mkA ((by rw [hg];exact Nat.ne_of_lt (blk_lt (g:=gb459) (o:=.cells #[.int .i64 a0_0,.slice A0_1 l0_1.length c0_1] 24 (0,0)) (by(with_reducible repeat first|apply bkN|apply bkD|apply bkA);exact BK459.out)) : gb459 ≠ gb470))
                  have n9_:=mkA ((by rw [hg];exact Nat.ne_of_gt (blk_lt (g:=gb459) (o:=.cells #[.int .i64 a0_0,.slice A0_1 l0_1.length c0_1] 24 (0,0)) (by(with_reducible repeat first|apply bkN|apply bkD|apply bkA);exact BK459.out)) : gb470 ≠ gb459))
                  have n10_:=mkA ((by rw [hg];exact Nat.ne_of_lt (blk_lt (g:=gb460) (o:=.cells #[.int .i64 a1_0,.int .i64 a1_1,.slice A1_2 l1_2.length c1_2] 38 (0,0)) (by(with_reducible repeat first|apply bkN|apply bkD|apply bkA);exact BK460.out)) : gb460 ≠ gb470))
                  have n11_:=mkA ((by rw [hg];exact Nat.ne_of_gt (blk_lt (g:=gb460) (o:=.cells #[.int .i64 a1_0,.int .i64 a1_1,.slice A1_2 l1_2.length c1_2] 38 (0,0)) (by(with_reducible repeat first|apply bkN|apply bkD|apply bkA);exact BK460.out)) : gb470 ≠ gb460))
                  have n12_:=mkA ((by rw [hg];exact Nat.ne_of_lt (blk_lt (g:=gb471) (o:=.cells #[.int .i64 0,.int .i64 0,.slice none 0 0] 40 (0,0)) (by(with_reducible repeat first|apply bkN|apply bkD|apply bkA);exact BK471.out)) : gb471 ≠ gb470))
                  have n13_:=mkA ((by rw [hg];exact Nat.ne_of_gt (blk_lt (g:=gb471) (o:=.cells #[.int .i64 0,.int .i64 0,.slice none 0 0] 40 (0,0)) (by(with_reducible repeat first|apply bkN|apply bkD|apply bkA);exact BK471.out)) : gb470 ≠ gb471))
                  clear HO464
                  clear BK459
                  clear BK460
                  clear BK471
                  clear HB
                  have HO464:=n0_
                  have BK459:=n1_
                  have BK460:=n2_
                  have BK471:=n3_
                  have HB:=n4_
                  have BK470:=n5_
                  have GW470:=n6_
                  have GE470:=n7_
                  have NB459_470:=n8_
                  have NB470_459:=n9_
                  have NB460_470:=n10_
                  have NB470_460:=n11_
                  have NB471_470:=n12_
                  have NB470_471:=n13_
                  clear n0_ n1_ n2_ n3_ n4_ n5_ n6_ n7_ n8_ n9_ n10_ n11_ n12_ n13_
                  clear hb hbox hg
                  refine hK.out _ _ ⟨(bkC BK459.out 0).trans rfl,(bkC BK459.out 1).trans rfl,(bkC BK460.out 0).trans rfl,(bkC BK460.out 1).trans rfl,(bkC BK460.out 2).trans rfl⟩ (fun hHeld=>?_)
                  clear hK K
                  refine norm_ (a':=?_) ?_ ?_
                  rotate_left
                  · show Act.put _ (some 7) _ = _
                    simp only [Act.put,lsA,lsZ,lsS,i64_w,i32_w]
                    rfl
                  exact norm_ (by first|(simp only [putAll,Act.put,lsA,lsZ,lsS];done)|(simp only [putAll,Act.put,lsA,lsZ,lsS];rfl)) (hJ1_4_5 (v463,gb470,gb471) _ ⟨hHeld,(by(with_reducible repeat (first|apply Kd.S_alloc|apply Kd.S_drewN|apply Kd.S_drew));exact HO464.out),(by(with_reducible repeat first|apply bkN|apply bkD|apply bkA);exact BK459.out),(by(with_reducible repeat first|apply bkN|apply bkD|apply bkA);exact BK460.out),(by(with_reducible repeat first|apply bkN|apply bkD|apply bkA);exact BK470.out),(by(with_reducible repeat first|apply bkN|apply bkD|apply bkA);exact BK471.out),GW470.out,GE470.out,NB459_470.out,NB470_459.out,NB460_470.out,NB470_460.out,NB471_470.out,NB470_471.out,GW471.out,GE471.out,NB459_471.out,NB471_459.out,NB460_471.out,NB471_460.out,(by repeat (with_reducible first|exact HB.out|apply bwA|apply bwN|apply bwD|refine bwS ?_ GE459.out|refine bwS ?_ GE460.out|refine bwS ?_ GE471.out|refine bwS ?_ GE470.out))⟩)
            · skip
              rintro ⟨v463,gb470⟩ w55 ⟨hS_,h0_,h1_,h2_,h3_,h4_,h5_,h6_,h7_,h8_,h9_,h10_⟩
              have n0_ : Aside0 (Kd.S k40 40 w55 w.heap.size (fun _=>True) v463 lx):=⟨h0_⟩
              have n1_ : Aside0 (w55.heap[gb459]? = some (.cells #[.int .i64 a0_0,.slice A0_1 l0_1.length c0_1] 24 (0,0))):=⟨h1_⟩
              have n2_ : Aside0 (w55.heap[gb460]? = some (.cells #[.int .i64 a1_0,.int .i64 a1_1,.slice A1_2 l1_2.length c1_2] 38 (0,0))):=⟨h2_⟩
              have n3_ : Aside0 (w55.heap[gb470]? = some (.cells #[.int .i64 0,.slice none 0 0] 32 (0,0))):=⟨h3_⟩
              have n4_ : Aside0 (w.heap.size ≤ gb470):=⟨h4_⟩
              have n5_ : Aside0 (w.heap.size ≤ gb470):=⟨h5_⟩
              have n6_ : Aside0 (gb459 ≠ gb470):=⟨h6_⟩
              have n7_ : Aside0 (gb470 ≠ gb459):=⟨h7_⟩
              have n8_ : Aside0 (gb460 ≠ gb470):=⟨h8_⟩
              have n9_ : Aside0 (gb470 ≠ gb460):=⟨h9_⟩
              have n10_ : Aside0 (Below w.heap.size w w55):=⟨h10_⟩
              clear BK459
              clear BK460
              clear HB
              clear h0_ h1_ h2_ h3_ h4_ h5_ h6_ h7_ h8_ h9_ h10_
              have HO464:=n0_
              have BK459:=n1_
              have BK460:=n2_
              have BK470:=n3_
              have GW470:=n4_
              have GE470:=n5_
              have NB459_470:=n6_
              have NB470_459:=n7_
              have NB460_470:=n8_
              have NB470_460:=n9_
              have HB:=n10_
              clear n0_ n1_ n2_ n3_ n4_ n5_ n6_ n7_ n8_ n9_ n10_
              have hHeld : w55.cell? ⟨gb459,0,none⟩ = some (.int .i64 a0_0)∧w55.cell? ⟨gb459,1,none⟩ = some (.slice A0_1 l0_1.length c0_1)∧w55.cell? ⟨gb460,0,none⟩ = some (.int .i64 a1_0)∧w55.cell? ⟨gb460,1,none⟩ = some (.int .i64 a1_1)∧w55.cell? ⟨gb460,2,none⟩ = some (.slice A1_2 l1_2.length c1_2):=hS_
              refine norm_ (a':=?_) ?_ ?_
              rotate_left
              · simp only [putAll,Act.put,lsA,lsZ,lsS]
                rfl
              refine two_ (i:=3) (j:=5) (Ni:=some 27) (Nj:=some 8) #[true,true,true,true,true,false,false,false] #[true,true,true,false,true,true,false,false] rfl rfl rfl rfl (two_of HT_.out (by kernel_rfl)) (by decide) (by decide) (fun K hK=>?_) (fun K hK=>?_)
              · skip
                refine goes_ Try.func12 (by kernel_rfl) rfl #[.agg #[.int .i64 a1_0,.int .i64 a1_1,.slice A1_2 l1_2.length c1_2]] (by rfl) rfl rfl (by(try simp only [List.map_toArray,List.map_cons,List.map_nil]);first|done|rfl) ?_
                with_reducible refine(undercroftlaw04_one.calls a1_0 a1_1 _ _ l1_2 a1_0 a1_1 l1_2 _ ?side1 ?side2 A6.out).mono ?_
                (case side1=>repeat (first|exact(Kd.C_below HR1_2.out HB.out)|(with_reducible refine Kd.C_alloc ?_ _)|(with_reducible refine Kd.C_drewN ?_ _)|(with_reducible refine Kd.C_drew ?_)))
                (case side2=>exact HC1_2.out)
                rintro e w56 ⟨v468,rfl,ho0,hb⟩
                refine⟨_,rfl,?_⟩
                have n0_:=mkA (Kd.S_elder' (by(with_reducible repeat (first|apply Kd.S_alloc|apply Kd.S_drewN|apply Kd.S_drew));exact HO464.out) (Kd.R_base ho0) hb)
                have n1_:=mkA (Kd.R_lower ho0 (bwZ (by repeat (with_reducible first|exact HB.out|apply bwA|apply bwN|apply bwD|refine bwS ?_ GE459.out|refine bwS ?_ GE460.out|refine bwS ?_ GE470.out))))
                have n2_:=mkA (bkB (g:=gb459) (o:=.cells #[.int .i64 a0_0,.slice A0_1 l0_1.length c0_1] 24 (0,0)) (by(with_reducible repeat first|apply bkN|apply bkD|apply bkA);exact BK459.out) hb)
                have n3_:=mkA (bkB (g:=gb460) (o:=.cells #[.int .i64 a1_0,.int .i64 a1_1,.slice A1_2 l1_2.length c1_2] 38 (0,0)) (by(with_reducible repeat first|apply bkN|apply bkD|apply bkA);exact BK460.out) hb)
                have n4_:=mkA (bkB (g:=gb470) (o:=.cells #[.int .i64 0,.slice none 0 0] 32 (0,0)) (by(with_reducible repeat first|apply bkN|apply bkD|apply bkA);exact BK470.out) hb)
                have n5_:=mkA (below_step (by repeat (with_reducible first|exact HB.out|apply bwA|apply bwN|apply bwD|refine bwS ?_ GE459.out|refine bwS ?_ GE460.out|refine bwS ?_ GE470.out)) hb)
                clear HO464
                clear BK459
                clear BK460
                clear BK470
                clear HB
                have HO464:=n0_
                have HO469:=n1_
                have BK459:=n2_
                have BK460:=n3_
                have BK470:=n4_
                have HB:=n5_
                clear n0_ n1_ n2_ n3_ n4_ n5_
                (try clear hb)
                (try clear hb2)
                (try clear hk)
                (try clear hi)
                (try clear ho0)
                refine hK.out _ _ ⟨(bkC BK459.out 0).trans rfl,(bkC BK459.out 1).trans rfl,(bkC BK460.out 0).trans rfl,(bkC BK460.out 1).trans rfl,(bkC BK460.out 2).trans rfl⟩ (fun hHeld=>?_)
                clear hK K
                refine norm_ (a':=?_) ?_ ?_
                rotate_left
                · show Act.put _ (some 27) _ = _
                  simp only [Act.put,lsA,lsZ,lsS,i64_w,i32_w]
                  rfl
                exact norm_ (by first|(simp only [putAll,Act.put,lsA,lsZ,lsS];done)|(simp only [putAll,Act.put,lsA,lsZ,lsS];rfl)) (hJ1_3_4 (v463,v468,gb470) _ ⟨hHeld,(by(with_reducible repeat (first|apply Kd.S_alloc|apply Kd.S_drewN|apply Kd.S_drew));exact Kd.S_mono HO464.out (fun _ hk=>hk.2)),(by(with_reducible repeat (first|apply Kd.R_alloc|apply Kd.R_drewN|apply Kd.R_drew));exact HO469.out),(by(with_reducible repeat first|apply bkN|apply bkD|apply bkA);exact BK459.out),(by(with_reducible repeat first|apply bkN|apply bkD|apply bkA);exact BK460.out),(by(with_reducible repeat first|apply bkN|apply bkD|apply bkA);exact BK470.out),GW470.out,GE470.out,NB459_470.out,NB470_459.out,NB460_470.out,NB470_460.out,(by repeat (with_reducible first|exact HB.out|apply bwA|apply bwN|apply bwD|refine bwS ?_ GE459.out|refine bwS ?_ GE460.out|refine bwS ?_ GE470.out))⟩)
              · skip
                refine box_step ?hg (N:=8) ?hd (cs:=#[.int .i64 0,.int .i64 0,.slice none 0 0]) (t:=40) ?hr ?_;(case hd=>rfl);(case hg=>rfl);(case hr=>first|(go_simp;done)|(go_simp;rfl))
                intro gb471 hg w56 hbox hb
                have n0_:=mkA (Kd.S_below (Kd.S_elderB (by(with_reducible repeat (first|apply Kd.S_alloc|apply Kd.S_drewN|apply Kd.S_drew));exact HO464.out) gb471 (Nat.le_of_eq hg.symm)) hb)
                have n1_:=mkA (bkB (g:=gb459) (o:=.cells #[.int .i64 a0_0,.slice A0_1 l0_1.length c0_1] 24 (0,0)) (by(with_reducible repeat first|apply bkN|apply bkD|apply bkA);exact BK459.out) hb)
                have n2_:=mkA (bkB (g:=gb460) (o:=.cells #[.int .i64 a1_0,.int .i64 a1_1,.slice A1_2 l1_2.length c1_2] 38 (0,0)) (by(with_reducible repeat first|apply bkN|apply bkD|apply bkA);exact BK460.out) hb)
                have n3_:=mkA (bkB (g:=gb470) (o:=.cells #[.int .i64 0,.slice none 0 0] 32 (0,0)) (by(with_reducible repeat first|apply bkN|apply bkD|apply bkA);exact BK470.out) hb)
                have n4_:=mkA (below_step (by repeat (with_reducible first|exact HB.out|apply bwA|apply bwN|apply bwD|refine bwS ?_ GE459.out|refine bwS ?_ GE460.out|refine bwS ?_ GE470.out)) hb)
                have n5_:=mkA (hbox)
                have n6_:=mkA ((by rw [hg];exact(bwZ (by repeat (with_reducible first|exact HB.out|apply bwA|apply bwN|apply bwD|refine bwS ?_ GE459.out|refine bwS ?_ GE460.out|refine bwS ?_ GE470.out))) : w.heap.size ≤ gb471))
                have n7_:=mkA ((by rw [hg];exact(bwZ (by repeat (with_reducible first|exact HB.out|apply bwA|apply bwN|apply bwD|refine bwS ?_ GE459.out|refine bwS ?_ GE460.out|refine bwS ?_ GE470.out))) : w.heap.size ≤ gb471))
                have n8_:=mkA ((by rw [hg];exact Nat.ne_of_lt (blk_lt (g:=gb459) (o:=.cells #[.int .i64 a0_0,.slice A0_1 l0_1.length c0_1] 24 (0,0)) (by(with_reducible repeat first|apply bkN|apply bkD|apply bkA);exact BK459.out)) : gb459 ≠ gb471))
                have n9_:=mkA ((by rw [hg];exact Nat.ne_of_gt (blk_lt (g:=gb459) (o:=.cells #[.int .i64 a0_0,.slice A0_1 l0_1.length c0_1] 24 (0,0)) (by(with_reducible repeat first|apply bkN|apply bkD|apply bkA);exact BK459.out)) : gb471 ≠ gb459))
                have n10_:=mkA ((by rw [hg];exact Nat.ne_of_lt (blk_lt (g:=gb460) (o:=.cells #[.int .i64 a1_0,.int .i64 a1_1,.slice A1_2 l1_2.length c1_2] 38 (0,0)) (by(with_reducible repeat first|apply bkN|apply bkD|apply bkA);exact BK460.out)) : gb460 ≠ gb471))
                have n11_:=mkA ((by rw [hg];exact Nat.ne_of_gt (blk_lt (g:=gb460) (o:=.cells #[.int .i64 a1_0,.int .i64 a1_1,.slice A1_2 l1_2.length c1_2] 38 (0,0)) (by(with_reducible repeat first|apply bkN|apply bkD|apply bkA);exact BK460.out)) : gb471 ≠ gb460))
                have n12_:=mkA ((by rw [hg];exact Nat.ne_of_lt (blk_lt (g:=gb470) (o:=.cells #[.int .i64 0,.slice none 0 0] 32 (0,0)) (by(with_reducible repeat first|apply bkN|apply bkD|apply bkA);exact BK470.out)) : gb470 ≠ gb471))
                have n13_:=mkA ((by rw [hg];exact Nat.ne_of_gt (blk_lt (g:=gb470) (o:=.cells #[.int .i64 0,.slice none 0 0] 32 (0,0)) (by(with_reducible repeat first|apply bkN|apply bkD|apply bkA);exact BK470.out)) : gb471 ≠ gb470))
                clear HO464
                clear BK459
                clear BK460
                clear BK470
                clear HB
                have HO464:=n0_
                have BK459:=n1_
                have BK460:=n2_
                have BK470:=n3_
                have HB:=n4_
                have BK471:=n5_
                have GW471:=n6_
                have GE471:=n7_
                have NB459_471:=n8_
                have NB471_459:=n9_
                have NB460_471:=n10_
                have NB471_460:=n11_
                have NB470_471:=n12_
                have NB471_470:=n13_
                clear n0_ n1_ n2_ n3_ n4_ n5_ n6_ n7_ n8_ n9_ n10_ n11_ n12_ n13_
                clear hb hbox hg
                refine hK.out _ _ ⟨(bkC BK459.out 0).trans rfl,(bkC BK459.out 1).trans rfl,(bkC BK460.out 0).trans rfl,(bkC BK460.out 1).trans rfl,(bkC BK460.out 2).trans rfl⟩ (fun hHeld=>?_)
                clear hK K
                refine norm_ (a':=?_) ?_ ?_
                rotate_left
                · show Act.put _ (some 8) _ = _
                  simp only [Act.put,lsA,lsZ,lsS,i64_w,i32_w]
                  rfl
                exact norm_ (by first|(simp only [putAll,Act.put,lsA,lsZ,lsS];done)|(simp only [putAll,Act.put,lsA,lsZ,lsS];rfl)) (hJ1_4_5 (v463,gb470,gb471) _ ⟨hHeld,(by(with_reducible repeat (first|apply Kd.S_alloc|apply Kd.S_drewN|apply Kd.S_drew));exact Kd.S_mono HO464.out (fun _ hk=>hk.2)),(by(with_reducible repeat first|apply bkN|apply bkD|apply bkA);exact BK459.out),(by(with_reducible repeat first|apply bkN|apply bkD|apply bkA);exact BK460.out),(by(with_reducible repeat first|apply bkN|apply bkD|apply bkA);exact BK470.out),(by(with_reducible repeat first|apply bkN|apply bkD|apply bkA);exact BK471.out),GW470.out,GE470.out,NB459_470.out,NB470_459.out,NB460_470.out,NB470_460.out,NB471_470.out,NB470_471.out,GW471.out,GE471.out,NB459_471.out,NB471_459.out,NB460_471.out,NB471_460.out,(by repeat (with_reducible first|exact HB.out|apply bwA|apply bwN|apply bwD|refine bwS ?_ GE459.out|refine bwS ?_ GE460.out|refine bwS ?_ GE470.out|refine bwS ?_ GE471.out))⟩)
          · skip
            rintro ⟨v463,v468⟩ w55 ⟨hS_,h0_,h1_,h2_,h3_,h4_⟩
            have n0_ : Aside0 (Kd.S k40 40 w55 w.heap.size (fun k_=>some k_ ≠ (v468 : Value).ownBlock) v463 lx):=⟨h0_⟩
            have n1_ : Aside0 (Kd.R (Kd.int .u8) 5 w55 w.heap.size (fun _=>True) v468 l1_2):=⟨h1_⟩
            have n2_ : Aside0 (w55.heap[gb459]? = some (.cells #[.int .i64 a0_0,.slice A0_1 l0_1.length c0_1] 24 (0,0))):=⟨h2_⟩
            have n3_ : Aside0 (w55.heap[gb460]? = some (.cells #[.int .i64 a1_0,.int .i64 a1_1,.slice A1_2 l1_2.length c1_2] 38 (0,0))):=⟨h3_⟩
            have n4_ : Aside0 (Below w.heap.size w w55):=⟨h4_⟩
            clear BK459
            clear BK460
            clear HB
            clear h0_ h1_ h2_ h3_ h4_
            have HO464:=n0_
            have HO469:=n1_
            have BK459:=n2_
            have BK460:=n3_
            have HB:=n4_
            clear n0_ n1_ n2_ n3_ n4_
            have hHeld : w55.cell? ⟨gb459,0,none⟩ = some (.int .i64 a0_0)∧w55.cell? ⟨gb459,1,none⟩ = some (.slice A0_1 l0_1.length c0_1)∧w55.cell? ⟨gb460,0,none⟩ = some (.int .i64 a1_0)∧w55.cell? ⟨gb460,1,none⟩ = some (.int .i64 a1_1)∧w55.cell? ⟨gb460,2,none⟩ = some (.slice A1_2 l1_2.length c1_2):=hS_
            refine norm_ (a':=?_) ?_ ?_
            rotate_left
            · simp only [putAll,Act.put,lsA,lsZ,lsS]
              rfl
            refine two_ (i:=4) (j:=5) (Ni:=some 7) (Nj:=some 8) #[true,true,true,true,true,false,false,false] #[true,true,true,true,false,true,false,false] rfl rfl rfl rfl (two_of HT_.out (by kernel_rfl)) (by decide) (by decide) (fun K hK=>?_) (fun K hK=>?_)
            · skip
              refine box_step ?hg (N:=7) ?hd (cs:=#[.int .i64 0,.slice none 0 0]) (t:=32) ?hr ?_;(case hd=>rfl);(case hg=>rfl);(case hr=>first|(go_simp;done)|(go_simp;rfl))
              intro gb470 hg w56 hbox hb
              have n0_:=mkA (Kd.S_below (by(with_reducible repeat (first|apply Kd.S_alloc|apply Kd.S_drewN|apply Kd.S_drew));exact HO464.out) hb)
              have n1_:=mkA (Kd.R_below (by(with_reducible repeat (first|apply Kd.R_alloc|apply Kd.R_drewN|apply Kd.R_drew));exact HO469.out) hb)
              have n2_:=mkA (bkB (g:=gb459) (o:=.cells #[.int .i64 a0_0,.slice A0_1 l0_1.length c0_1] 24 (0,0)) (by(with_reducible repeat first|apply bkN|apply bkD|apply bkA);exact BK459.out) hb)
              have n3_:=mkA (bkB (g:=gb460) (o:=.cells #[.int .i64 a1_0,.int .i64 a1_1,.slice A1_2 l1_2.length c1_2] 38 (0,0)) (by(with_reducible repeat first|apply bkN|apply bkD|apply bkA);exact BK460.out) hb)
              have n4_:=mkA (below_step (by repeat (with_reducible first|exact HB.out|apply bwA|apply bwN|apply bwD|refine bwS ?_ GE459.out|refine bwS ?_ GE460.out)) hb)
              have n5_:=mkA (hbox)
              have n6_:=mkA ((by rw [hg];exact(bwZ (by repeat (with_reducible first|exact HB.out|apply bwA|apply bwN|apply bwD|refine bwS ?_ GE459.out|refine bwS ?_ GE460.out))) : w.heap.size ≤ gb470))
              have n7_:=mkA ((by rw [hg];exact(bwZ (by repeat (with_reducible first|exact HB.out|apply bwA|apply bwN|apply bwD|refine bwS ?_ GE459.out|refine bwS ?_ GE460.out))) : w.heap.size ≤ gb470))
              have n8_:=mkA ((by rw [hg];exact Nat.ne_of_lt (blk_lt (g:=gb459) (o:=.cells #[.int .i64 a0_0,.slice A0_1 l0_1.length c0_1] 24 (0,0)) (by(with_reducible repeat first|apply bkN|apply bkD|apply bkA);exact BK459.out)) : gb459 ≠ gb470))
              have n9_:=mkA ((by rw [hg];exact Nat.ne_of_gt (blk_lt (g:=gb459) (o:=.cells #[.int .i64 a0_0,.slice A0_1 l0_1.length c0_1] 24 (0,0)) (by(with_reducible repeat first|apply bkN|apply bkD|apply bkA);exact BK459.out)) : gb470 ≠ gb459))
              have n10_:=mkA ((by rw [hg];exact Nat.ne_of_lt (blk_lt (g:=gb460) (o:=.cells #[.int .i64 a1_0,.int .i64 a1_1,.slice A1_2 l1_2.length c1_2] 38 (0,0)) (by(with_reducible repeat first|apply bkN|apply bkD|apply bkA);exact BK460.out)) : gb460 ≠ gb470))
              have n11_:=mkA ((by rw [hg];exact Nat.ne_of_gt (blk_lt (g:=gb460) (o:=.cells #[.int .i64 a1_0,.int .i64 a1_1,.slice A1_2 l1_2.length c1_2] 38 (0,0)) (by(with_reducible repeat first|apply bkN|apply bkD|apply bkA);exact BK460.out)) : gb470 ≠ gb460))
              clear HO464
              clear HO469
              clear BK459
              clear BK460
              clear HB
              have HO464:=n0_
              have HO469:=n1_
              have BK459:=n2_
              have BK460:=n3_
              have HB:=n4_
              have BK470:=n5_
              have GW470:=n6_
              have GE470:=n7_
              have NB459_470:=n8_
              have NB470_459:=n9_
              have NB460_470:=n10_
              have NB470_460:=n11_
              clear n0_ n1_ n2_ n3_ n4_ n5_ n6_ n7_ n8_ n9_ n10_ n11_
              clear hb hbox hg
              refine hK.out _ _ ⟨(bkC BK459.out 0).trans rfl,(bkC BK459.out 1).trans rfl,(bkC BK460.out 0).trans rfl,(bkC BK460.out 1).trans rfl,(bkC BK460.out 2).trans rfl⟩ (fun hHeld=>?_)
              clear hK K
              refine norm_ (a':=?_) ?_ ?_
              rotate_left
              · show Act.put _ (some 7) _ = _
                simp only [Act.put,lsA,lsZ,lsS,i64_w,i32_w]
                rfl
              exact norm_ (by first|(simp only [putAll,Act.put,lsA,lsZ,lsS];done)|(simp only [putAll,Act.put,lsA,lsZ,lsS];rfl)) (hJ1_3_4 (v463,v468,gb470) _ ⟨hHeld,(by(with_reducible repeat (first|apply Kd.S_alloc|apply Kd.S_drewN|apply Kd.S_drew));exact HO464.out),(by(with_reducible repeat (first|apply Kd.R_alloc|apply Kd.R_drewN|apply Kd.R_drew));exact HO469.out),(by(with_reducible repeat first|apply bkN|apply bkD|apply bkA);exact BK459.out),(by(with_reducible repeat first|apply bkN|apply bkD|apply bkA);exact BK460.out),(by(with_reducible repeat first|apply bkN|apply bkD|apply bkA);exact BK470.out),GW470.out,GE470.out,NB459_470.out,NB470_459.out,NB460_470.out,NB470_460.out,(by repeat (with_reducible first|exact HB.out|apply bwA|apply bwN|apply bwD|refine bwS ?_ GE459.out|refine bwS ?_ GE460.out|refine bwS ?_ GE470.out))⟩)
            · skip
              refine box_step ?hg (N:=8) ?hd (cs:=#[.int .i64 0,.int .i64 0,.slice none 0 0]) (t:=40) ?hr ?_;(case hd=>rfl);(case hg=>rfl);(case hr=>first|(go_simp;done)|(go_simp;rfl))
              intro gb471 hg w56 hbox hb
              have n0_:=mkA (Kd.S_below (Kd.S_elderB (by(with_reducible repeat (first|apply Kd.S_alloc|apply Kd.S_drewN|apply Kd.S_drew));exact HO464.out) gb471 (Nat.le_of_eq hg.symm)) hb)
              have n1_:=mkA (Kd.R_below (by(with_reducible repeat (first|apply Kd.R_alloc|apply Kd.R_drewN|apply Kd.R_drew));exact HO469.out) hb)
              have n2_:=mkA (bkB (g:=gb459) (o:=.cells #[.int .i64 a0_0,.slice A0_1 l0_1.length c0_1] 24 (0,0)) (by(with_reducible repeat first|apply bkN|apply bkD|apply bkA);exact BK459.out) hb)
              have n3_:=mkA (bkB (g:=gb460) (o:=.cells #[.int .i64 a1_0,.int .i64 a1_1,.slice A1_2 l1_2.length c1_2] 38 (0,0)) (by(with_reducible repeat first|apply bkN|apply bkD|apply bkA);exact BK460.out) hb)
              have n4_:=mkA (below_step (by repeat (with_reducible first|exact HB.out|apply bwA|apply bwN|apply bwD|refine bwS ?_ GE459.out|refine bwS ?_ GE460.out)) hb)
              have n5_:=mkA (hbox)
              have n6_:=mkA ((by rw [hg];exact(bwZ (by repeat (with_reducible first|exact HB.out|apply bwA|apply bwN|apply bwD|refine bwS ?_ GE459.out|refine bwS ?_ GE460.out))) : w.heap.size ≤ gb471))
              have n7_:=mkA ((by rw [hg];exact(bwZ (by repeat (with_reducible first|exact HB.out|apply bwA|apply bwN|apply bwD|refine bwS ?_ GE459.out|refine bwS ?_ GE460.out))) : w.heap.size ≤ gb471))
              have n8_:=mkA ((by rw [hg];exact Nat.ne_of_lt (blk_lt (g:=gb459) (o:=.cells #[.int .i64 a0_0,.slice A0_1 l0_1.length c0_1] 24 (0,0)) (by(with_reducible repeat first|apply bkN|apply bkD|apply bkA);exact BK459.out)) : gb459 ≠ gb471))
              have n9_:=mkA ((by rw [hg];exact Nat.ne_of_gt (blk_lt (g:=gb459) (o:=.cells #[.int .i64 a0_0,.slice A0_1 l0_1.length c0_1] 24 (0,0)) (by(with_reducible repeat first|apply bkN|apply bkD|apply bkA);exact BK459.out)) : gb471 ≠ gb459))
              have n10_:=mkA ((by rw [hg];exact Nat.ne_of_lt (blk_lt (g:=gb460) (o:=.cells #[.int .i64 a1_0,.int .i64 a1_1,.slice A1_2 l1_2.length c1_2] 38 (0,0)) (by(with_reducible repeat first|apply bkN|apply bkD|apply bkA);exact BK460.out)) : gb460 ≠ gb471))
              have n11_:=mkA ((by rw [hg];exact Nat.ne_of_gt (blk_lt (g:=gb460) (o:=.cells #[.int .i64 a1_0,.int .i64 a1_1,.slice A1_2 l1_2.length c1_2] 38 (0,0)) (by(with_reducible repeat first|apply bkN|apply bkD|apply bkA);exact BK460.out)) : gb471 ≠ gb460))
              clear HO464
              clear HO469
              clear BK459
              clear BK460
              clear HB
              have HO464:=n0_
              have HO469:=n1_
              have BK459:=n2_
              have BK460:=n3_
              have HB:=n4_
              have BK471:=n5_
              have GW471:=n6_
              have GE471:=n7_
              have NB459_471:=n8_
              have NB471_459:=n9_
              have NB460_471:=n10_
              have NB471_460:=n11_
              clear n0_ n1_ n2_ n3_ n4_ n5_ n6_ n7_ n8_ n9_ n10_ n11_
              clear hb hbox hg
              refine hK.out _ _ ⟨(bkC BK459.out 0).trans rfl,(bkC BK459.out 1).trans rfl,(bkC BK460.out 0).trans rfl,(bkC BK460.out 1).trans rfl,(bkC BK460.out 2).trans rfl⟩ (fun hHeld=>?_)
              clear hK K
              refine norm_ (a':=?_) ?_ ?_
              rotate_left
              · show Act.put _ (some 8) _ = _
                simp only [Act.put,lsA,lsZ,lsS,i64_w,i32_w]
                rfl
              exact norm_ (by first|(simp only [putAll,Act.put,lsA,lsZ,lsS];done)|(simp only [putAll,Act.put,lsA,lsZ,lsS];rfl)) (hJ1_3_5 (v463,v468,gb471) _ ⟨hHeld,(by(with_reducible repeat (first|apply Kd.S_alloc|apply Kd.S_drewN|apply Kd.S_drew));exact HO464.out),(by(with_reducible repeat (first|apply Kd.R_alloc|apply Kd.R_drewN|apply Kd.R_drew));exact HO469.out),(by(with_reducible repeat first|apply bkN|apply bkD|apply bkA);exact BK459.out),(by(with_reducible repeat first|apply bkN|apply bkD|apply bkA);exact BK460.out),(by(with_reducible repeat first|apply bkN|apply bkD|apply bkA);exact BK471.out),GW471.out,GE471.out,NB459_471.out,NB471_459.out,NB460_471.out,NB471_460.out,(by repeat (with_reducible first|exact HB.out|apply bwA|apply bwN|apply bwD|refine bwS ?_ GE459.out|refine bwS ?_ GE460.out|refine bwS ?_ GE471.out))⟩)
        · skip
          rintro ⟨v463,gb470,gb471⟩ w56 ⟨hS_,h0_,h1_,h2_,h3_,h4_,h5_,h6_,h7_,h8_,h9_,h10_,h11_,h12_,h13_,h14_,h15_,h16_,h17_,h18_,h19_⟩
          have n0_ : Aside0 (Kd.S k40 40 w56 w.heap.size (fun k_=>k_ ≠ gb471) v463 lx):=⟨h0_⟩
          have n1_ : Aside0 (w56.heap[gb459]? = some (.cells #[.int .i64 a0_0,.slice A0_1 l0_1.length c0_1] 24 (0,0))):=⟨h1_⟩
          have n2_ : Aside0 (w56.heap[gb460]? = some (.cells #[.int .i64 a1_0,.int .i64 a1_1,.slice A1_2 l1_2.length c1_2] 38 (0,0))):=⟨h2_⟩
          have n3_ : Aside0 (w56.heap[gb470]? = some (.cells #[.int .i64 0,.slice none 0 0] 32 (0,0))):=⟨h3_⟩
          have n4_ : Aside0 (w56.heap[gb471]? = some (.cells #[.int .i64 0,.int .i64 0,.slice none 0 0] 40 (0,0))):=⟨h4_⟩
          have n5_ : Aside0 (w.heap.size ≤ gb470):=⟨h5_⟩
          have n6_ : Aside0 (w.heap.size ≤ gb470):=⟨h6_⟩
          have n7_ : Aside0 (gb459 ≠ gb470):=⟨h7_⟩
          have n8_ : Aside0 (gb470 ≠ gb459):=⟨h8_⟩
          have n9_ : Aside0 (gb460 ≠ gb470):=⟨h9_⟩
          have n10_ : Aside0 (gb470 ≠ gb460):=⟨h10_⟩
          have n11_ : Aside0 (gb471 ≠ gb470):=⟨h11_⟩
          have n12_ : Aside0 (gb470 ≠ gb471):=⟨h12_⟩
          have n13_ : Aside0 (w.heap.size ≤ gb471):=⟨h13_⟩
          have n14_ : Aside0 (w.heap.size ≤ gb471):=⟨h14_⟩
          have n15_ : Aside0 (gb459 ≠ gb471):=⟨h15_⟩
          have n16_ : Aside0 (gb471 ≠ gb459):=⟨h16_⟩
          have n17_ : Aside0 (gb460 ≠ gb471):=⟨h17_⟩
          have n18_ : Aside0 (gb471 ≠ gb460):=⟨h18_⟩
          have n19_ : Aside0 (Below w.heap.size w w56):=⟨h19_⟩
          clear BK459
          clear BK460
          clear HB
          clear h0_ h1_ h2_ h3_ h4_ h5_ h6_ h7_ h8_ h9_ h10_ h11_ h12_ h13_ h14_ h15_ h16_ h17_ h18_ h19_
          have HO464:=n0_
          have BK459:=n1_
          have BK460:=n2_
          have BK470:=n3_
          have BK471:=n4_
          have GW470:=n5_
          have GE470:=n6_
          have NB459_470:=n7_
          have NB470_459:=n8_
          have NB460_470:=n9_
          have NB470_460:=n10_
          have NB471_470:=n11_
          have NB470_471:=n12_
          have GW471:=n13_
          have GE471:=n14_
          have NB459_471:=n15_
          have NB471_459:=n16_
          have NB460_471:=n17_
          have NB471_460:=n18_
          have HB:=n19_
          clear n0_ n1_ n2_ n3_ n4_ n5_ n6_ n7_ n8_ n9_ n10_ n11_ n12_ n13_ n14_ n15_ n16_ n17_ n18_ n19_
          have hHeld : w56.cell? ⟨gb459,0,none⟩ = some (.int .i64 a0_0)∧w56.cell? ⟨gb459,1,none⟩ = some (.slice A0_1 l0_1.length c0_1)∧w56.cell? ⟨gb460,0,none⟩ = some (.int .i64 a1_0)∧w56.cell? ⟨gb460,1,none⟩ = some (.int .i64 a1_1)∧w56.cell? ⟨gb460,2,none⟩ = some (.slice A1_2 l1_2.length c1_2):=hS_
          refine norm_ (a':=?_) ?_ ?_
          rotate_left
          · simp only [putAll,Act.put,lsA,lsZ,lsS]
            rfl
          refine one_ (i:=3) (N:=some 27) #[true,true,true,true,true,true,false,false] rfl rfl (one_of HT_.out (by kernel_rfl)) (by decide) (fun K hK=>?_)
          refine goes_ Try.func12 (by kernel_rfl) rfl #[.agg #[.int .i64 a1_0,.int .i64 a1_1,.slice A1_2 l1_2.length c1_2]] (by rfl) rfl rfl (by(try simp only [List.map_toArray,List.map_cons,List.map_nil]);first|done|rfl) ?_
          with_reducible refine(undercroftlaw04_one.calls a1_0 a1_1 _ _ l1_2 a1_0 a1_1 l1_2 _ ?side1 ?side2 A6.out).mono ?_
          (case side1=>repeat (first|exact(Kd.C_below HR1_2.out HB.out)|(with_reducible refine Kd.C_alloc ?_ _)|(with_reducible refine Kd.C_drewN ?_ _)|(with_reducible refine Kd.C_drew ?_)))
          (case side2=>exact HC1_2.out)
          rintro e w57 ⟨v468,rfl,ho0,hb⟩
          refine⟨_,rfl,?_⟩
          have n0_:=mkA (Kd.S_elder' (by(with_reducible repeat (first|apply Kd.S_alloc|apply Kd.S_drewN|apply Kd.S_drew));exact HO464.out) (Kd.R_base ho0) hb)
          have n1_:=mkA (Kd.R_lower ho0 (bwZ (by repeat (with_reducible first|exact HB.out|apply bwA|apply bwN|apply bwD|refine bwS ?_ GE459.out|refine bwS ?_ GE460.out|refine bwS ?_ GE470.out|refine bwS ?_ GE471.out))))
          have n2_:=mkA (bkB (g:=gb459) (o:=.cells #[.int .i64 a0_0,.slice A0_1 l0_1.length c0_1] 24 (0,0)) (by(with_reducible repeat first|apply bkN|apply bkD|apply bkA);exact BK459.out) hb)
          have n3_:=mkA (bkB (g:=gb460) (o:=.cells #[.int .i64 a1_0,.int .i64 a1_1,.slice A1_2 l1_2.length c1_2] 38 (0,0)) (by(with_reducible repeat first|apply bkN|apply bkD|apply bkA);exact BK460.out) hb)
          have n4_:=mkA (bkB (g:=gb470) (o:=.cells #[.int .i64 0,.slice none 0 0] 32 (0,0)) (by(with_reducible repeat first|apply bkN|apply bkD|apply bkA);exact BK470.out) hb)
          have n5_:=mkA (bkB (g:=gb471) (o:=.cells #[.int .i64 0,.int .i64 0,.slice none 0 0] 40 (0,0)) (by(with_reducible repeat first|apply bkN|apply bkD|apply bkA);exact BK471.out) hb)
          have n6_:=mkA (below_step (by repeat (with_reducible first|exact HB.out|apply bwA|apply bwN|apply bwD|refine bwS ?_ GE459.out|refine bwS ?_ GE460.out|refine bwS ?_ GE470.out|refine bwS ?_ GE471.out)) hb)
          clear HO464
          clear BK459
          clear BK460
          clear BK470
          clear BK471
          clear HB
          have HO464:=n0_
          have HO469:=n1_
          have BK459:=n2_
          have BK460:=n3_
          have BK470:=n4_
          have BK471:=n5_
          have HB:=n6_
          clear n0_ n1_ n2_ n3_ n4_ n5_ n6_
          (try clear hb)
          (try clear hb2)
          (try clear hk)
          (try clear hi)
          (try clear ho0)
          refine hK.out _ _ ⟨(bkC BK459.out 0).trans rfl,(bkC BK459.out 1).trans rfl,(bkC BK460.out 0).trans rfl,(bkC BK460.out 1).trans rfl,(bkC BK460.out 2).trans rfl⟩ (fun hHeld=>?_)
          clear hK K
          refine norm_ (a':=?_) ?_ ?_
          rotate_left
          · show Act.put _ (some 27) _ = _
            simp only [Act.put,lsA,lsZ,lsS,i64_w,i32_w]
            rfl
          exact norm_ (by first|(simp only [putAll,Act.put,lsA,lsZ,lsS];done)|(simp only [putAll,Act.put,lsA,lsZ,lsS];rfl)) (hJ1_3_4_5 (v463,v468,gb470,gb471) _ ⟨hHeld,(by(with_reducible repeat (first|apply Kd.S_alloc|apply Kd.S_drewN|apply Kd.S_drew));exact Kd.S_mono HO464.out (fun _ hk=>⟨hk.2,hk.1⟩)),(by(with_reducible repeat (first|apply Kd.R_alloc|apply Kd.R_drewN|apply Kd.R_drew));exact HO469.out),(by(with_reducible repeat first|apply bkN|apply bkD|apply bkA);exact BK459.out),(by(with_reducible repeat first|apply bkN|apply bkD|apply bkA);exact BK460.out),(by(with_reducible repeat first|apply bkN|apply bkD|apply bkA);exact BK470.out),(by(with_reducible repeat first|apply bkN|apply bkD|apply bkA);exact BK471.out),GW470.out,GE470.out,NB459_470.out,NB470_459.out,NB460_470.out,NB470_460.out,NB471_470.out,NB470_471.out,GW471.out,GE471.out,NB459_471.out,NB471_459.out,NB460_471.out,NB471_460.out,(by repeat (with_reducible first|exact HB.out|apply bwA|apply bwN|apply bwD|refine bwS ?_ GE459.out|refine bwS ?_ GE460.out|refine bwS ?_ GE470.out|refine bwS ?_ GE471.out))⟩)
      · skip
        rintro ⟨v463,v468,gb471⟩ w56 ⟨hS_,h0_,h1_,h2_,h3_,h4_,h5_,h6_,h7_,h8_,h9_,h10_,h11_⟩
        have n0_ : Aside0 (Kd.S k40 40 w56 w.heap.size (fun k_=>some k_ ≠ (v468 : Value).ownBlock∧k_ ≠ gb471) v463 lx):=⟨h0_⟩
        have n1_ : Aside0 (Kd.R (Kd.int .u8) 5 w56 w.heap.size (fun _=>True) v468 l1_2):=⟨h1_⟩
        have n2_ : Aside0 (w56.heap[gb459]? = some (.cells #[.int .i64 a0_0,.slice A0_1 l0_1.length c0_1] 24 (0,0))):=⟨h2_⟩
        have n3_ : Aside0 (w56.heap[gb460]? = some (.cells #[.int .i64 a1_0,.int .i64 a1_1,.slice A1_2 l1_2.length c1_2] 38 (0,0))):=⟨h3_⟩
        have n4_ : Aside0 (w56.heap[gb471]? = some (.cells #[.int .i64 0,.int .i64 0,.slice none 0 0] 40 (0,0))):=⟨h4_⟩
        have n5_ : Aside0 (w.heap.size ≤ gb471):=⟨h5_⟩
        have n6_ : Aside0 (w.heap.size ≤ gb471):=⟨h6_⟩
        have n7_ : Aside0 (gb459 ≠ gb471):=⟨h7_⟩
        have n8_ : Aside0 (gb471 ≠ gb459):=⟨h8_⟩
        have n9_ : Aside0 (gb460 ≠ gb471):=⟨h9_⟩
        have n10_ : Aside0 (gb471 ≠ gb460):=⟨h10_⟩
        have n11_ : Aside0 (Below w.heap.size w w56):=⟨h11_⟩
        clear BK459
        clear BK460
        clear HB
        clear h0_ h1_ h2_ h3_ h4_ h5_ h6_ h7_ h8_ h9_ h10_ h11_
        have HO464:=n0_
        have HO469:=n1_
        have BK459:=n2_
        have BK460:=n3_
        have BK471:=n4_
        have GW471:=n5_
        have GE471:=n6_
        have NB459_471:=n7_
        have NB471_459:=n8_
        have NB460_471:=n9_
        have NB471_460:=n10_
        have HB:=n11_
        clear n0_ n1_ n2_ n3_ n4_ n5_ n6_ n7_ n8_ n9_ n10_ n11_
        have hHeld : w56.cell? ⟨gb459,0,none⟩ = some (.int .i64 a0_0)∧w56.cell? ⟨gb459,1,none⟩ = some (.slice A0_1 l0_1.length c0_1)∧w56.cell? ⟨gb460,0,none⟩ = some (.int .i64 a1_0)∧w56.cell? ⟨gb460,1,none⟩ = some (.int .i64 a1_1)∧w56.cell? ⟨gb460,2,none⟩ = some (.slice A1_2 l1_2.length c1_2):=hS_
        refine norm_ (a':=?_) ?_ ?_
        rotate_left
        · simp only [putAll,Act.put,lsA,lsZ,lsS]
          rfl
        refine one_ (i:=4) (N:=some 7) #[true,true,true,true,true,true,false,false] rfl rfl (one_of HT_.out (by kernel_rfl)) (by decide) (fun K hK=>?_)
        refine box_step ?hg (N:=7) ?hd (cs:=#[.int .i64 0,.slice none 0 0]) (t:=32) ?hr ?_;(case hd=>rfl);(case hg=>rfl);(case hr=>first|(go_simp;done)|(go_simp;rfl))
        intro gb470 hg w57 hbox hb
        have n0_:=mkA (Kd.S_below (by(with_reducible repeat (first|apply Kd.S_alloc|apply Kd.S_drewN|apply Kd.S_drew));exact HO464.out) hb)
        have n1_:=mkA (Kd.R_below (by(with_reducible repeat (first|apply Kd.R_alloc|apply Kd.R_drewN|apply Kd.R_drew));exact HO469.out) hb)
        have n2_:=mkA (bkB (g:=gb459) (o:=.cells #[.int .i64 a0_0,.slice A0_1 l0_1.length c0_1] 24 (0,0)) (by(with_reducible repeat first|apply bkN|apply bkD|apply bkA);exact BK459.out) hb)
        have n3_:=mkA (bkB (g:=gb460) (o:=.cells #[.int .i64 a1_0,.int .i64 a1_1,.slice A1_2 l1_2.length c1_2] 38 (0,0)) (by(with_reducible repeat first|apply bkN|apply bkD|apply bkA);exact BK460.out) hb)
        have n4_:=mkA (bkB (g:=gb471) (o:=.cells #[.int .i64 0,.int .i64 0,.slice none 0 0] 40 (0,0)) (by(with_reducible repeat first|apply bkN|apply bkD|apply bkA);exact BK471.out) hb)
        have n5_:=mkA (below_step (by repeat (with_reducible first|exact HB.out|apply bwA|apply bwN|apply bwD|refine bwS ?_ GE459.out|refine bwS ?_ GE460.out|refine bwS ?_ GE471.out)) hb)
        have n6_:=mkA (hbox)
        have n7_:=mkA ((by rw [hg];exact(bwZ (by repeat (with_reducible first|exact HB.out|apply bwA|apply bwN|apply bwD|refine bwS ?_ GE459.out|refine bwS ?_ GE460.out|refine bwS ?_ GE471.out))) : w.heap.size ≤ gb470))
        have n8_:=mkA ((by rw [hg];exact(bwZ (by repeat (with_reducible first|exact HB.out|apply bwA|apply bwN|apply bwD|refine bwS ?_ GE459.out|refine bwS ?_ GE460.out|refine bwS ?_ GE471.out))) : w.heap.size ≤ gb470))
        have n9_:=mkA ((by rw [hg];exact Nat.ne_of_lt (blk_lt (g:=gb459) (o:=.cells #[.int .i64 a0_0,.slice A0_1 l0_1.length c0_1] 24 (0,0)) (by(with_reducible repeat first|apply bkN|apply bkD|apply bkA);exact BK459.out)) : gb459 ≠ gb470))
        have n10_:=mkA ((by rw [hg];exact Nat.ne_of_gt (blk_lt (g:=gb459) (o:=.cells #[.int .i64 a0_0,.slice A0_1 l0_1.length c0_1] 24 (0,0)) (by(with_reducible repeat first|apply bkN|apply bkD|apply bkA);exact BK459.out)) : gb470 ≠ gb459))
        have n11_:=mkA ((by rw [hg];exact Nat.ne_of_lt (blk_lt (g:=gb460) (o:=.cells #[.int .i64 a1_0,.int .i64 a1_1,.slice A1_2 l1_2.length c1_2] 38 (0,0)) (by(with_reducible repeat first|apply bkN|apply bkD|apply bkA);exact BK460.out)) : gb460 ≠ gb470))
        have n12_:=mkA ((by rw [hg];exact Nat.ne_of_gt (blk_lt (g:=gb460) (o:=.cells #[.int .i64 a1_0,.int .i64 a1_1,.slice A1_2 l1_2.length c1_2] 38 (0,0)) (by(with_reducible repeat first|apply bkN|apply bkD|apply bkA);exact BK460.out)) : gb470 ≠ gb460))
        have n13_:=mkA ((by rw [hg];exact Nat.ne_of_lt (blk_lt (g:=gb471) (o:=.cells #[.int .i64 0,.int .i64 0,.slice none 0 0] 40 (0,0)) (by(with_reducible repeat first|apply bkN|apply bkD|apply bkA);exact BK471.out)) : gb471 ≠ gb470))
        have n14_:=mkA ((by rw [hg];exact Nat.ne_of_gt (blk_lt (g:=gb471) (o:=.cells #[.int .i64 0,.int .i64 0,.slice none 0 0] 40 (0,0)) (by(with_reducible repeat first|apply bkN|apply bkD|apply bkA);exact BK471.out)) : gb470 ≠ gb471))
        clear HO464
        clear HO469
        clear BK459
        clear BK460
        clear BK471
        clear HB
        have HO464:=n0_
        have HO469:=n1_
        have BK459:=n2_
        have BK460:=n3_
        have BK471:=n4_
        have HB:=n5_
        have BK470:=n6_
        have GW470:=n7_
        have GE470:=n8_
        have NB459_470:=n9_
        have NB470_459:=n10_
        have NB460_470:=n11_
        have NB470_460:=n12_
        have NB471_470:=n13_
        have NB470_471:=n14_
        clear n0_ n1_ n2_ n3_ n4_ n5_ n6_ n7_ n8_ n9_ n10_ n11_ n12_ n13_ n14_
        clear hb hbox hg
        refine hK.out _ _ ⟨(bkC BK459.out 0).trans rfl,(bkC BK459.out 1).trans rfl,(bkC BK460.out 0).trans rfl,(bkC BK460.out 1).trans rfl,(bkC BK460.out 2).trans rfl⟩ (fun hHeld=>?_)
        clear hK K
        refine norm_ (a':=?_) ?_ ?_
        rotate_left
        · show Act.put _ (some 7) _ = _
          simp only [Act.put,lsA,lsZ,lsS,i64_w,i32_w]
          rfl
        exact norm_ (by first|(simp only [putAll,Act.put,lsA,lsZ,lsS];done)|(simp only [putAll,Act.put,lsA,lsZ,lsS];rfl)) (hJ1_3_4_5 (v463,v468,gb470,gb471) _ ⟨hHeld,(by(with_reducible repeat (first|apply Kd.S_alloc|apply Kd.S_drewN|apply Kd.S_drew));exact HO464.out),(by(with_reducible repeat (first|apply Kd.R_alloc|apply Kd.R_drewN|apply Kd.R_drew));exact HO469.out),(by(with_reducible repeat first|apply bkN|apply bkD|apply bkA);exact BK459.out),(by(with_reducible repeat first|apply bkN|apply bkD|apply bkA);exact BK460.out),(by(with_reducible repeat first|apply bkN|apply bkD|apply bkA);exact BK470.out),(by(with_reducible repeat first|apply bkN|apply bkD|apply bkA);exact BK471.out),GW470.out,GE470.out,NB459_470.out,NB470_459.out,NB460_470.out,NB470_460.out,NB471_470.out,NB470_471.out,GW471.out,GE471.out,NB459_471.out,NB471_459.out,NB460_471.out,NB471_460.out,(by repeat (with_reducible first|exact HB.out|apply bwA|apply bwN|apply bwD|refine bwS ?_ GE459.out|refine bwS ?_ GE460.out|refine bwS ?_ GE471.out|refine bwS ?_ GE470.out))⟩)
    · skip
      rintro ⟨v463,v468,gb470⟩ w56 ⟨hS_,h0_,h1_,h2_,h3_,h4_,h5_,h6_,h7_,h8_,h9_,h10_,h11_⟩
      have n0_ : Aside0 (Kd.S k40 40 w56 w.heap.size (fun k_=>some k_ ≠ (v468 : Value).ownBlock) v463 lx):=⟨h0_⟩
      have n1_ : Aside0 (Kd.R (Kd.int .u8) 5 w56 w.heap.size (fun _=>True) v468 l1_2):=⟨h1_⟩
      have n2_ : Aside0 (w56.heap[gb459]? = some (.cells #[.int .i64 a0_0,.slice A0_1 l0_1.length c0_1] 24 (0,0))):=⟨h2_⟩
      have n3_ : Aside0 (w56.heap[gb460]? = some (.cells #[.int .i64 a1_0,.int .i64 a1_1,.slice A1_2 l1_2.length c1_2] 38 (0,0))):=⟨h3_⟩
      have n4_ : Aside0 (w56.heap[gb470]? = some (.cells #[.int .i64 0,.slice none 0 0] 32 (0,0))):=⟨h4_⟩
      have n5_ : Aside0 (w.heap.size ≤ gb470):=⟨h5_⟩
      have n6_ : Aside0 (w.heap.size ≤ gb470):=⟨h6_⟩
      have n7_ : Aside0 (gb459 ≠ gb470):=⟨h7_⟩
      have n8_ : Aside0 (gb470 ≠ gb459):=⟨h8_⟩
      have n9_ : Aside0 (gb460 ≠ gb470):=⟨h9_⟩
      have n10_ : Aside0 (gb470 ≠ gb460):=⟨h10_⟩
      have n11_ : Aside0 (Below w.heap.size w w56):=⟨h11_⟩
      clear BK459
      clear BK460
      clear HB
      clear h0_ h1_ h2_ h3_ h4_ h5_ h6_ h7_ h8_ h9_ h10_ h11_
      have HO464:=n0_
      have HO469:=n1_
      have BK459:=n2_
      have BK460:=n3_
      have BK470:=n4_
      have GW470:=n5_
      have GE470:=n6_
      have NB459_470:=n7_
      have NB470_459:=n8_
      have NB460_470:=n9_
      have NB470_460:=n10_
      have HB:=n11_
      clear n0_ n1_ n2_ n3_ n4_ n5_ n6_ n7_ n8_ n9_ n10_ n11_
      have hHeld : w56.cell? ⟨gb459,0,none⟩ = some (.int .i64 a0_0)∧w56.cell? ⟨gb459,1,none⟩ = some (.slice A0_1 l0_1.length c0_1)∧w56.cell? ⟨gb460,0,none⟩ = some (.int .i64 a1_0)∧w56.cell? ⟨gb460,1,none⟩ = some (.int .i64 a1_1)∧w56.cell? ⟨gb460,2,none⟩ = some (.slice A1_2 l1_2.length c1_2):=hS_
      refine norm_ (a':=?_) ?_ ?_
      rotate_left
      · simp only [putAll,Act.put,lsA,lsZ,lsS]
        rfl
      refine one_ (i:=5) (N:=some 8) #[true,true,true,true,true,true,false,false] rfl rfl (one_of HT_.out (by kernel_rfl)) (by decide) (fun K hK=>?_)
      refine box_step ?hg (N:=8) ?hd (cs:=#[.int .i64 0,.int .i64 0,.slice none 0 0]) (t:=40) ?hr ?_;(case hd=>rfl);(case hg=>rfl);(case hr=>first|(go_simp;done)|(go_simp;rfl))
      intro gb471 hg w57 hbox hb
      have n0_:=mkA (Kd.S_below (Kd.S_elderB (by(with_reducible repeat (first|apply Kd.S_alloc|apply Kd.S_drewN|apply Kd.S_drew));exact HO464.out) gb471 (Nat.le_of_eq hg.symm)) hb)
      have n1_:=mkA (Kd.R_below (by(with_reducible repeat (first|apply Kd.R_alloc|apply Kd.R_drewN|apply Kd.R_drew));exact HO469.out) hb)
      have n2_:=mkA (bkB (g:=gb459) (o:=.cells #[.int .i64 a0_0,.slice A0_1 l0_1.length c0_1] 24 (0,0)) (by(with_reducible repeat first|apply bkN|apply bkD|apply bkA);exact BK459.out) hb)
      have n3_:=mkA (bkB (g:=gb460) (o:=.cells #[.int .i64 a1_0,.int .i64 a1_1,.slice A1_2 l1_2.length c1_2] 38 (0,0)) (by(with_reducible repeat first|apply bkN|apply bkD|apply bkA);exact BK460.out) hb)
      have n4_:=mkA (bkB (g:=gb470) (o:=.cells #[.int .i64 0,.slice none 0 0] 32 (0,0)) (by(with_reducible repeat first|apply bkN|apply bkD|apply bkA);exact BK470.out) hb)
      have n5_:=mkA (below_step (by repeat (with_reducible first|exact HB.out|apply bwA|apply bwN|apply bwD|refine bwS ?_ GE459.out|refine bwS ?_ GE460.out|refine bwS ?_ GE470.out)) hb)
      have n6_:=mkA (hbox)
      have n7_:=mkA ((by rw [hg];exact(bwZ (by repeat (with_reducible first|exact HB.out|apply bwA|apply bwN|apply bwD|refine bwS ?_ GE459.out|refine bwS ?_ GE460.out|refine bwS ?_ GE470.out))) : w.heap.size ≤ gb471))
      have n8_:=mkA ((by rw [hg];exact(bwZ (by repeat (with_reducible first|exact HB.out|apply bwA|apply bwN|apply bwD|refine bwS ?_ GE459.out|refine bwS ?_ GE460.out|refine bwS ?_ GE470.out))) : w.heap.size ≤ gb471))
      have n9_:=mkA ((by rw [hg];exact Nat.ne_of_lt (blk_lt (g:=gb459) (o:=.cells #[.int .i64 a0_0,.slice A0_1 l0_1.length c0_1] 24 (0,0)) (by(with_reducible repeat first|apply bkN|apply bkD|apply bkA);exact BK459.out)) : gb459 ≠ gb471))
      have n10_:=mkA ((by rw [hg];exact Nat.ne_of_gt (blk_lt (g:=gb459) (o:=.cells #[.int .i64 a0_0,.slice A0_1 l0_1.length c0_1] 24 (0,0)) (by(with_reducible repeat first|apply bkN|apply bkD|apply bkA);exact BK459.out)) : gb471 ≠ gb459))
      have n11_:=mkA ((by rw [hg];exact Nat.ne_of_lt (blk_lt (g:=gb460) (o:=.cells #[.int .i64 a1_0,.int .i64 a1_1,.slice A1_2 l1_2.length c1_2] 38 (0,0)) (by(with_reducible repeat first|apply bkN|apply bkD|apply bkA);exact BK460.out)) : gb460 ≠ gb471))
      have n12_:=mkA ((by rw [hg];exact Nat.ne_of_gt (blk_lt (g:=gb460) (o:=.cells #[.int .i64 a1_0,.int .i64 a1_1,.slice A1_2 l1_2.length c1_2] 38 (0,0)) (by(with_reducible repeat first|apply bkN|apply bkD|apply bkA);exact BK460.out)) : gb471 ≠ gb460))
      have n13_:=mkA ((by rw [hg];exact Nat.ne_of_lt (blk_lt (g:=gb470) (o:=.cells #[.int .i64 0,.slice none 0 0] 32 (0,0)) (by(with_reducible repeat first|apply bkN|apply bkD|apply bkA);exact BK470.out)) : gb470 ≠ gb471))
      have n14_:=mkA ((by rw [hg];exact Nat.ne_of_gt (blk_lt (g:=gb470) (o:=.cells #[.int .i64 0,.slice none 0 0] 32 (0,0)) (by(with_reducible repeat first|apply bkN|apply bkD|apply bkA);exact BK470.out)) : gb471 ≠ gb470))
      clear HO464
      clear HO469
      clear BK459
      clear BK460
      clear BK470
      clear HB
      have HO464:=n0_
      have HO469:=n1_
      have BK459:=n2_
      have BK460:=n3_
      have BK470:=n4_
      have HB:=n5_
      have BK471:=n6_
      have GW471:=n7_
      have GE471:=n8_
      have NB459_471:=n9_
      have NB471_459:=n10_
      have NB460_471:=n11_
      have NB471_460:=n12_
      have NB470_471:=n13_
      have NB471_470:=n14_
      clear n0_ n1_ n2_ n3_ n4_ n5_ n6_ n7_ n8_ n9_ n10_ n11_ n12_ n13_ n14_
      clear hb hbox hg
      refine hK.out _ _ ⟨(bkC BK459.out 0).trans rfl,(bkC BK459.out 1).trans rfl,(bkC BK460.out 0).trans rfl,(bkC BK460.out 1).trans rfl,(bkC BK460.out 2).trans rfl⟩ (fun hHeld=>?_)
      clear hK K
      refine norm_ (a':=?_) ?_ ?_
      rotate_left
      · show Act.put _ (some 8) _ = _
        simp only [Act.put,lsA,lsZ,lsS,i64_w,i32_w]
        rfl
      exact norm_ (by first|(simp only [putAll,Act.put,lsA,lsZ,lsS];done)|(simp only [putAll,Act.put,lsA,lsZ,lsS];rfl)) (hJ1_3_4_5 (v463,v468,gb470,gb471) _ ⟨hHeld,(by(with_reducible repeat (first|apply Kd.S_alloc|apply Kd.S_drewN|apply Kd.S_drew));exact HO464.out),(by(with_reducible repeat (first|apply Kd.R_alloc|apply Kd.R_drewN|apply Kd.R_drew));exact HO469.out),(by(with_reducible repeat first|apply bkN|apply bkD|apply bkA);exact BK459.out),(by(with_reducible repeat first|apply bkN|apply bkD|apply bkA);exact BK460.out),(by(with_reducible repeat first|apply bkN|apply bkD|apply bkA);exact BK470.out),(by(with_reducible repeat first|apply bkN|apply bkD|apply bkA);exact BK471.out),GW470.out,GE470.out,NB459_470.out,NB470_459.out,NB460_470.out,NB470_460.out,NB471_470.out,NB470_471.out,GW471.out,GE471.out,NB459_471.out,NB471_459.out,NB460_471.out,NB471_460.out,(by repeat (with_reducible first|exact HB.out|apply bwA|apply bwN|apply bwD|refine bwS ?_ GE459.out|refine bwS ?_ GE460.out|refine bwS ?_ GE470.out|refine bwS ?_ GE471.out))⟩)
  rintro ⟨v463,v468,gb470,gb471⟩ w57 ⟨hS_,h0_,h1_,h2_,h3_,h4_,h5_,h6_,h7_,h8_,h9_,h10_,h11_,h12_,h13_,h14_,h15_,h16_,h17_,h18_,h19_,h20_⟩
  have n0_ : Aside0 (Kd.S k40 40 w57 w.heap.size (fun k_=>some k_ ≠ (v468 : Value).ownBlock∧k_ ≠ gb471) v463 lx):=⟨h0_⟩
  have n1_ : Aside0 (Kd.R (Kd.int .u8) 5 w57 w.heap.size (fun _=>True) v468 l1_2):=⟨h1_⟩
  have n2_ : Aside0 (w57.heap[gb459]? = some (.cells #[.int .i64 a0_0,.slice A0_1 l0_1.length c0_1] 24 (0,0))):=⟨h2_⟩
  have n3_ : Aside0 (w57.heap[gb460]? = some (.cells #[.int .i64 a1_0,.int .i64 a1_1,.slice A1_2 l1_2.length c1_2] 38 (0,0))):=⟨h3_⟩
  have n4_ : Aside0 (w57.heap[gb470]? = some (.cells #[.int .i64 0,.slice none 0 0] 32 (0,0))):=⟨h4_⟩
  have n5_ : Aside0 (w57.heap[gb471]? = some (.cells #[.int .i64 0,.int .i64 0,.slice none 0 0] 40 (0,0))):=⟨h5_⟩
  have n6_ : Aside0 (w.heap.size ≤ gb470):=⟨h6_⟩
  have n7_ : Aside0 (w.heap.size ≤ gb470):=⟨h7_⟩
  have n8_ : Aside0 (gb459 ≠ gb470):=⟨h8_⟩
  have n9_ : Aside0 (gb470 ≠ gb459):=⟨h9_⟩
  have n10_ : Aside0 (gb460 ≠ gb470):=⟨h10_⟩
  have n11_ : Aside0 (gb470 ≠ gb460):=⟨h11_⟩
  have n12_ : Aside0 (gb471 ≠ gb470):=⟨h12_⟩
  have n13_ : Aside0 (gb470 ≠ gb471):=⟨h13_⟩
  have n14_ : Aside0 (w.heap.size ≤ gb471):=⟨h14_⟩
  have n15_ : Aside0 (w.heap.size ≤ gb471):=⟨h15_⟩
  have n16_ : Aside0 (gb459 ≠ gb471):=⟨h16_⟩
  have n17_ : Aside0 (gb471 ≠ gb459):=⟨h17_⟩
  have n18_ : Aside0 (gb460 ≠ gb471):=⟨h18_⟩
  have n19_ : Aside0 (gb471 ≠ gb460):=⟨h19_⟩
  have n20_ : Aside0 (Below w.heap.size w w57):=⟨h20_⟩
  clear BK459
  clear BK460
  clear HB
  clear h0_ h1_ h2_ h3_ h4_ h5_ h6_ h7_ h8_ h9_ h10_ h11_ h12_ h13_ h14_ h15_ h16_ h17_ h18_ h19_ h20_
  have HO464:=n0_
  have HO469:=n1_
  have BK459:=n2_
  have BK460:=n3_
  have BK470:=n4_
  have BK471:=n5_
  have GW470:=n6_
  have GE470:=n7_
  have NB459_470:=n8_
  have NB470_459:=n9_
  have NB460_470:=n10_
  have NB470_460:=n11_
  have NB471_470:=n12_
  have NB470_471:=n13_
  have GW471:=n14_
  have GE471:=n15_
  have NB459_471:=n16_
  have NB471_459:=n17_
  have NB460_471:=n18_
  have NB471_460:=n19_
  have HB:=n20_
  clear n0_ n1_ n2_ n3_ n4_ n5_ n6_ n7_ n8_ n9_ n10_ n11_ n12_ n13_ n14_ n15_ n16_ n17_ n18_ n19_ n20_
  have hHeld : w57.cell? ⟨gb459,0,none⟩ = some (.int .i64 a0_0)∧w57.cell? ⟨gb459,1,none⟩ = some (.slice A0_1 l0_1.length c0_1)∧w57.cell? ⟨gb460,0,none⟩ = some (.int .i64 a1_0)∧w57.cell? ⟨gb460,1,none⟩ = some (.int .i64 a1_1)∧w57.cell? ⟨gb460,2,none⟩ = some (.slice A1_2 l1_2.length c1_2):=hS_
  obtain ⟨Ao59,co59,eo59⟩:=Kd.S_slice HO464.out
  (first|subst eo59|(injection eo59 with f1_ f2_ f3_;have f4_:=f1_.symm;have f5_:=f3_.symm;clear f1_ f2_ f3_;subst f4_;subst f5_))
  obtain ⟨Ao63,co63,eo63⟩:=Kd.R_slice HO469.out
  (first|subst eo63|(injection eo63 with f1_ f2_ f3_;have f4_:=f1_.symm;have f5_:=f3_.symm;clear f1_ f2_ f3_;subst f4_;subst f5_))
  refine norm_ (a':=?_) ?_ ?_
  rotate_left
  · simp only [putAll,Act.put,lsA,lsZ,lsS]
    rfl
  refine one_ (i:=6) (N:=none) #[true,true,true,true,true,true,true,false] rfl rfl (one_of HT_.out (by kernel_rfl)) (by decide) (fun K hK=>?_)
  have hs58 : w57.cell? ⟨gb470,0,none⟩ = some (.int .i64 0):=(bkC BK470.out 0).trans rfl
  have hfs58:=bkF BK470.out 0
  have hns58_0:=NB459_470.out
  have hns58_1:=NB460_470.out
  have hns58_3:=NB471_470.out
  have hms58_0:=NB470_459.out
  have hms58_1:=NB470_460.out
  have hms58_3:=NB470_471.out
  have hs60 : w57.cell? ⟨gb470,1,none⟩ = some (.slice none 0 0):=(bkC BK470.out 1).trans rfl
  have hfs60:=bkF BK470.out 1
  have hns60_0:=NB459_470.out
  have hns60_1:=NB460_470.out
  have hns60_3:=NB471_470.out
  have hms60_0:=NB470_459.out
  have hms60_1:=NB470_460.out
  have hms60_3:=NB470_471.out
  refine skip_ (w1:=?_) (by rfl) rfl ?_ ?_
  rotate_left
  · go_simp
    rfl
  refine hK.out _ _ ⟨((cell_far (p:=⟨gb470,_,none⟩) NB459_470.out _).trans (((cell_far (p:=⟨gb470,_,none⟩) NB459_470.out _).trans (hHeld.1)))),((cell_far (p:=⟨gb470,_,none⟩) NB459_470.out _).trans (((cell_far (p:=⟨gb470,_,none⟩) NB459_470.out _).trans (hHeld.2.1)))),((cell_far (p:=⟨gb470,_,none⟩) NB460_470.out _).trans (((cell_far (p:=⟨gb470,_,none⟩) NB460_470.out _).trans (hHeld.2.2.1)))),((cell_far (p:=⟨gb470,_,none⟩) NB460_470.out _).trans (((cell_far (p:=⟨gb470,_,none⟩) NB460_470.out _).trans (hHeld.2.2.2.1)))),((cell_far (p:=⟨gb470,_,none⟩) NB460_470.out _).trans (((cell_far (p:=⟨gb470,_,none⟩) NB460_470.out _).trans (hHeld.2.2.2.2))))⟩ (fun hHeld=>?_)
  clear hK K
  refine one_ (i:=7) (N:=none) #[true,true,true,true,true,true,true,true] rfl rfl (one_of HT_.out (by kernel_rfl)) (by decide) (fun K hK=>?_)
  have hs61 : w57.cell? ⟨gb471,0,none⟩ = some (.int .i64 0):=(bkC BK471.out 0).trans rfl
  have hfs61:=bkF BK471.out 0
  have hns61_0:=NB459_471.out
  have hns61_1:=NB460_471.out
  have hns61_2:=NB470_471.out
  have hms61_0:=NB471_459.out
  have hms61_1:=NB471_460.out
  have hms61_2:=NB471_470.out
  have hs62 : w57.cell? ⟨gb471,1,none⟩ = some (.int .i64 0):=(bkC BK471.out 1).trans rfl
  have hfs62:=bkF BK471.out 1
  have hns62_0:=NB459_471.out
  have hns62_1:=NB460_471.out
  have hns62_2:=NB470_471.out
  have hms62_0:=NB471_459.out
  have hms62_1:=NB471_460.out
  have hms62_2:=NB471_470.out
  have hs64 : w57.cell? ⟨gb471,2,none⟩ = some (.slice none 0 0):=(bkC BK471.out 2).trans rfl
  have hfs64:=bkF BK471.out 2
  have hns64_0:=NB459_471.out
  have hns64_1:=NB460_471.out
  have hns64_2:=NB470_471.out
  have hms64_0:=NB471_459.out
  have hms64_1:=NB471_460.out
  have hms64_2:=NB471_470.out
  refine skip_ (w1:=?_) (by rfl) rfl ?_ ?_
  rotate_left
  · go_simp
    rfl
  refine hK.out _ _ ⟨((cell_far (p:=⟨gb471,_,none⟩) NB459_471.out _).trans (((cell_far (p:=⟨gb471,_,none⟩) NB459_471.out _).trans (((cell_far (p:=⟨gb471,_,none⟩) NB459_471.out _).trans (hHeld.1)))))),((cell_far (p:=⟨gb471,_,none⟩) NB459_471.out _).trans (((cell_far (p:=⟨gb471,_,none⟩) NB459_471.out _).trans (((cell_far (p:=⟨gb471,_,none⟩) NB459_471.out _).trans (hHeld.2.1)))))),((cell_far (p:=⟨gb471,_,none⟩) NB460_471.out _).trans (((cell_far (p:=⟨gb471,_,none⟩) NB460_471.out _).trans (((cell_far (p:=⟨gb471,_,none⟩) NB460_471.out _).trans (hHeld.2.2.1)))))),((cell_far (p:=⟨gb471,_,none⟩) NB460_471.out _).trans (((cell_far (p:=⟨gb471,_,none⟩) NB460_471.out _).trans (((cell_far (p:=⟨gb471,_,none⟩) NB460_471.out _).trans (hHeld.2.2.2.1)))))),((cell_far (p:=⟨gb471,_,none⟩) NB460_471.out _).trans (((cell_far (p:=⟨gb471,_,none⟩) NB460_471.out _).trans (((cell_far (p:=⟨gb471,_,none⟩) NB460_471.out _).trans (hHeld.2.2.2.2))))))⟩ (fun hHeld=>?_)
  clear hK K
  refine done_ (done_of HT_.out (by kernel_rfl)) ?_
  have hnb65:=NB470_459.out
  have hnc65:=NB459_470.out
  have hnb66:=NB470_460.out
  have hnc66:=NB460_470.out
  have hnb67:=NB470_471.out
  have hnc67:=NB471_470.out
  have hcz68_0 : w57.cell? ⟨gb470,0,none⟩ = some (.int .i64 0):=(bkC BK470.out 0).trans rfl
  have hcz68_1 : w57.cell? ⟨gb470,1,none⟩ = some (.slice none 0 0):=(bkC BK470.out 1).trans rfl
  have hfz68_0:=bkF BK470.out 0
  have hfz68_1:=bkF BK470.out 1
  have hnb69:=NB471_459.out
  have hnc69:=NB459_471.out
  have hnb70:=NB471_460.out
  have hnc70:=NB460_471.out
  have hcz71_0 : w57.cell? ⟨gb471,0,none⟩ = some (.int .i64 0):=(bkC BK471.out 0).trans rfl
  have hcz71_1 : w57.cell? ⟨gb471,1,none⟩ = some (.int .i64 0):=(bkC BK471.out 1).trans rfl
  have hcz71_2 : w57.cell? ⟨gb471,2,none⟩ = some (.slice none 0 0):=(bkC BK471.out 2).trans rfl
  have hfz71_0:=bkF BK471.out 0
  have hfz71_1:=bkF BK471.out 1
  have hfz71_2:=bkF BK471.out 2
  have k9 : (((((w57.setCell ⟨gb470,0,none⟩ (.int .i64 a0_0)).setCell ⟨gb470,1,none⟩ (.slice Ao59 lx.length co59)).setCell ⟨gb471,0,none⟩ (.int .i64 a1_0)).setCell ⟨gb471,1,none⟩ (.int .i64 a1_1)).setCell ⟨gb471,2,none⟩ (.slice Ao63 l1_2.length co63)).heap[gb470]? = some (.cells #[.int .i64 a0_0,.slice Ao59 lx.length co59] 32 (0,0)):=blk_far (blk_far (blk_far (blk_put (cs:=#[.int .i64 a0_0,.slice none 0 0]) (blk_put (cs:=#[.int .i64 0,.slice none 0 0]) BK470.out 0 _ rfl) 1 _ rfl) hnb67 _) hnb67 _) hnb67 _
  have k10 : (((((w57.setCell ⟨gb470,0,none⟩ (.int .i64 a0_0)).setCell ⟨gb470,1,none⟩ (.slice Ao59 lx.length co59)).setCell ⟨gb471,0,none⟩ (.int .i64 a1_0)).setCell ⟨gb471,1,none⟩ (.int .i64 a1_1)).setCell ⟨gb471,2,none⟩ (.slice Ao63 l1_2.length co63)).heap[gb471]? = some (.cells #[.int .i64 a1_0,.int .i64 a1_1,.slice Ao63 l1_2.length co63] 40 (0,0)):=blk_put (cs:=#[.int .i64 a1_0,.int .i64 a1_1,.slice none 0 0]) (blk_put (cs:=#[.int .i64 a1_0,.int .i64 0,.slice none 0 0]) (blk_put (cs:=#[.int .i64 0,.int .i64 0,.slice none 0 0]) (blk_far (blk_far BK471.out hnc67 _) hnc67 _) 0 _ rfl) 1 _ rfl) 2 _ rfl
  have k4 : (((((w57.setCell ⟨gb470,0,none⟩ (.int .i64 a0_0)).setCell ⟨gb470,1,none⟩ (.slice Ao59 lx.length co59)).setCell ⟨gb471,0,none⟩ (.int .i64 a1_0)).setCell ⟨gb471,1,none⟩ (.int .i64 a1_1)).setCell ⟨gb471,2,none⟩ (.slice Ao63 l1_2.length co63)).heap[gb459]? = some (.cells #[.int .i64 a0_0,.slice A0_1 l0_1.length c0_1] 24 (0,0)):=blk_far (blk_far (blk_far (blk_far (blk_far BK459.out hnc65 _) hnc65 _) hnc69 _) hnc69 _) hnc69 _
  have k5 : (((((w57.setCell ⟨gb470,0,none⟩ (.int .i64 a0_0)).setCell ⟨gb470,1,none⟩ (.slice Ao59 lx.length co59)).setCell ⟨gb471,0,none⟩ (.int .i64 a1_0)).setCell ⟨gb471,1,none⟩ (.int .i64 a1_1)).setCell ⟨gb471,2,none⟩ (.slice Ao63 l1_2.length co63)).heap[gb460]? = some (.cells #[.int .i64 a1_0,.int .i64 a1_1,.slice A1_2 l1_2.length c1_2] 38 (0,0)):=blk_far (blk_far (blk_far (blk_far (blk_far BK460.out hnc66 _) hnc66 _) hnc70 _) hnc70 _) hnc70 _
  have hB : Below w.heap.size w (((((w57.setCell ⟨gb470,0,none⟩ (.int .i64 a0_0)).setCell ⟨gb470,1,none⟩ (.slice Ao59 lx.length co59)).setCell ⟨gb471,0,none⟩ (.int .i64 a1_0)).setCell ⟨gb471,1,none⟩ (.int .i64 a1_1)).setCell ⟨gb471,2,none⟩ (.slice Ao63 l1_2.length co63)):=bwS (bwS (bwS (bwS (bwS HB.out GE470.out) GE470.out) GE471.out) GE471.out) GE471.out
  have b32:=blk_put (cs:=#[.int .i64 0,.slice none 0 0]) BK470.out 0 (.int .i64 a0_0) rfl
  have ss : Kd.S k40 40 (((((w57.setCell ⟨gb470,0,none⟩ (.int .i64 a0_0)).setCell ⟨gb470,1,none⟩ (.slice Ao59 lx.length co59)).setCell ⟨gb471,0,none⟩ (.int .i64 a1_0)).setCell ⟨gb471,1,none⟩ (.int .i64 a1_1)).setCell ⟨gb471,2,none⟩ (.slice Ao63 l1_2.length co63)) w.heap.size (fun k_=>some k_ ≠ (Value.slice Ao63 l1_2.length co63).ownBlock∧k_ ≠ gb471) (.slice Ao59 lx.length co59) lx:=Kd.S_far (Kd.S_far (Kd.S_far (Kd.S_set (Kd.S_set HO464.out BK470.out (by decide) 0 _) b32 (by decide) 1 _) (fun k hk=>hk.2) _) (fun k hk=>hk.2) _) (fun k hk=>hk.2) _
  have c40 : ((w57.setCell ⟨gb470,0,none⟩ (.int .i64 a0_0)).setCell ⟨gb470,1,none⟩ (.slice Ao59 lx.length co59)).heap[gb471]? = some (.cells #[.int .i64 0,.int .i64 0,.slice none 0 0] 40 (0,0)):=blk_far (blk_far BK471.out hnc67 _) hnc67 _
  have c41:=blk_put (cs:=#[.int .i64 0,.int .i64 0,.slice none 0 0]) c40 0 (.int .i64 a1_0) rfl
  have c42:=blk_put (cs:=#[.int .i64 a1_0,.int .i64 0,.slice none 0 0]) c41 1 (.int .i64 a1_1) rfl
  have rr : (Kd.int .u8).R 5 (((((w57.setCell ⟨gb470,0,none⟩ (.int .i64 a0_0)).setCell ⟨gb470,1,none⟩ (.slice Ao59 lx.length co59)).setCell ⟨gb471,0,none⟩ (.int .i64 a1_0)).setCell ⟨gb471,1,none⟩ (.int .i64 a1_1)).setCell ⟨gb471,2,none⟩ (.slice Ao63 l1_2.length co63)) w.heap.size (fun _=>True) (.slice Ao63 l1_2.length co63) l1_2:=Kd.R_set (Kd.R_set (Kd.R_set (Kd.R_set (Kd.R_set HO469.out BK470.out (by decide) 0 _) b32 (by decide) 1 _) c40 (by decide) 0 _) c41 (by decide) 1 _) c42 (by decide) 2 _
  refine(‹∀ (a : Act) (w : World),Code.wp Try.prog _ _ a w→_›) _ _ ?_
  exact NetOwn.rest k a0_0 A0_1 c0_1 l0_1 a1_0 a1_1 A1_2 c1_2 l1_2 a2 lx sa sl sm sb se ta tl tm t0 t1 td te w _ gb459 gb460 gb470 gb471 Ao59 co59 Ao63 co63 ⟨k4⟩ ⟨k5⟩ ⟨k9⟩ ⟨k10⟩ ⟨Kd.C_below HR0_1.out hB⟩ HC0_1 ⟨Kd.C_below HR1_2.out hB⟩ HC1_2 ⟨Kd.S_mono ss (fun _ hk=>hk.1)⟩ ⟨rr⟩ ⟨hB⟩ h1.out h2.out h3.out h4.out g1.out g2.out g3.out
end Go.Proofs.Ytgglmibbbjallaa.T
