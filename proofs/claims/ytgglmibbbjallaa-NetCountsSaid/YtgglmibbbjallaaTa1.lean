/- This text tells functions of the seat as plain functions, with their contracts, as the machine's calls meet them. -/
import Derived.Test.YtgglmibbbjallaaTa0
namespace Go.Proofs.Ytgglmibbbjallaa.T
open Go.RowKit Go.Proofs.YtgglmibbbjallaaW.PrintWords Go.Proofs.YtgglmibbbjallaaW.PrintLast Go.Proofs.YtgglmibbbjallaaW.PrintMore
attribute [local go_sem] max2_int min2_int max_two min_two max_three min_three max_four min_four   -- for this text's walks alone
set_option linter.unusedVariables false
set_option linter.unusedSimpArgs false

/-! ### net_Packet_check: function 30 -/
def net_Packet_check.j0 : Nat→Bool→Int→Int→List Int→Option (Int)
  | 0,_,_,_,_=>none
  | k + 1,x3,x102000,x102001,x102002=>if x3 = true then(some 4) else(if(x102002.length : Int) > 4096 then(some 5) else(some 0))
def net_Packet_check.f (k : Nat) (a0_0 : Int) (a0_1 : Int) (l0_2 : List Int) : Option (Int):=if(mn a0_0 a0_1) < 0 then(net_Packet_check.j0 k true a0_0 a0_1 l0_2) else(net_Packet_check.j0 k (decide ((mx a0_0 a0_1) ≥ 9)) a0_0 a0_1 l0_2)
theorem net_Packet_check.mono_l : ∀ k,(∀ y0 y1 y2 y3,LeO (net_Packet_check.j0 k y0 y1 y2 y3) (net_Packet_check.j0 (k + 1) y0 y1 y2 y3))
  | 0=>fun _ _ _ _ r h=>by simp [net_Packet_check.j0] at h
  | k + 1=>by
    have ih0:=net_Packet_check.mono_l k
    · intro y0 y1 y2 y3
      unfold net_Packet_check.j0
      repeat' first
      | (with_reducible exact ih0 _ _ _ _)
      | (with_reducible exact LeO.refl _)
      | (with_reducible exact LeO.none _)
      | (with_reducible refine LeO.ite ?_ ?_)
      | (with_reducible refine LeO.bind ?_ (fun _=>?_))
      | exact ih0 _ _ _ _
      | exact LeO.none _
      | refine LeO.ite ?_ ?_
      | refine LeO.bind ?_ (fun _=>?_)
theorem net_Packet_check.mono : ∀ a0 a1 a2 k,LeO (net_Packet_check.f k a0 a1 a2) (net_Packet_check.f (k + 1) a0 a1 a2):=by
  intro a0 a1 a2 k
  have ih0:=net_Packet_check.mono_l k
  unfold net_Packet_check.f
  repeat' first
      | (with_reducible exact ih0 _ _ _ _)
      | (with_reducible exact LeO.refl _)
      | (with_reducible exact LeO.none _)
      | (with_reducible refine LeO.ite ?_ ?_)
      | (with_reducible refine LeO.bind ?_ (fun _=>?_))
      | exact ih0 _ _ _ _
      | exact LeO.none _
      | refine LeO.ite ?_ ?_
      | refine LeO.bind ?_ (fun _=>?_)
set_option maxHeartbeats 8000000 in
set_option maxRecDepth 100000 in
theorem net_Packet_check.calls (k : Nat) (a0_0 : Int) (a0_1 : Int) (A0_2 : Option Addr) (c0_2 : Nat) (l0_2 : List Int) (r : Int) (w : World) (hr0_2 : Kd.C (Kd.int .u8) w A0_2 l0_2.length l0_2) (hc0_2 : l0_2.length ≤ c0_2) (h : net_Packet_check.f k a0_0 a0_1 l0_2 = some r) :
    Calls Try.prog 30 #[.agg #[.int .i64 a0_0,.int .i64 a0_1,.slice A0_2 l0_2.length c0_2]] w fun e w'=>e = .returned (.int .i64 r)∧Below w.heap.size w w':=by
  have hu40:=Try.underlying40
  have HR0_2:=mkA hr0_2
  have HC0_2:=mkA hc0_2
  clear hr0_2 hc0_2
  have HB:=mkA (Below.refl w.heap.size w)
  have H : (if(mn a0_0 a0_1) < 0 then(net_Packet_check.j0 k true a0_0 a0_1 l0_2) else(net_Packet_check.j0 k (decide ((mx a0_0 a0_1) ≥ 9)) a0_0 a0_1 l0_2)) = some r:=h
  clear h
  have HC2:=mkA H
  clear H
  go_enter Try.func30,Try.ntmps30
  go_upto_region 1 with (first|((with_reducible refine gate_dst (N:=1) rfl ?_);(try (refine gate_guard (by rfl) ?_;dsimp only));refine box_event ?hg (N:=1) ?hd (cs:=#[.int .i64 a0_0,.int .i64 a0_1,.slice A0_2 l0_2.length c0_2]) (t:=40) ?hr ?_;(case hd=>rfl);(case hg=>rfl);(case hr=>first|(go_simp;done)|(go_simp;rfl));intro gb101 hg w3 hbox hb;have n0_:=mkA (below_step (by repeat (with_reducible first|exact HB.out|apply bwA|apply bwN|apply bwD)) hb);have n1_:=mkA (hbox);have n2_:=mkA ((by rw [hg];exact(bwZ (by repeat (with_reducible first|exact HB.out|apply bwA|apply bwN|apply bwD))) : w.heap.size ≤ gb101));have n3_:=mkA ((by rw [hg];exact(bwZ (by repeat (with_reducible first|exact HB.out|apply bwA|apply bwN|apply bwD))) : w.heap.size ≤ gb101));clear HB;have HB:=n0_;have BK101:=n1_;have GW101:=n2_;have GE101:=n3_;clear n0_ n1_ n2_ n3_;clear hb hbox hg))
  (try simp only [Act.put,lsA,lsZ,lsS])
  go_cut [3] (fun v3 wc=>∃ (kq : Nat) (x3_1 : Bool),v3 = .bool x3_1∧Aside0 (net_Packet_check.j0 kq x3_1 a0_0 a0_1 l0_2 = some r)∧Aside0 (kq ≤ k)∧Aside0 (wc.heap[gb101]? = some (.cells #[.int .i64 a0_0,.int .i64 a0_1,(.slice A0_2 l0_2.length c0_2)] 40 (0,0)))∧Aside0 (Below w.heap.size w wc))
  case first =>
    have H:=HC2.out
    clear HC2
    obtain ⟨ji4,hji4⟩ : ∃ j_ : Int,(mn a0_0 a0_1) = j_:=⟨_,rfl⟩
    replace H : (if(ji4) < 0 then(net_Packet_check.j0 k true a0_0 a0_1 l0_2) else(net_Packet_check.j0 k (decide ((mx a0_0 a0_1) ≥ 9)) a0_0 a0_1 l0_2)) = some r:=by first|(rw [hji4] at H;exact H)|(simp only [hji4] at H ⊢;exact H)
    have hji4_ : (if a0_1 < a0_0 then a0_1 else a0_0) = ji4:=hji4
    by_cases c5 : (ji4) < 0
    · rw [if_pos c5] at H
      have c5b0 : decide ((ji4) < 0) = true:=decide_eq_true c5
      clear c5
      (first|rw [c5b0]|(simp only [i64_w,i32_w];rw [c5b0])|skip)
      have H':=mkA H
      clear H
      have hcz6_0 : w3.cell? ⟨gb101,0,none⟩ = some (.int .i64 a0_0):=(bkC BK101.out 0).trans rfl
      have hcz6_1 : w3.cell? ⟨gb101,1,none⟩ = some (.int .i64 a0_1):=(bkC BK101.out 1).trans rfl
      have hcz6_2 : w3.cell? ⟨gb101,2,none⟩ = some (.slice A0_2 l0_2.length c0_2):=(bkC BK101.out 2).trans rfl
      have hfz6_0:=bkF BK101.out 0
      have hfz6_1:=bkF BK101.out 1
      have hfz6_2:=bkF BK101.out 2
      go_wp2
      go_meet
      case rel=>exact⟨_,(true),(by first|rfl|(simp;done)|(simp [*];done)),H',⟨by first|omega|exact Nat.le_refl _⟩,⟨by(with_reducible repeat first|apply bkN|apply bkD|apply bkA);exact BK101.out⟩,⟨by repeat (with_reducible first|exact HB.out|apply bwA|apply bwN|apply bwD|refine bwS ?_ GE101.out)⟩⟩
    · rw [if_neg c5] at H
      have c5b0 : decide ((ji4) < 0) = false:=decide_eq_false c5
      clear c5
      (first|rw [c5b0]|(simp only [i64_w,i32_w];rw [c5b0])|skip)
      obtain ⟨ji7,hji7⟩ : ∃ j_ : Int,(mx a0_0 a0_1) = j_:=⟨_,rfl⟩
      replace H : (net_Packet_check.j0 k (decide ((ji7) ≥ 9)) a0_0 a0_1 l0_2) = some r:=by first|(rw [hji7] at H;exact H)|(simp only [hji7] at H ⊢;exact H)
      have hji7_ : (if a0_0 < a0_1 then a0_1 else a0_0) = ji7:=hji7
      have H':=mkA H
      clear H
      have hcz8_0 : w3.cell? ⟨gb101,0,none⟩ = some (.int .i64 a0_0):=(bkC BK101.out 0).trans rfl
      have hcz8_1 : w3.cell? ⟨gb101,1,none⟩ = some (.int .i64 a0_1):=(bkC BK101.out 1).trans rfl
      have hcz8_2 : w3.cell? ⟨gb101,2,none⟩ = some (.slice A0_2 l0_2.length c0_2):=(bkC BK101.out 2).trans rfl
      have hfz8_0:=bkF BK101.out 0
      have hfz8_1:=bkF BK101.out 1
      have hfz8_2:=bkF BK101.out 2
      go_wp2
      go_meet
      case rel=>exact⟨_,(decide ((ji7) ≥ 9)),(by first|rfl|(simp;done)|(simp only [← hji7] <;> (first|rfl|simp))|(simp [*];done)),H',⟨by first|omega|exact Nat.le_refl _⟩,⟨by(with_reducible repeat first|apply bkN|apply bkD|apply bkA);exact BK101.out⟩,⟨by repeat (with_reducible first|exact HB.out|apply bwA|apply bwN|apply bwD|refine bwS ?_ GE101.out)⟩⟩
  case rest =>
    clear HC2
    try clear p2
    try clear c3
    try clear c5
    try clear c5b0
    try clear hcz6_0
    try clear hcz6_1
    try clear hcz6_2
    try clear hcz8_0
    try clear hcz8_1
    try clear hcz8_2
    try clear hfz6_0
    try clear hfz6_1
    try clear hfz6_2
    try clear hfz8_0
    try clear hfz8_1
    try clear hfz8_2
    obtain ⟨kq,x3_1,rfl,HA,HJ1,BK101,HB⟩:=hcut
    cases kq with
    | zero=>exact absurd HA.out (by simp [net_Packet_check.j0])
    | succ kj1 =>
      have H:=HA.out
      clear HA
      simp only [net_Packet_check.j0] at H
      by_cases c9 : x3_1 = true
      · subst c9
        have H1 : (some 4) = some r:=by rw [if_pos rfl] at H;exact H
        clear H
        have H:=H1
        clear H1
        obtain rfl:=Option.some.inj H
        go_wp2
        go_ret
        exact⟨by first|rfl|(simp [errW_none,errW_some] <;> rfl)|(simp [*,errW_none,errW_some] <;> rfl),by repeat (with_reducible first|exact HB.out|apply bwA|apply bwN|apply bwD|refine bwS ?_ GE101.out)⟩
      · replace c9:=Bool.eq_false_iff.mpr c9
        subst c9
        have H1 : (if(l0_2.length : Int) > 4096 then(some 5) else(some 0)) = some r:=by rw [if_neg (show ¬ (false = true) by decide)] at H;exact H
        clear H
        have H:=H1
        clear H1
        by_cases c10 : (l0_2.length : Int) > 4096
        · rw [if_pos c10] at H
          have c10b0 : decide (4096 < (l0_2.length : Int)) = true:=decide_eq_true c10
          have c10b1 : decide (4096 < l0_2.length) = true:=decide_eq_true (by omega)
          clear c10
          obtain rfl:=Option.some.inj H
          have hcz11_0 : wc.cell? ⟨gb101,0,none⟩ = some (.int .i64 a0_0):=(bkC BK101.out 0).trans rfl
          have hcz11_1 : wc.cell? ⟨gb101,1,none⟩ = some (.int .i64 a0_1):=(bkC BK101.out 1).trans rfl
          have hcz11_2 : wc.cell? ⟨gb101,2,none⟩ = some (.slice A0_2 l0_2.length c0_2):=(bkC BK101.out 2).trans rfl
          have hfz11_0:=bkF BK101.out 0
          have hfz11_1:=bkF BK101.out 1
          have hfz11_2:=bkF BK101.out 2
          go_wp2
          go_ret
          exact⟨by first|rfl|(simp [errW_none,errW_some] <;> rfl)|(simp [*,errW_none,errW_some] <;> rfl),by repeat (with_reducible first|exact HB.out|apply bwA|apply bwN|apply bwD|refine bwS ?_ GE101.out)⟩
        · rw [if_neg c10] at H
          have c10b0 : decide (4096 < (l0_2.length : Int)) = false:=decide_eq_false c10
          have c10b1 : decide (4096 < l0_2.length) = false:=decide_eq_false (by omega)
          clear c10
          obtain rfl:=Option.some.inj H
          have hcz12_0 : wc.cell? ⟨gb101,0,none⟩ = some (.int .i64 a0_0):=(bkC BK101.out 0).trans rfl
          have hcz12_1 : wc.cell? ⟨gb101,1,none⟩ = some (.int .i64 a0_1):=(bkC BK101.out 1).trans rfl
          have hcz12_2 : wc.cell? ⟨gb101,2,none⟩ = some (.slice A0_2 l0_2.length c0_2):=(bkC BK101.out 2).trans rfl
          have hfz12_0:=bkF BK101.out 0
          have hfz12_1:=bkF BK101.out 1
          have hfz12_2:=bkF BK101.out 2
          go_wp2
          go_ret
          exact⟨by first|rfl|(simp [errW_none,errW_some] <;> rfl)|(simp [*,errW_none,errW_some] <;> rfl),by repeat (with_reducible first|exact HB.out|apply bwA|apply bwN|apply bwD|refine bwS ?_ GE101.out)⟩

/-! ### undercroftlaw04_num: function 10 -/
def undercroftlaw04_num.f (a0 : Int) : Option (Int):=some a0
set_option maxHeartbeats 8000000 in
set_option maxRecDepth 100000 in
theorem undercroftlaw04_num.calls (a0 : Int) (r : Int) (w : World) (h : undercroftlaw04_num.f a0 = some r) :
    Calls Try.prog 10 #[.int .i64 a0] w fun e w'=>e = .returned (.int .i64 r)∧Drawn0 w w':=by
  have H : (some a0) = some r:=h
  clear h
  obtain rfl:=Option.some.inj H
  go_enter Try.func10,Try.ntmps10
  go_wp2
  go_ret
  exact⟨by first|rfl|(simp;done)|(simp [*];done),by repeat (first|exact Drawn0.refl _|apply Drawn0.step)⟩

-- NOT PRINTED: function 44 (net_Packet_44)

-- NOT PRINTED: function 40 (net_Packet_40)

/-! ### net_Check: function 27 -/
def idxP {α : Type} (p : α→Bool) (l : List α) : Int:=if l.findIdx p < l.length then(l.findIdx p : Int) else -1
theorem idxP_hit {α : Type} (p : α→Bool) (l : List α) (d : α) (i : Int) (h0 : 0 ≤ i) (h1 : i < l.length) (h : p (l.getD i.toNat d) = true) (hf : ∀ j : Nat,j < i→p (l.getD j d) = false) : idxP p l = i:=by
  have hn : i.toNat < l.length:=by omega
  have : l.findIdx p = i.toNat:=by
    rw [List.findIdx_eq hn]
    refine⟨by rw [List.getD_eq_getElem?_getD,List.getElem?_eq_getElem hn] at h;exact h,fun j hj=>?_⟩
    have:=hf j (by omega)
    rw [List.getD_eq_getElem?_getD,List.getElem?_eq_getElem (by omega)] at this
    simpa using this
  unfold idxP
  rw [this,if_pos hn]
  omega
theorem idxP_miss {α : Type} (p : α→Bool) (l : List α) (d : α) (hf : ∀ j : Nat,j < l.length→p (l.getD j d) = false) : idxP p l = -1:=by
  unfold idxP
  rw [if_neg]
  intro h
  have h1:=List.findIdx_getElem (p:=p) (xs:=l) (w:=h)
  have:=hf _ h
  rw [List.getD_eq_getElem?_getD,List.getElem?_eq_getElem h] at this
  simp at this
  rw [this] at h1
  exact absurd h1 (by simp)
theorem idxP_any {α : Type} (p : α→Bool) (l : List α) : decide (0 ≤ idxP p l) = l.any p:=by
  unfold idxP
  split
  · rename_i h
    rw [decide_eq_true (by omega)]
    exact(List.any_eq_true.2 ⟨_,List.getElem_mem h,List.findIdx_getElem⟩).symm
  · rename_i h
    rw [decide_eq_false (by omega)]
    have h2 : l.findIdx p = l.length:=by have:=List.findIdx_le_length (p:=p) (xs:=l);omega
    symm
    rw [List.any_eq_false]
    intro x hx
    simpa using List.findIdx_eq_length.1 h2 x hx

set_option maxHeartbeats 1000000 in
theorem IdxF.calls (A0 : Option Addr) (c0 : Nat) (l0 : List S40) (p : S40→Bool) (g : Nat) (lb : Array Value) (eg : ∀ args w,(callFunc g args).run Try.prog w = .ok (.enter g args) w) (w : World)
    (hr0 : Kd.C k40 w A0 l0.length l0)
    (hp : ∀ W (x : S40) A c,Below w.heap.size w W→x ∈ l0→Kd.C (Kd.int .u8) W A x.f2.length x.f2→x.f2.length ≤ c→Calls Try.prog g (#[.agg #[.int .i64 x.f0,.int .i64 x.f1,.slice A x.f2.length c]] ++ lb) W fun e w'=>e = .returned (.bool (p x))∧Below w.heap.size w w') :
    Calls Try.prog 44 #[.slice A0 l0.length c0,.func (.func g) #[] lb] w fun e w'=>e = .returned (.int .i64 (idxP p l0))∧Below w.heap.size w w':=by
  have hu40:=Try.underlying40
  have HR:=mkA hr0
  have hbig : l0.length ≤ 9223372036854775807:=hr0.2.1
  clear hr0
  go_enter Try.func44,Try.ntmps44
  go_wp2
  go_loopg [5,8] (l0.length + 1) (fun gg _ s8 wr=>∃ kk : Int,s8 = .int .i64 kk∧Aside0 (0 ≤ kk∧kk ≤ l0.length∧l0.length - kk < gg∧Below w.heap.size w wr∧(∀ j : Nat,j < kk→p (rd_T40 l0 j) = false)))
  case atStart=>exact⟨0,rfl,⟨by omega,by omega,by omega,Below.refl _ w,fun j hj=>by omega⟩⟩
  case round =>
    obtain ⟨kk,rfl,A⟩:=hrel
    by_cases hlt : kk < l0.length
    · have c2b0 : decide (kk < (l0.length : Int)) = true:=decide_eq_true hlt
      obtain ⟨ad,A2,c2,e,hx0,hx1,hx2,hl2,hC2⟩:=at_T40 HR.out kk A.out.1 hlt
      cases e
      have BW:=mkA A.out.2.2.2.1
      replace hx0:=(BW.out.cell (blC w _ hx0)).trans hx0
      replace hx1:=(BW.out.cell (blC w _ hx1)).trans hx1
      replace hx2:=(BW.out.cell (blC w _ hx2)).trans hx2
      have hmem : rd_T40 l0 kk ∈ l0:=by
        have hn : kk.toNat < l0.length:=by have:=A.out.1;omega
        unfold rd_T40;rw [List.getD_eq_getElem?_getD,List.getElem?_eq_getElem hn];exact List.getElem_mem hn
      have hcall:=hp wr (rd_T40 l0 kk) A2 c2 BW.out hmem (Kd.C_below hC2 BW.out) hl2
      have p1:=eq_true A.out.1
      have p2:=eq_true hlt
      clear hp hlt hC2 hl2 hmem
      cases hq : p (rd_T40 l0 kk) with
      | true =>
        rw [hq] at hcall
        have HQ:=mkA hq
        clear hq
        go_wp2_with (go_at_fn g;refine hcall.mono ?_;rintro e w' ⟨rfl,hb'⟩)
        go_ret
        refine⟨?_,hb'⟩
        rw [idxP_hit p l0 z40 kk A.out.1 (of_eq_true p2) HQ.out A.out.2.2.2.2]
        rfl
      | false =>
        rw [hq] at hcall
        have HQ:=mkA hq
        clear hq
        go_wp2_with (go_at_fn g;refine hcall.mono ?_;rintro e w' ⟨rfl,hb'⟩)
        have hw : wrap64 (kk + 1) = kk + 1:=by
          have h1:=A.out.1
          have h2:=of_eq_true p2
          unfold wrap64
          omega
        have h2:=of_eq_true p2
        have hA:=A.out
        rw [hw]
        have hb2:=mkA hb'
        clear hb'
        obtain ⟨gg,rfl⟩ : ∃ m,gk = m + 1:=⟨gk - 1,by omega⟩
        go_roundg gg
        case measure=>omega
        case rel =>
          refine⟨kk + 1,rfl,⟨by omega,by omega,by omega,hb2.out,fun j hj=>?_⟩⟩
          by_cases e : (j : Int) = kk
          · rw [e];exact HQ.out
          · exact hA.2.2.2.2 j (by omega)
    · have c2b0 : decide (kk < (l0.length : Int)) = false:=decide_eq_false hlt
      go_wp2
      go_ret
      refine⟨?_,A.out.2.2.2.1⟩
      rw [idxP_miss p l0 z40 (fun j hj=>A.out.2.2.2.2 j (by have:=A.out.2.1;omega))]
      rfl
def pchk (x : S40) : Int:=if x.f0 < 0∨x.f1 < 0∨x.f0 > 8∨x.f1 > 8 then 4 else if(x.f2.length : Int) > 4096 then 5 else 0
def pbad (x : S40) : Bool:=pchk x != 0
theorem pchk_f (x : S40) : net_Packet_check.f 2 x.f0 x.f1 x.f2 = some (pchk x):=by
  unfold net_Packet_check.f pchk
  simp only [net_Packet_check.j0,mn,mx]
  repeat' split
  all_goals first|rfl|(exfalso;simp_all;done)|(exfalso;simp_all;omega)

set_option maxHeartbeats 1000000 in
theorem Check1.calls (x : S40) (A : Option Addr) (c : Nat) (w : World) (hC : Kd.C (Kd.int .u8) w A x.f2.length x.f2) (hl : x.f2.length ≤ c) :
    Calls Try.prog 39 #[.agg #[.int .i64 x.f0,.int .i64 x.f1,.slice A x.f2.length c]] w fun e w'=>e = .returned (.bool (pbad x))∧Below w.heap.size w w':=by
  have hu40:=Try.underlying40
  have HC:=mkA hC
  have HL:=mkA hl
  have HP:=mkA (pchk_f x)
  obtain ⟨q,hq⟩ : ∃ q,pchk x = q:=⟨_,rfl⟩
  have HQ:=mkA hq
  rw [hq] at HP
  clear hC hl hq
  go_enter Try.func39,Try.ntmps39
  go_wp2_with (first|(go_at_call 30;refine(net_Packet_check.calls 2 x.f0 x.f1 A c x.f2 q _ (Kd.C_alloc HC.out _) HL.out HP.out).mono ?_;rintro e w' ⟨rfl,hb⟩))
  go_ret
  refine⟨?_,(bwA (Below.refl _ _) _).trans (hb.mono (by simp))⟩
  unfold pbad
  rw [HQ.out]
  rfl

set_option maxHeartbeats 1000000 in
theorem Contains.calls (A0 : Option Addr) (c0 : Nat) (l0 : List S40) (w : World) (hr0 : Kd.C k40 w A0 l0.length l0) :
    Calls Try.prog 40 #[.slice A0 l0.length c0,.func (.func 39) #[] #[]] w fun e w'=>e = .returned (.bool (l0.any pbad))∧Below w.heap.size w w':=by
  have HR:=mkA hr0
  rw [← idxP_any]
  clear hr0
  go_enter Try.func40,Try.ntmps40
  go_wp2_with (first|(go_at_call 44;refine(IdxF.calls A0 c0 l0 pbad 39 #[] (enters_of Try.func39 (by kernel_rfl) rfl) _ HR.out (fun W x A c hB _ hC hl=>(Check1.calls x A c W hC hl).mono fun e w' he=>⟨he.1,hB.trans (he.2.mono hB.size)⟩)).mono ?_;rintro e w' ⟨rfl,hb'⟩))
  go_ret
  exact⟨rfl,hb'⟩

def net_Check.f (a : Int) (l : List S40) : Option Int:=some (if a < 1∨a > 4096∨(l.length : Int) > a∨l.any pbad = true then 9 else 0)
set_option maxHeartbeats 2000000 in
theorem net_Check.calls (a0_0 : Int) (A0_1 : Option Addr) (c0_1 : Nat) (l0_1 : List S40) (r : Int) (w : World) (hr0_1 : Kd.C k40 w A0_1 l0_1.length l0_1) (hc0_1 : l0_1.length ≤ c0_1) (h : net_Check.f a0_0 l0_1 = some r) :
    Calls Try.prog 27 #[.agg #[.int .i64 a0_0,.slice A0_1 l0_1.length c0_1]] w fun e w'=>e = .returned (.int .i64 r)∧Below w.heap.size w w':=by
  have hu32:=Try.underlying32
  have HR:=mkA hr0_1
  have H:=mkA (Option.some.inj h)
  clear hr0_1 h hc0_1
  by_cases h1 : a0_0 < 1
  · have c1 : decide (a0_0 < 1) = true:=decide_eq_true h1
    have H1:=mkA h1
    clear h1
    go_enter Try.func27,Try.ntmps27
    go_wp2
    go_ret
    exact⟨by rw [← H.out,if_pos (.inl H1.out)];rfl,bwA (Below.refl _ _) _⟩
  have c1 : decide (a0_0 < 1) = false:=decide_eq_false h1
  by_cases h2 : a0_0 > 4096
  · have c2 : decide (4096 < a0_0) = true:=decide_eq_true h2
    have H1:=mkA h2
    clear h1 h2
    go_enter Try.func27,Try.ntmps27
    go_wp2
    go_ret
    exact⟨by rw [← H.out,if_pos (.inr (.inl H1.out))];rfl,bwA (Below.refl _ _) _⟩
  have c2 : decide (4096 < a0_0) = false:=decide_eq_false h2
  by_cases h3 : (l0_1.length : Int) > a0_0
  · have c3 : decide (a0_0 < (l0_1.length : Int)) = true:=decide_eq_true h3
    have H1:=mkA h3
    clear h1 h2 h3
    go_enter Try.func27,Try.ntmps27
    go_wp2
    go_ret
    exact⟨by rw [← H.out,if_pos (.inr (.inr (.inl H1.out)))];rfl,bwA (Below.refl _ _) _⟩
  have c3 : decide (a0_0 < (l0_1.length : Int)) = false:=decide_eq_false h3
  have H1:=mkA (And.intro h1 (And.intro h2 h3))
  clear h1 h2 h3
  cases hb : l0_1.any pbad with
  | true =>
    have HB:=mkA hb
    go_enter Try.func27,Try.ntmps27
    go_wp2_with (first|(go_at_call 40;refine(Contains.calls A0_1 c0_1 l0_1 _ (Kd.C_alloc HR.out _)).mono ?_;rw [hb];rintro e w' ⟨rfl,hb'⟩))
    go_ret
    exact⟨by rw [← H.out,if_pos (.inr (.inr (.inr HB.out)))];rfl,(bwA (Below.refl _ _) _).trans (hb'.mono (by simp))⟩
  | false =>
    have HB:=mkA hb
    go_enter Try.func27,Try.ntmps27
    go_wp2_with (first|(go_at_call 40;refine(Contains.calls A0_1 c0_1 l0_1 _ (Kd.C_alloc HR.out _)).mono ?_;rw [hb];rintro e w' ⟨rfl,hb'⟩))
    go_ret
    exact⟨by rw [← H.out,if_neg (by have:=H1.out;have:=HB.out;simp_all)];rfl,(bwA (Below.refl _ _) _).trans (hb'.mono (by simp))⟩

/-! ### bytes_Clone: function 42 -/
theorem R_empty {α : Type} (d : Kd α) (e : Nat) (W : World) : d.R e (W.alloc (.cells #[] e)) W.heap.size (fun _=>True) (.slice (some ⟨W.heap.size,0,none⟩) 0 0) [] :=
  ⟨fun _ _=>trivial,[],by simpa using World.ownsRow_lit (base:=W.heap.size) (e:=e) (size:=d.sz) W #[] 0 (Nat.le_refl _) (by simp [maxLen]) (by simp),Reps.none _ _⟩
theorem C_none {α : Type} {d : Kd α} {w : World} {l : List α} (h : d.C w none l.length l) : l = []:=by
  rcases Nat.eq_zero_or_pos l.length with h0|h0
  · exact List.eq_nil_of_length_eq_zero h0
  · obtain ⟨ad,h,_⟩:=h.2.2 h0
    cases h

def bytes_Clone.f (l : List Int) : Option (List Int):=if l.length < 140737488355328 then some l else none
set_option maxHeartbeats 1000000 in
theorem bytes_Clone.calls (A0 : Option Addr) (c0 : Nat) (l0 : List Int) (r : List Int) (w : World) (hr0 : Kd.C (Kd.int .u8) w A0 l0.length l0) (hc0 : l0.length ≤ c0) (h : bytes_Clone.f l0 = some r) :
    Calls Try.prog 42 #[.slice A0 l0.length c0] w fun e w'=>∃ v0_ : Value,e = .returned (v0_)∧Kd.R (Kd.int .u8) 5 w' w.heap.size (fun _=>True) v0_ r∧Below w.heap.size w w':=by
  unfold bytes_Clone.f at h
  split at h
  case isFalse=>cases h
  case isTrue hl =>
  obtain rfl:=Option.some.inj h
  have hu36:=Try.underlying36
  have HR:=mkA hr0
  have HL:=mkA hl
  have hnn : ∀ (W : World) (a : Option Addr),(binOp .eql 36 (.slice a l0.length c0) (.slice none 0 0)).run Try.prog W = .ok (.bool a.isNone) W:=fun W a=>run_eql_slice_nil W 36 5 a l0.length c0 Try.underlying36
  clear hr0 hl h
  rcases A0 with _|ad
  · have h0':=mkA (C_none HR.out)
    go_enter Try.func42,Try.ntmps42
    go_wp2
    go_ret
    exact⟨_,rfl,by rw [h0'.out];exact Kd.R_nil _ _ _ _ _,Below.refl _ _⟩
  · go_enter Try.func42,Try.ntmps42
    go_wp2_with (first|((with_reducible refine gate_builtin (b:=.append) (xs:=#[.tmp 5,.tmp 6]) rfl ?_);at_builtin;refine Kd.R_append_rows (Kd.int .u8) (Rr:=(Kd.int .u8).K w) (w0:=w) w.heap.size rfl (.tmp 5) (.tmp 6) 36 5 (.int .u8 0) 1 rfl Try.underlying36 info5 rfl (by decide) (by omega) (.slice (some ⟨w.heap.size,0,none⟩) 0 0) [] l0 (some ad) l0.length c0 (fun _=>True) (fun _=>False) rfl rfl ?aO ?aR ?aK (fun _ hk=>hk.elim) (fun _ _=>trivial) ?aB ?aS ?aL ?_;(case aO=>exact R_empty (Kd.int .u8) 5 w);(case aR=>exact Kd.C_alloc HR.out _);(case aK=>intro x cs hx;exact hx);(case aB=>exact(Below.refl _ _).alloc (Nat.le_refl _) _);(case aS=>simp);(case aL=>have:=HL.out;simp;omega);intro v1 w1 ho hb hg hat;have HO:=mkA ho;have HB:=mkA hb;clear ho hb hg hat))
    go_ret
    exact⟨_,rfl,HO.out,HB.out⟩


/-! ### net_Packet_clone: function 32 -/
def net_Packet_clone.f (a0_0 : Int) (a0_1 : Int) (l0_2 : List Int) : Option (Int × Int × List Int):=(bytes_Clone.f l0_2).bind fun t104=>(some (a0_0,a0_1,t104))
set_option maxHeartbeats 8000000 in
set_option maxRecDepth 100000 in
theorem net_Packet_clone.calls (a0_0 : Int) (a0_1 : Int) (A0_2 : Option Addr) (c0_2 : Nat) (l0_2 : List Int) (r1 : Int) (r2 : Int) (r3 : List Int) (w : World) (hr0_2 : Kd.C (Kd.int .u8) w A0_2 l0_2.length l0_2) (hc0_2 : l0_2.length ≤ c0_2) (h : net_Packet_clone.f a0_0 a0_1 l0_2 = some (r1,r2,r3)) :
    Calls Try.prog 32 #[.agg #[.int .i64 a0_0,.int .i64 a0_1,.slice A0_2 l0_2.length c0_2]] w fun e w'=>∃ v2_ : Value,e = .returned (.agg #[.int .i64 r1,.int .i64 r2,v2_])∧Kd.R (Kd.int .u8) 5 w' w.heap.size (fun _=>True) v2_ r3∧Below w.heap.size w w':=by
  have hu40:=Try.underlying40
  have HR0_2:=mkA hr0_2
  have HC0_2:=mkA hc0_2
  clear hr0_2 hc0_2
  have HB:=mkA (Below.refl w.heap.size w)
  have H : ((bytes_Clone.f l0_2).bind fun t104=>(some (a0_0,a0_1,t104))) = some (r1,r2,r3):=h
  clear h
  replace H:=Option.bind_eq_some_iff.mp H
  obtain ⟨t104,A20,H⟩:=H
  replace H : (some (a0_0,a0_1,t104)) = some (r1,r2,r3):=H
  have A2:=mkA A20
  clear A20
  simp only [Option.some.injEq,Prod.mk.injEq] at H
  obtain ⟨rfl,rfl,rfl⟩:=H
  go_enter Try.func32,Try.ntmps32
  go_wp2_with (first|((with_reducible refine gate_dst (N:=1) rfl ?_);refine box_event ?hg (N:=1) ?hd (cs:=#[.int .i64 a0_0,.int .i64 a0_1,.slice A0_2 l0_2.length c0_2]) (t:=40) ?hr ?_;(case hd=>rfl);(case hg=>rfl);(case hr=>first|(go_simp;done)|(go_simp;rfl));intro gb102 hg w3 hbox hb;have n0_:=mkA (below_step (by repeat (with_reducible first|exact HB.out|apply bwA|apply bwN|apply bwD)) hb);have n1_:=mkA (hbox);have n2_:=mkA ((by rw [hg];exact(bwZ (by repeat (with_reducible first|exact HB.out|apply bwA|apply bwN|apply bwD))) : w.heap.size ≤ gb102));have n3_:=mkA ((by rw [hg];exact(bwZ (by repeat (with_reducible first|exact HB.out|apply bwA|apply bwN|apply bwD))) : w.heap.size ≤ gb102));clear HB;have HB:=n0_;have BK102:=n1_;have GW102:=n2_;have GE102:=n3_;clear n0_ n1_ n2_ n3_;clear hb hbox hg)|((with_reducible refine gate_dst (N:=2) rfl ?_);refine box_event ?hg (N:=2) ?hd (cs:=#[.int .i64 0,.int .i64 0,.slice none 0 0]) (t:=40) ?hr ?_;(case hd=>rfl);(case hg=>rfl);(case hr=>first|(go_simp;done)|(go_simp;rfl));intro gb103 hg w4 hbox hb;have n0_:=mkA (bkB (g:=gb102) (o:=.cells #[.int .i64 a0_0,.int .i64 a0_1,.slice A0_2 l0_2.length c0_2] 40 (0,0)) (by(with_reducible repeat first|apply bkN|apply bkD|apply bkA);exact BK102.out) hb);have n1_:=mkA (below_step (by repeat (with_reducible first|exact HB.out|apply bwA|apply bwN|apply bwD|refine bwS ?_ GE102.out)) hb);have n2_:=mkA (hbox);have n3_:=mkA ((by rw [hg];exact(bwZ (by repeat (with_reducible first|exact HB.out|apply bwA|apply bwN|apply bwD|refine bwS ?_ GE102.out))) : w.heap.size ≤ gb103));have n4_:=mkA ((by rw [hg];exact(bwZ (by repeat (with_reducible first|exact HB.out|apply bwA|apply bwN|apply bwD|refine bwS ?_ GE102.out))) : w.heap.size ≤ gb103));have n5_:=mkA ((by rw [hg];exact Nat.ne_of_lt (blk_lt (g:=gb102) (o:=.cells #[.int .i64 a0_0,.int .i64 a0_1,.slice A0_2 l0_2.length c0_2] 40 (0,0)) (by(with_reducible repeat first|apply bkN|apply bkD|apply bkA);exact BK102.out)) : gb102 ≠ gb103));have n6_:=mkA ((by rw [hg];exact Nat.ne_of_gt (blk_lt (g:=gb102) (o:=.cells #[.int .i64 a0_0,.int .i64 a0_1,.slice A0_2 l0_2.length c0_2] 40 (0,0)) (by(with_reducible repeat first|apply bkN|apply bkD|apply bkA);exact BK102.out)) : gb103 ≠ gb102));clear BK102;clear HB;have BK102:=n0_;have HB:=n1_;have BK103:=n2_;have GW103:=n3_;have GE103:=n4_;have NB102_103:=n5_;have NB103_102:=n6_;clear n0_ n1_ n2_ n3_ n4_ n5_ n6_;clear hb hbox hg;have hnb5:=NB102_103.out;have hnc5:=NB103_102.out;have hcz6_0 : w4.cell? ⟨gb102,0,none⟩ = some (.int .i64 a0_0):=(bkC BK102.out 0).trans rfl;have hcz6_1 : w4.cell? ⟨gb102,1,none⟩ = some (.int .i64 a0_1):=(bkC BK102.out 1).trans rfl;have hcz6_2 : w4.cell? ⟨gb102,2,none⟩ = some (.slice A0_2 l0_2.length c0_2):=(bkC BK102.out 2).trans rfl;have hfz6_0:=bkF BK102.out 0;have hfz6_1:=bkF BK102.out 1;have hfz6_2:=bkF BK102.out 2)|((with_reducible refine gate_callee (f:=42) rfl ?_);refine goesL_ (some 5) rfl rfl Try.func42 (by kernel_rfl) rfl #[.slice A0_2 l0_2.length c0_2] rfl (by(try simp only [List.map_toArray,List.map_cons,List.map_nil]);first|done|rfl) ?_;(with_reducible refine(bytes_Clone.calls _ _ l0_2 t104 _ ?side1 ?side2 A2.out).mono ?_);(case side1=>repeat (first|exact(Kd.C_below HR0_2.out HB.out)|(with_reducible refine Kd.C_alloc ?_ _)|(with_reducible refine Kd.C_drewN ?_ _)|(with_reducible refine Kd.C_drew ?_)));(case side2=>exact HC0_2.out);rintro e w7 ⟨v105,rfl,ho0,hb⟩;refine⟨_,rfl,?_⟩;have n0_:=mkA (Kd.R_lower ho0 (bwZ (by repeat (with_reducible first|exact HB.out|apply bwA|apply bwN|apply bwD|refine bwS ?_ GE102.out|refine bwS ?_ GE103.out))));have n1_:=mkA (bkB (g:=gb102) (o:=.cells #[.int .i64 a0_0,.int .i64 a0_1,.slice A0_2 l0_2.length c0_2] 40 (0,0)) (by(with_reducible repeat first|apply bkN|apply bkD|apply bkA);exact BK102.out) hb);have n2_:=mkA (bkB (g:=gb103) (o:=.cells #[.int .i64 0,.int .i64 0,.slice none 0 0] 40 (0,0)) (by(with_reducible repeat first|apply bkN|apply bkD|apply bkA);exact BK103.out) hb);have n3_:=mkA (below_step (by repeat (with_reducible first|exact HB.out|apply bwA|apply bwN|apply bwD|refine bwS ?_ GE102.out|refine bwS ?_ GE103.out)) hb);clear BK102;clear BK103;clear HB;have HO106:=n0_;have BK102:=n1_;have BK103:=n2_;have HB:=n3_;clear n0_ n1_ n2_ n3_;(try clear hb);(try clear hb2);(try clear hk);(try clear hi);(try clear ho0);obtain ⟨Ao8,co8,eo8⟩:=Kd.R_slice HO106.out;subst eo8;have hcz9_0 : w7.cell? ⟨gb102,0,none⟩ = some (.int .i64 a0_0):=(bkC BK102.out 0).trans rfl;have hcz9_1 : w7.cell? ⟨gb102,1,none⟩ = some (.int .i64 a0_1):=(bkC BK102.out 1).trans rfl;have hcz9_2 : w7.cell? ⟨gb102,2,none⟩ = some (.slice A0_2 l0_2.length c0_2):=(bkC BK102.out 2).trans rfl;have hfz9_0:=bkF BK102.out 0;have hfz9_1:=bkF BK102.out 1;have hfz9_2:=bkF BK102.out 2;have hcz10_0 : w7.cell? ⟨gb103,0,none⟩ = some (.int .i64 0):=(bkC BK103.out 0).trans rfl;have hcz10_1 : w7.cell? ⟨gb103,1,none⟩ = some (.int .i64 0):=(bkC BK103.out 1).trans rfl;have hcz10_2 : w7.cell? ⟨gb103,2,none⟩ = some (.slice none 0 0):=(bkC BK103.out 2).trans rfl;have hfz10_0:=bkF BK103.out 0;have hfz10_1:=bkF BK103.out 1;have hfz10_2:=bkF BK103.out 2))
  refine bodyPost_ret (results_cell_row rfl _ _ gb103 40 #[.int .i64 a0_0,.int .i64 a0_1,.slice Ao8 t104.length co8] (0,0) _ rfl (by(with_reducible repeat first|apply bkN|apply bkD|apply bkA);refine blk_put (cs:=#[.int .i64 a0_0,.int .i64 a0_1,.slice none 0 0]) ?_ 2 _ rfl;(with_reducible repeat first|apply bkN|apply bkD|apply bkA);refine blk_put (cs:=#[.int .i64 a0_0,.int .i64 0,.slice none 0 0]) ?_ 1 _ rfl;(with_reducible repeat first|apply bkN|apply bkD|apply bkA);refine blk_put (cs:=#[.int .i64 0,.int .i64 0,.slice none 0 0]) ?_ 0 _ rfl;(with_reducible repeat first|apply bkN|apply bkD|apply bkA);refine blk_far ?_ NB103_102.out _;(with_reducible repeat first|apply bkN|apply bkD|apply bkA);exact BK103.out) Try.underlying40 rfl (by kernel_rfl)) rfl ?_
  exact⟨_,by first|rfl|(simp [errW_none,errW_some] <;> rfl)|(simp [*,errW_none,errW_some] <;> rfl),by(with_reducible repeat (first|apply Kd.R_alloc|apply Kd.R_drewN|apply Kd.R_drew));exact Kd.R_mono (Kd.R_far (p:=⟨gb103,2,none⟩) (Kd.R_far (p:=⟨gb103,1,none⟩) (Kd.R_far (p:=⟨gb103,0,none⟩) (Kd.R_far (p:=⟨gb102,2,none⟩) (Kd.R_types (Kd.R_types HO106.out BK102.out (by decide)) BK103.out (by decide)) (fun _ hk=>hk.1.2) (.slice Ao8 t104.length co8)) (fun _ hk=>hk.2) (.int .i64 a0_0)) (fun _ hk=>hk.2) (.int .i64 a0_1)) (fun _ hk=>hk.2) (.slice Ao8 t104.length co8)) (fun _ hk=>trivial),by repeat (with_reducible first|exact HB.out|apply bwA|apply bwN|apply bwD|refine bwS ?_ GE102.out|refine bwS ?_ GE103.out)⟩

-- NOT PRINTED: function 41 (net_Packet_41)

/-! ### net_State_clone: function 31 -/
theorem choose_list {α : Type} {n : Nat} {p : Nat→α→Prop} (h : ∀ i,i < n→∃ x,p i x) : ∃ l : List α,l.length = n∧∀ (i : Nat) (x : α),l[i]? = some x→p i x:=by
  induction n with
  | zero=>exact⟨[],rfl,fun i x hx=>by simp at hx⟩
  | succ n ih =>
    obtain ⟨l,hl,hp⟩:=ih (fun i hi=>h i (by omega))
    obtain ⟨y,hy⟩:=h n (by omega)
    refine⟨l ++ [y],by simp [hl],fun i x hx=>?_⟩
    rcases Nat.lt_or_ge i l.length with hi|hi
    · rw [List.getElem?_append_left hi] at hx
      exact hp i x hx
    · have : i = l.length:=by
        have:=(List.getElem?_eq_some_iff.1 hx).1
        rw [List.length_append,List.length_singleton] at this
        omega
      subst this
      have hx' : y = x:=by simpa using hx
      rw [← hx',hl]
      exact hy

/-- A row that is read, its elements' cells under names. -/
theorem C_rows {α : Type} {d : Kd α} {w : World} {A : Option Addr} {l : List α} (h : d.C w A l.length l) :
    ∃ rows : List (List Value),rows.length = l.length∧ReadsRow ((Kd.raw d.sz).K w) d.sz w A l.length rows∧∀ (j : Nat) (x : α) (c : List Value),l[j]? = some x→rows[j]? = some c→d.K w x c:=by
  rcases Nat.eq_zero_or_pos l.length with h0|h0
  · obtain rfl:=List.eq_nil_of_length_eq_zero h0
    exact⟨[],rfl,⟨rfl,by simp,fun h=>absurd h (by simp)⟩,fun j x c hx=>by simp at hx⟩
  obtain ⟨ad,hA,hc⟩:=h.2.2 h0
  obtain ⟨rows,hl,hr⟩:=choose_list (n:=l.length) (p:=fun j c=>c.length = d.sz∧(∃ x,l[j]? = some x∧d.K w x c)∧∀ i u,c[i]? = some u→w.cell? (ad.add (j * d.sz + i)) = some u) (fun j hj=>by
    obtain ⟨c,h1,h2,h3⟩:=hc j _ (List.getElem?_eq_getElem hj)
    exact⟨c,h1,⟨_,List.getElem?_eq_getElem hj,h2⟩,h3⟩)
  refine⟨rows,hl,⟨hl,h.2.1,fun _=>⟨ad,hA,fun j c hj=>?_⟩⟩,fun j x c hx hj=>?_⟩
  · obtain ⟨h1,⟨x,_,h2⟩,h3⟩:=hr j c hj
    exact⟨c,h1,⟨rfl,h1,d.K_one h2⟩,h3⟩
  · obtain ⟨_,⟨y,hy,h2⟩,_⟩:=hr j c hj
    rw [hx] at hy
    cases hy
    exact h2

/-- A row of cells, each element's blocks told: apart. -/
theorem raw_to_S {α : Type} {d : Kd α} {e : Nat} {w : World} {base : Nat} {ok : Nat→Prop} {v : Value} {xs : List α} {rows : List (List Value)} {f : Nat→Nat}
    (hR : (Kd.raw d.sz).R e w base ok v rows) (hl : rows.length = xs.length) (hM : ∀ (j : Nat) (x : α) (c : List Value),xs[j]? = some x→rows[j]? = some c→d.M w base (fun k=>(ok k∧some k ≠ v.ownBlock)∧f k = j) x c) : Kd.S d e w base ok v xs:=by
  obtain ⟨h0,inner,ho,hr⟩:=hR
  refine⟨f,h0,inner,by rw [List.length_zipIdx,← hl];exact ho,by rw [List.length_zipIdx,← hl];exact hr.1,fun j q hq=>?_⟩
  rw [List.getElem?_zipIdx] at hq
  obtain ⟨x,hx,rfl⟩:=Option.map_eq_some_iff.1 hq
  have hj : j < rows.length:=by rw [hl];exact(List.getElem?_eq_some_iff.1 hx).1
  have h1:=(hr.2 j _ (List.getElem?_eq_getElem hj)).1
  have h2:=hM j x _ hx (List.getElem?_eq_getElem hj)
  show d.M w base _ x ((inner.drop (j * d.sz)).take d.sz)
  rw [show(inner.drop (j * d.sz)).take d.sz = rows[j] from h1]
  refine d.M_mono (fun k hk=>?_) h2
  simpa using hk

set_option maxHeartbeats 1000000 in
theorem CloneP.calls (A0 : Option Addr) (c0 : Nat) (l0 : List S40) (wb w : World) (hwb : Below wb.heap.size wb w) (hr0 : Kd.C k40 wb A0 l0.length l0) (hl : l0.length * 40 ≤ 140737488355328) :
    Calls Try.prog 41 #[.slice A0 l0.length c0] w fun e w'=>∃ (v : Value) (rows : List (List Value)),e = .returned v∧rows.length = l0.length∧(∀ (j : Nat) (x : S40) (c : List Value),l0[j]? = some x→rows[j]? = some c→k40.K wb x c)∧(Kd.raw 3).R 40 w' w.heap.size (fun _=>True) v rows∧Below w.heap.size w w':=by
  have hu30:=Try.underlying30
  obtain ⟨rows,hrl,hrr,hrk⟩:=C_rows hr0
  have HR:=mkA hr0
  have HL:=mkA hl
  have HWB:=mkA hwb
  have HRR:=mkA hrr
  have HRL:=mkA hrl
  have HRK:=mkA hrk
  have hnn : ∀ (W : World) (a : Option Addr),(binOp .eql 30 (.slice a l0.length c0) (.slice none 0 0)).run Try.prog W = .ok (.bool a.isNone) W:=fun W a=>run_eql_slice_nil W 30 40 a l0.length c0 Try.underlying30
  clear hr0 hwb hl hrr hrl hrk
  rcases A0 with _|ad
  · have h0':=mkA (C_none HR.out)
    go_enter Try.func41,Try.ntmps41
    go_wp2
    go_ret
    have : rows = []:=List.eq_nil_of_length_eq_zero (by rw [HRL.out,h0'.out];rfl)
    exact⟨_,[],rfl,by rw [h0'.out];rfl,by intro j x c _ hc;simp at hc,Kd.R_nil _ _ _ _ _,Below.refl _ _⟩
  · go_enter Try.func41,Try.ntmps41
    go_wp2_with (first|((with_reducible refine gate_builtin (b:=.append) (xs:=#[.tmp 5,.tmp 6]) rfl ?_);at_builtin;refine Kd.R_append_rows (Kd.raw 3) (Rr:=(Kd.raw 3).K w) (w0:=w) w.heap.size rfl (.tmp 5) (.tmp 6) 30 40 (.agg #[(.int .i64 0),(.int .i64 0),(.slice none 0 0)]) 40 rfl Try.underlying30 info40 rfl (by decide) (by omega) (.slice (some ⟨w.heap.size,0,none⟩) 0 0) [] rows (some ad) l0.length c0 (fun _=>True) (fun _=>False) rfl rfl ?aO ?aR ?aK (fun _ hk=>hk.elim) (fun _ _=>trivial) ?aB ?aS ?aL ?_;(case aO=>exact R_empty (Kd.raw 3) 40 w);(case aR=>exact ReadsRow.imp_ HRR.out (bwA HWB.out _) (fun _ _ h=>h));(case aK=>intro x cs hx;exact hx);(case aB=>exact(Below.refl _ _).alloc (Nat.le_refl _) _);(case aS=>simp);(case aL=>have:=HL.out;simp;omega);intro v1 w1 ho hb hg hat;have HO:=mkA ho;have HB:=mkA hb;clear ho hb hg hat))
    go_ret
    exact⟨_,rows,rfl,HRL.out,HRK.out,HO.out,HB.out⟩
/-- After i rounds: the row's cells; elements below i lead to rows of the call's own, apart; those from i on are as they came. -/
def InvC (w0 : World) (B g cap : Nat) (l : List S40) (i : Int) (W : World) : Prop :=
  ∃ (rows : List (List Value)) (f : Nat→Nat),rows.length = l.length∧(Kd.raw 3).R 40 W B (fun _=>True) (.slice (some ⟨g,0,none⟩) l.length cap) rows ∧
    ∀ (j : Nat) (x : S40) (c : List Value),l[j]? = some x→rows[j]? = some c→(((j : Int) < i→k40.M W B (fun k=>k ≠ g∧f k = j) x c)∧(i ≤ (j : Int)→k40.K w0 x c))

theorem own_slice_g (g n cap : Nat) : (Value.slice (some ⟨g,0,none⟩) n cap).ownBlock = some g:=rfl

/-- One round: element i's cells are written anew. -/
theorem InvC.step {w0 W W1 : World} {B g cap : Nat} {l : List S40} {i : Int} (h : InvC w0 B g cap l i W) (h0 : 0 ≤ i) (h1 : i < l.length) (hB : B ≤ W.heap.size) (hb : Below W.heap.size W W1)
    {v2 : Value} (hv : (Kd.int .u8).R 5 W1 W.heap.size (fun _=>True) v2 (rd_T40 l i).f2) :
    (W1.frozen? ⟨g,i.toNat * 3,none⟩ = false∧W1.frozen? ⟨g,i.toNat * 3 + 1,none⟩ = false∧W1.frozen? ⟨g,i.toNat * 3 + 2,none⟩ = false) ∧
    InvC w0 B g cap l (i + 1) (((W1.setCell ⟨g,i.toNat * 3,none⟩ (.int .i64 (rd_T40 l i).f0)).setCell ⟨g,i.toNat * 3 + 1,none⟩ (.int .i64 (rd_T40 l i).f1)).setCell ⟨g,i.toNat * 3 + 2,none⟩ v2) ∧
    W1.grownBy (((W1.setCell ⟨g,i.toNat * 3,none⟩ (.int .i64 (rd_T40 l i).f0)).setCell ⟨g,i.toNat * 3 + 1,none⟩ (.int .i64 (rd_T40 l i).f1)).setCell ⟨g,i.toNat * 3 + 2,none⟩ v2) (some g):=by
  obtain ⟨rows,f,hl,hR,hM⟩:=h
  have hR1:=Kd.R_below hR hb
  have hg : g < W.heap.size:=by
    obtain ⟨inner,ho⟩:=Kd.R_own hR
    exact own_lt ho g rfl
  have hin : i.toNat < l.length:=by omega
  have hx : l[i.toNat]? = some (rd_T40 l i):=by unfold rd_T40;rw [List.getD_eq_getElem?_getD,List.getElem?_eq_getElem hin];rfl
  obtain ⟨A,cv,hve,_⟩:=Kd.R_reads hv
  have hone : v2.oneCell' = true:=by rw [hve];rfl
  obtain ⟨c,hcl,hMc,hcc,hfr⟩:=Kd.R_elem hR1 [] i h0 h1
  have hseg:=Kd.R_seg hR1 i h0 h1 (seg:=[.int .i64 (rd_T40 l i).f0,.int .i64 (rd_T40 l i).f1,v2]) (j:=0) (x':=[.int .i64 (rd_T40 l i).f0,.int .i64 (rd_T40 l i).f1,v2]) (okp:=fun _=>False) hcl hcc (show 3 ≤ 3 from by decide)
    (by
      have hd : c.drop 3 = []:=List.drop_eq_nil_of_le (by rw [hcl];decide)
      rw [show c.take 0 ++ [Value.int .i64 (rd_T40 l i).f0,.int .i64 (rd_T40 l i).f1,v2] ++ c.drop (0 + [Value.int .i64 (rd_T40 l i).f0,.int .i64 (rd_T40 l i).f1,v2].length) = [.int .i64 (rd_T40 l i).f0,.int .i64 (rd_T40 l i).f1,v2] from by simp [hd]]
      refine⟨rfl,rfl,fun u hu=>?_⟩
      simp only [List.mem_cons,List.not_mem_nil,or_false] at hu
      rcases hu with rfl|rfl|rfl
      · rfl
      · rfl
      · exact hone) (fun _ hk=>hk.elim)
  refine⟨⟨hfr 0,hfr 1,hfr 2⟩,?_,hseg.2⟩
  have hgr : W1.grownBy (((W1.setCell ⟨g,i.toNat * 3,none⟩ (.int .i64 (rd_T40 l i).f0)).setCell ⟨g,i.toNat * 3 + 1,none⟩ (.int .i64 (rd_T40 l i).f1)).setCell ⟨g,i.toNat * 3 + 2,none⟩ v2) (some g):=hseg.2
  refine⟨rows.set i.toNat [.int .i64 (rd_T40 l i).f0,.int .i64 (rd_T40 l i).f1,v2],fun k=>if W.heap.size ≤ k then i.toNat else f k,by rw [List.length_set];exact hl,hseg.1,fun j x cx hj hcx=>⟨fun hji=>?_,fun hij=>?_⟩⟩
  · by_cases e : j = i.toNat
    · subst e
      rw [hx] at hj
      cases hj
      rw [List.getElem?_set_self (by omega)] at hcx
      cases hcx
      have hv2:=Kd.R_lower (Kd.R_grown (Kd.R_mono (ok':=fun k=>W.heap.size ≤ k) (Kd.R_bound hv) (fun k hk=>hk.2.1)) hgr (fun k hk e=>by cases e;omega)) hB
      exact k40_mkM _ _ _ (rd_T40 l i) (Kd.R_mono hv2 (fun k hk=>⟨by omega,by dsimp only;rw [if_pos hk]⟩))
    · rw [List.getElem?_set_ne (by omega)] at hcx
      have hm:=(hM j x cx hj hcx).1 (by omega)
      have hm1:=Kd.M_below hm hb
      have hm2:=k40.M_mono (ok':=fun k=>(k ≠ g∧f k = j)∧k < W.heap.size) (fun k hk=>⟨hk.1,hk.2.2.1⟩) (k40.M_bound hm)
      have hm3:=Kd.M_grown (Kd.M_below hm2 hb) hgr (fun k hk e=>by cases e;exact hk.1.1 rfl)
      exact k40.M_mono (fun k hk=>⟨hk.1.1,by dsimp only;rw [if_neg (by omega)];exact hk.1.2⟩) hm3
  · rw [List.getElem?_set_ne (by omega)] at hcx
    exact(hM j x cx hj hcx).2 (by omega)
def datOk (l : List S40) : Bool:=l.all (fun x=>decide (x.f2.length < 140737488355328))
def net_State_clone.f (a : Int) (l : List S40) : Option (Int × List S40):=if l.length * 40 ≤ 140737488355328∧datOk l = true then some (a,l) else none

theorem InvC.start {w W : World} {B g cap : Nat} {l : List S40} {rows : List (List Value)} (hl : rows.length = l.length) (hR : (Kd.raw 3).R 40 W B (fun _=>True) (.slice (some ⟨g,0,none⟩) l.length cap) rows)
    (hK : ∀ (j : Nat) (x : S40) (c : List Value),l[j]? = some x→rows[j]? = some c→k40.K w x c) : InvC w B g cap l 0 W :=
  ⟨rows,fun _=>0,hl,hR,fun j x c hj hc=>⟨fun h=>by omega,fun _=>hK j x c hj hc⟩⟩
/-- What lies below B may turn. -/
theorem InvC.move {w W W1 : World} {B g cap : Nat} {l : List S40} {i : Int} (h : InvC w B g cap l i W) (hm : ∀ k,B ≤ k→k < W.heap.size→W1.heap[k]? = W.heap[k]?) : InvC w B g cap l i W1:=by
  obtain ⟨rows,f,hl,hR,hM⟩:=h
  refine⟨rows,f,hl,Kd.R_mono (Kd.R_step (Kd.R_bound hR) (fun k hk hlt=>hm k hk.2.1 hlt)) (fun _ _=>trivial),fun j x c hj hc=>⟨fun hji=>?_,(hM j x c hj hc).2⟩⟩
  exact k40.M_mono (fun k hk=>hk.1) (Kd.M_step (k40.M_bound ((hM j x c hj hc).1 hji)) (fun k hk hlt=>hm k hk.2.1 hlt))
theorem InvC.done {w W : World} {B g cap : Nat} {l : List S40} {i : Int} (h : InvC w B g cap l i W) (hi : (l.length : Int) ≤ i) : Kd.S k40 40 W B (fun _=>True) (.slice (some ⟨g,0,none⟩) l.length cap) l:=by
  obtain ⟨rows,f,hl,hR,hM⟩:=h
  refine raw_to_S (f:=f) hR hl (fun j x c hj hc=>?_)
  have hj' : j < l.length:=(List.getElem?_eq_some_iff.1 hj).1
  refine k40.M_mono (fun k hk=>⟨⟨trivial,fun e=>hk.1 ?_⟩,hk.2⟩) ((hM j x c hj hc).1 (by omega))
  rw [own_slice_g] at e
  exact Option.some.inj e

/-- The list's row between two rounds: nothing is in it, or as InvC says. -/
def InvS (w0 : World) (B : Nat) (A : Option Addr) (cap : Nat) (l : List S40) (i : Int) (W : World) : Prop :=
  (l = []∧(Kd.raw 3).R 40 W B (fun _=>True) (.slice A l.length cap) [])∨∃ g,A = some ⟨g,0,none⟩∧InvC w0 B g cap l i W
theorem InvS.move {w W W1 : World} {B cap : Nat} {A : Option Addr} {l : List S40} {i : Int} (h : InvS w B A cap l i W) (hm : ∀ k,B ≤ k→k < W.heap.size→W1.heap[k]? = W.heap[k]?) : InvS w B A cap l i W1:=by
  rcases h with ⟨h1,h2⟩|⟨g,h1,h2⟩
  · exact .inl ⟨h1,Kd.R_mono (Kd.R_step (Kd.R_bound h2) (fun k hk hlt=>hm k hk.2.1 hlt)) (fun _ _=>trivial)⟩
  · exact .inr ⟨g,h1,h2.move hm⟩
theorem InvS.done {w W : World} {B cap : Nat} {A : Option Addr} {l : List S40} {i : Int} (h : InvS w B A cap l i W) (hi : (l.length : Int) ≤ i) : Kd.S k40 40 W B (fun _=>True) (.slice A l.length cap) l:=by
  rcases h with ⟨rfl,h2⟩|⟨g,rfl,h2⟩
  · exact raw_to_S (f:=fun _=>0) h2 rfl (fun j x c hj=>by simp at hj)
  · exact h2.done hi
theorem InvS.start {w W : World} {B cap : Nat} {A : Option Addr} {l : List S40} {rows : List (List Value)} (hl : rows.length = l.length) (hR : (Kd.raw 3).R 40 W B (fun _=>True) (.slice A l.length cap) rows)
    (hK : ∀ (j : Nat) (x : S40) (c : List Value),l[j]? = some x→rows[j]? = some c→k40.K w x c) : InvS w B A cap l 0 W:=by
  rcases Nat.eq_zero_or_pos l.length with h0|h0
  · obtain rfl:=List.eq_nil_of_length_eq_zero h0
    obtain rfl:=List.eq_nil_of_length_eq_zero hl
    exact .inl ⟨rfl,hR⟩
  · obtain ⟨g,cap',he,_⟩:=Kd.R_form hR (by omega)
    injection he with h1 h2 h3
    subst h1 h3
    exact .inr ⟨g,rfl,InvC.start hl hR hK⟩

set_option maxHeartbeats 4000000 in
set_option maxRecDepth 100000 in
theorem net_State_clone.calls (a0_0 : Int) (A0_1 : Option Addr) (c0_1 : Nat) (l0_1 : List S40) (r1 : Int) (r2 : List S40) (w : World) (hr0_1 : Kd.C k40 w A0_1 l0_1.length l0_1) (hc0_1 : l0_1.length ≤ c0_1) (h : net_State_clone.f a0_0 l0_1 = some (r1,r2)) :
    Calls Try.prog 31 #[.agg #[.int .i64 a0_0,.slice A0_1 l0_1.length c0_1]] w fun e w'=>∃ v1_ : Value,e = .returned (.agg #[.int .i64 r1,v1_])∧Kd.S k40 40 w' w.heap.size (fun _=>True) v1_ r2∧Below w.heap.size w w':=by
  have hu40:=Try.underlying40
  have hu32:=Try.underlying32
  unfold net_State_clone.f at h
  split at h
  case isFalse=>cases h
  case isTrue hlen =>
  obtain ⟨rfl,rfl⟩:=Prod.mk.inj (Option.some.inj h)
  have HL:=mkA hlen.1
  have HD:=mkA hlen.2
  have HR:=mkA hr0_1
  have hbig : l0_1.length ≤ 9223372036854775807:=hr0_1.2.1
  clear hr0_1 hc0_1 h hlen
  go_enter Try.func31,Try.ntmps31
  go_wp2_with (first|(go_at_call 41;refine(CloneP.calls A0_1 c0_1 l0_1 w _ (bwA (bwA (Below.refl _ _) _) _) HR.out HL.out).mono ?_;rintro e w1 ⟨v,rows,rfl,hl,hK,hR,hb⟩;obtain ⟨A,cp,hv⟩:=Kd.R_slice hR;rw [hl] at hv;subst hv;have hK':=mkA hK;have hR':=mkA hR;have hl':=mkA hl;have b1:=mkA (bkB (bkA (heap_alloc_new w (.cells #[.int .i64 a0_0,.slice A0_1 l0_1.length c0_1] 32)) (.cells #[.int .i64 0,.slice none 0 0] 32)) hb);have b2:=mkA (bkB (heap_alloc_new (w.alloc (.cells #[.int .i64 a0_0,.slice A0_1 l0_1.length c0_1] 32)) (.cells #[.int .i64 0,.slice none 0 0] 32)) hb);have HB:=mkA ((bwA (bwA (Below.refl w.heap.size w) (.cells #[.int .i64 a0_0,.slice A0_1 l0_1.length c0_1] 32)) (.cells #[.int .i64 0,.slice none 0 0] 32)).trans (hb.mono (by simp;omega)));have hsz:=mkA hb.size;clear hb hl hK hR;have hc1:=(bkC b1.out 1).trans rfl;have hf1:=bkF b1.out 1))
  have hm1 : (w1.setCell ⟨w.heap.size,1,none⟩ (.slice A l0_1.length cp)).heap[w.heap.size]? = some (.cells #[.int .i64 a0_0,.slice A l0_1.length cp] 32 (0,0)):=blk_put b1.out 1 _ rfl
  have hm2 : (w1.setCell ⟨w.heap.size,1,none⟩ (.slice A l0_1.length cp)).heap[w.heap.size + 1]? = some (.cells #[.int .i64 0,.slice none 0 0] 32 (0,0)):=blk_far (by simpa using b2.out) (by simp) _
  have hB0 : Below w.heap.size w (w1.setCell ⟨w.heap.size,1,none⟩ (.slice A l0_1.length cp)):=HB.out.setCell (by exact Nat.le_refl _) _
  have hsz1 : w.heap.size + 2 ≤ w1.heap.size:=by have:=hsz.out;simp at this;omega
  have hI0 : InvS w (w.heap.size + 2) A cp l0_1 0 (w1.setCell ⟨w.heap.size,1,none⟩ (.slice A l0_1.length cp)):=by
    exact(InvS.start (w:=w) hl'.out (Kd.R_lower hR'.out (by simp)) hK'.out).move (fun k hk hlt=>Below.heap_setCell _ _ _ k (by simp;omega))
  have HM1:=mkA hm1
  have HM2:=mkA hm2
  have HB0:=mkA hB0
  have HS1:=mkA hsz1
  have HI0:=mkA hI0
  clear hm1 hm2 hB0 hsz1 hI0
  go_loopg [12] (l0_1.length + 1) (fun gg s12 wr=>∃ i : Int,s12 = .int .i64 i∧Aside0 (0 ≤ i∧i ≤ l0_1.length∧l0_1.length - i < gg∧Below w.heap.size w wr∧wr.heap[w.heap.size]? = some (.cells #[.int .i64 a0_0,.slice A l0_1.length cp] 32 (0,0))∧wr.heap[w.heap.size + 1]? = some (.cells #[.int .i64 0,.slice none 0 0] 32 (0,0))∧w.heap.size + 2 ≤ wr.heap.size∧InvS w (w.heap.size + 2) A cp l0_1 i wr))
  case atStart=>exact⟨0,rfl,⟨by omega,by omega,by omega,HB0.out,HM1.out,HM2.out,by have:=HS1.out;simp;omega,HI0.out⟩⟩
  case round =>
    obtain ⟨i,rfl,Z⟩:=hrel
    clear HM1 HM2 HB0 HS1 HI0 hK' hR' hl' b1 b2 HB hsz
    by_cases hlt : i < l0_1.length
    · have c1 : decide (i < (l0_1.length : Int)) = true:=decide_eq_true hlt
      obtain ⟨h0,hle,hgk,hBW,k1,k2,hsz,hS⟩:=Z.out
      rcases hS with ⟨h1,_⟩|⟨g,rfl,hC⟩
      · rw [h1] at hlt;simp at hlt;omega
      have hin : i.toNat < l0_1.length:=by omega
      have hx : l0_1[i.toNat]? = some (rd_T40 l0_1 i):=by unfold rd_T40;rw [List.getD_eq_getElem?_getD,List.getElem?_eq_getElem hin];rfl
      -- element i's cells, as they came
      obtain ⟨rows,f,hl,hR,hM⟩:=hC
      obtain ⟨cx,hcl,hMc,hcc,_⟩:=Kd.R_elem hR [] i h0 hlt
      have hrow : rows[i.toNat]? = some cx:=by
        rw [show cx = rows.getD i.toNat [] from hMc.1,List.getD_eq_getElem?_getD,List.getElem?_eq_getElem (by omega)];rfl
      obtain ⟨A2,c2,rfl,hl2,hC2⟩:=k40_open ((hM _ _ _ hx hrow).2 (by omega))
      have hx0 : wr.cell? ⟨g,i.toNat * 3,none⟩ = some (.int .i64 (rd_T40 l0_1 i).f0):=hcc 0 _ rfl
      have hx1 : wr.cell? ⟨g,i.toNat * 3 + 1,none⟩ = some (.int .i64 (rd_T40 l0_1 i).f1):=hcc 1 _ rfl
      have hx2 : wr.cell? ⟨g,i.toNat * 3 + 2,none⟩ = some (.slice A2 (rd_T40 l0_1 i).f2.length c2):=hcc 2 _ rfl
      have hcl : net_Packet_clone.f (rd_T40 l0_1 i).f0 (rd_T40 l0_1 i).f1 (rd_T40 l0_1 i).f2 = some ((rd_T40 l0_1 i).f0,(rd_T40 l0_1 i).f1,(rd_T40 l0_1 i).f2):=by
        have:=List.all_eq_true.1 HD.out _ (List.mem_of_getElem? hx)
        unfold net_Packet_clone.f bytes_Clone.f
        rw [if_pos (odt this)]
        rfl
      have HCL:=mkA hcl
      have HC2:=mkA (And.intro hl2 (Kd.C_below hC2 hBW))
      have HIC:=mkA (show InvC w (w.heap.size + 2) g cp l0_1 i wr from⟨rows,f,hl,hR,hM⟩)
      have p1:=eq_true h0
      have p2:=eq_true hlt
      have y1:=(bkC k1 1).trans rfl
      have KK:=mkA (And.intro k1 (And.intro k2 (And.intro hsz (And.intro hBW hgk))))
      clear hlt hrow hl2 hC2 hcl hR hM hMc hl hx hcc k1 k2 hsz hBW hgk hle
      go_wp2_with fail
      have ek:=heap_alloc_new wr (.cells #[.int .i64 (rd_T40 l0_1 i).f0,.int .i64 (rd_T40 l0_1 i).f1,.slice A2 (rd_T40 l0_1 i).f2.length c2] 40)
      have eb:=bwA (Below.refl wr.heap.size wr) (.cells #[.int .i64 (rd_T40 l0_1 i).f0,.int .i64 (rd_T40 l0_1 i).f1,.slice A2 (rd_T40 l0_1 i).f2.length c2] 40)
      generalize (wr.alloc (.cells #[.int .i64 (rd_T40 l0_1 i).f0,.int .i64 (rd_T40 l0_1 i).f1,.slice A2 (rd_T40 l0_1 i).f2.length c2] 40)) = W at ek eb ⊢
      have EB:=mkA eb
      have z0:=(bkC ek 0).trans rfl
      have z1:=(bkC ek 1).trans rfl
      have z2:=(bkC ek 2).trans rfl
      have y2:=(eb.cell (blC _ _ y1)).trans y1
      have X0:=mkA hx0
      have X1:=mkA hx1
      have X2:=mkA hx2
      clear y1 ek eb hx0 hx1 hx2
      go_region_with (go_at_call 32;refine(net_Packet_clone.calls _ _ A2 c2 _ _ _ _ _ (by repeat (first|exact Kd.C_below HC2.out.2 EB.out|(with_reducible refine Kd.C_alloc ?_ _)|(with_reducible refine Kd.C_drewN ?_ _)|(with_reducible refine Kd.C_drew ?_))) HC2.out.1 HCL.out).mono ?_;rintro e w2 ⟨v2,rfl,hR2,hb2⟩;have hbw : Below wr.heap.size wr w2:=below_then (by repeat (first|exact EB.out|apply bwN|apply below_drew)) (by have:=EB.out.size;simpa using this) hb2;have y3:=(hb2.cell (p:=⟨w.heap.size,1,none⟩) (by have:=blC _ _ y2;simpa using this)).trans (show _ = some (Value.slice (some ⟨g,0,none⟩) l0_1.length cp) from by simpa using y2);obtain ⟨Av,cv,hve,_⟩:=Kd.R_reads hR2;subst hve;have hst:=InvC.step HIC.out (of_eq_true p1) (of_eq_true p2) (KK.out.2.2.1) hbw (Kd.R_lower hR2 (by have:=EB.out.size;simpa using this));have q0:=(hbw.cell (blC _ _ X0.out)).trans X0.out;have q1:=(hbw.cell (blC _ _ X1.out)).trans X1.out;have q2:=(hbw.cell (blC _ _ X2.out)).trans X2.out;obtain ⟨⟨f0,f1,f2⟩,hst2⟩:=hst;have HST:=mkA hst2;have HBW:=mkA hbw;clear hst2 hbw hR2 hb2)
      all_goals
        go_wp2
        have h2:=of_eq_true p2
        have h1:=of_eq_true p1
        have hw : wrap64 (i + 1) = i + 1:=by unfold wrap64;omega
        obtain ⟨k1,k2,hsz,hBW0,hgk⟩:=KK.out
        obtain ⟨gg,rfl⟩ : ∃ m,gk = m + 1:=⟨gk - 1,by omega⟩
        have hgB : w.heap.size + 2 ≤ g:=by
          obtain ⟨rows,f,_,hR,_⟩:=HIC.out
          obtain ⟨inner,ho⟩:=Kd.R_own hR
          exact own_base ho g rfl
        (try rw [hw])
        go_roundg gg
        case measure=>omega
        case rel =>
          refine⟨i + 1,rfl,⟨by omega,by omega,by omega,(hBW0.trans (HBW.out.mono hBW0.size)).grown HST.out.2 (by have:=HBW.out.size;have:=hBW0.size;omega) (fun j hj=>by cases hj;omega),?_,?_,?_,.inr ⟨g,rfl,HST.out.1⟩⟩⟩
          · exact(HST.out.2.block w.heap.size (by have:=HBW.out.size;omega) (by intro e;cases e;omega)).trans (bkB k1 HBW.out)
          · exact(HST.out.2.block (w.heap.size + 1) (by have:=HBW.out.size;omega) (by intro e;cases e;omega)).trans (bkB k2 HBW.out)
          · have:=HST.out.2.size;have:=HBW.out.size;omega
    · have c1 : decide (i < (l0_1.length : Int)) = false:=decide_eq_false hlt
      obtain ⟨h0,hle,hgk,hBW,k1,k2,hsz,hS⟩:=Z.out
      have y0:=(bkC k1 0).trans rfl
      have y1:=(bkC k1 1).trans rfl
      have x0:=(bkC k2 0).trans rfl
      have x1:=(bkC k2 1).trans rfl
      have f0:=bkF k2 0
      have f1:=bkF k2 1
      have hF:=hS.done (by omega)
      have HF:=mkA hF
      have K2:=mkA k2
      have HBW:=mkA hBW
      clear hF k1 k2 hBW hS hgk hle hlt
      go_wp2
      refine bodyPost_ret (results_cell_row rfl _ _ (w.heap.size + 1) 32 #[.int .i64 a0_0,.slice A l0_1.length cp] (0,0) _ rfl (blk_put (cs:=#[.int .i64 a0_0,.slice none 0 0]) (blk_put K2.out 0 _ rfl) 1 _ rfl) Try.underlying32 rfl (by kernel_rfl)) rfl ?_
      refine⟨_,rfl,?_,(HBW.out.setCell (by simp) _).setCell (by simp) _⟩
      have s1:=Kd.S_types HF.out K2.out (by decide)
      exact Kd.S_mono (Kd.S_lower (Kd.S_far (p:=⟨w.heap.size + 1,1,none⟩) (Kd.S_far (p:=⟨w.heap.size + 1,0,none⟩) s1 (fun _ hk=>hk.2) _) (fun _ hk=>hk.2) _) (by omega)) (fun _ _=>trivial)
end Go.Proofs.Ytgglmibbbjallaa.T
