/- count of bools, of ballots; better; bytes.Equal. A cell of a row of the machine's; change, answer, tellAll. answer, tellAll. settled. start. The row of ballots; look. -/
import Derived.Laws.BytesArg
import Derived.Laws.BytesString
import Derived.Test.YtojjnifbnppliaaQ05
section
namespace Go.Proofs.Ytojjnifbnppliaa.T
open Go.RowKit Go.Proofs.YtojjnifbnppliaaW.PrintWords Go.Proofs.YtojjnifbnppliaaW.PrintLast Go.Proofs.YtojjnifbnppliaaW.PrintMore
attribute [local go_sem] max2_int min2_int max_two min_two max_three min_three max_four min_four
set_option linter.unusedVariables false
set_option linter.unusedSimpArgs false
set_option maxHeartbeats 2000000 in
theorem CountBo.calls (A0 : Option Addr) (c0 : Nat) (l0 : List Bool) (p : Bool→Bool) (g : Nat) (lb : Array Value) (eg : ∀ args w,(callFunc g args).run Try.prog w = .ok (.enter g args) w) (w : World) (hr0 : Kd.C Kd.bool w A0 l0.length l0)
    (hp : ∀ (x : Bool),Calls Try.prog g (#[.bool x] ++ lb) w fun e w'=>e = .returned (.bool (p x))∧w' = w) :
    Calls Try.prog 73 #[.slice A0 l0.length c0,.func (.func g) #[] lb] w fun e w'=>e = .returned (.int .i64 (cnt p l0))∧w' = w:=by
  have HR:=Aside0.mk hr0
  have hbig : l0.length ≤ 9223372036854775807:=hr0.2.1
  clear hr0
  go_enter Try.func73,Try.ntmps73
  go_wp2
  go_loopg [5,7,10] (l0.length + 1) (fun gg s5 _ s10 wr=>∃ kk : Int,s10 = .int .i64 kk∧s5 = .int .i64 (cnt p (l0.take kk.toNat))∧wr = w∧Aside0 (0 ≤ kk∧kk ≤ l0.length∧l0.length - kk < gg))
  case atStart=>exact⟨0,rfl,by simp [cnt],rfl,⟨by omega,by omega,by omega⟩⟩
  case round =>
    obtain ⟨kk,rfl,rfl,rfl,A⟩:=hrel
    by_cases hlt : kk < l0.length
    · have c2b0 : decide (kk < (l0.length : Int)) = true:=decide_eq_true hlt
      obtain ⟨ad,e,hx0⟩:=Kd.at_bool HR.out kk A.out.1 hlt
      cases e
      have hcall:=hp (rdOf false l0 kk)
      have p1:=eq_true A.out.1
      have p2:=eq_true hlt
      have hn : kk.toNat < l0.length:=by have:=A.out.1;omega
      have hct:=cnt_take p l0 kk.toNat hn
      have hle:=(cnt_le p (l0.take kk.toNat))
      have hle2 : (l0.take kk.toNat).length < l0.length:=by rw [List.length_take];omega
      have hrd : rdOf false l0 kk = l0[kk.toNat]:=by show l0.getD kk.toNat false = _;rw [List.getD_eq_getElem?_getD,List.getElem?_eq_getElem hn];rfl
      rw [← hrd] at hct
      have hk1 : (kk + 1).toNat = kk.toNat + 1:=by have:=A.out.1;omega
      generalize hcc : cnt p (l0.take kk.toNat) = cc at *
      have hwc : wrap64 (cc + 1) = cc + 1:=by unfold wrap64;omega
      have HCT:=Aside0.mk (And.intro hct hk1)
      clear hle hle2 hct hk1 hn hrd hlt hcc
      cases hq : p (rdOf false l0 kk) with
      | true =>
        rw [hq] at hcall
        have HQ:=Aside0.mk hq
        clear hq hp
        go_wp2_with (go_at_fn g;refine hcall.mono ?_;rintro e w' ⟨rfl,rfl⟩)
        have hw : wrap64 (kk + 1) = kk + 1:=by
          have h1:=A.out.1
          have h2:=of_eq_true p2
          unfold wrap64
          omega
        have h2:=of_eq_true p2
        have hA:=A.out
        rw [hw]
        obtain ⟨gg,rfl⟩ : ∃ m,gk = m + 1:=⟨gk - 1,by omega⟩
        go_roundg gg
        case measure=>omega
        case rel=>exact⟨kk + 1,rfl,by rw [HCT.out.2,HCT.out.1,HQ.out,if_pos rfl];first|rfl|rw [hwc],rfl,⟨by omega,by omega,by omega⟩⟩
      | false =>
        rw [hq] at hcall
        have HQ:=Aside0.mk hq
        clear hq hp
        go_wp2_with (go_at_fn g;refine hcall.mono ?_;rintro e w' ⟨rfl,rfl⟩)
        have hw : wrap64 (kk + 1) = kk + 1:=by
          have h1:=A.out.1
          have h2:=of_eq_true p2
          unfold wrap64
          omega
        have h2:=of_eq_true p2
        have hA:=A.out
        rw [hw]
        obtain ⟨gg,rfl⟩ : ∃ m,gk = m + 1:=⟨gk - 1,by omega⟩
        go_roundg gg
        case measure=>omega
        case rel=>exact⟨kk + 1,rfl,by rw [HCT.out.2,HCT.out.1,HQ.out];simp,rfl,⟨by omega,by omega,by omega⟩⟩
    · have c2b0 : decide (kk < (l0.length : Int)) = false:=decide_eq_false hlt
      have hfull : l0.take kk.toNat = l0:=List.take_of_length_le (by have:=A.out.1;omega)
      rw [hfull]
      go_wp2
      go_ret
      exact⟨rfl,rfl⟩
set_option maxHeartbeats 1000000 in
theorem Look1.calls (x : Bool) (w : World) : Calls Try.prog 74 #[.bool x] w fun e w'=>e = .returned (.bool x)∧w' = w:=by
  go_enter Try.func74,Try.ntmps74
  go_wp2
  go_ret
  exact⟨rfl,rfl⟩
def cntT (l : List Bool) : Int:=cnt (fun b=>b) l
theorem CountT.calls (A0 : Option Addr) (c0 : Nat) (l0 : List Bool) (w : World) (hr0 : Kd.C Kd.bool w A0 l0.length l0) :
    Calls Try.prog 73 #[.slice A0 l0.length c0,.func (.func 74) #[] #[]] w fun e w'=>e = .returned (.int .i64 (cntT l0))∧w' = w :=
  CountBo.calls A0 c0 l0 (fun b=>b) 74 #[] (enters_of Try.func74 (by kernel_rfl) rfl) w hr0 (fun x=>Look1.calls x w)
set_option maxHeartbeats 1000000 in
theorem Start1.calls (f : Bool) (l m : Int) (A : Option Addr) (n c : Nat) (w : World) :
    Calls Try.prog 76 #[.agg #[.bool f,.int .i64 l,.slice A n c,.int .i64 m]] w fun e w'=>e = .returned (.bool f)∧Below w.heap.size w w':=by
  have hu:=Try.underlying69
  have HB:=Aside0.mk (below_alloc (Below.refl w.heap.size w) (.cells #[.bool f,.int .i64 l,.slice A n c,.int .i64 m] 69))
  go_enter Try.func76,Try.ntmps76
  go_wp2
  go_ret
  exact⟨rfl,HB.out⟩
def cntH (l : List S69) : Int:=cnt (fun b=>b.f0) l
set_option maxHeartbeats 2000000 in
theorem CountH.calls (A0 : Option Addr) (c0 : Nat) (l0 : List S69) (w : World) (hr0 : Kd.C k69 w A0 l0.length l0) :
    Calls Try.prog 75 #[.slice A0 l0.length c0,.func (.func 76) #[] #[]] w fun e w'=>e = .returned (.int .i64 (cntH l0))∧Below w.heap.size w w':=by
  have hu69:=Try.underlying69
  have HR:=Aside0.mk hr0
  have hbig : l0.length ≤ 9223372036854775807:=hr0.2.1
  clear hr0
  go_enter Try.func75,Try.ntmps75
  go_wp2
  go_loopg [5,10] (l0.length + 1) (fun gg s5 s10 wr=>∃ kk : Int,s10 = .int .i64 kk∧s5 = .int .i64 (cnt (fun b : S69=>b.f0) (l0.take kk.toNat))∧Aside0 (0 ≤ kk∧kk ≤ l0.length∧l0.length - kk < gg∧Below w.heap.size w wr))
  case atStart=>exact⟨0,rfl,by simp [cnt],⟨by omega,by omega,by omega,Below.refl _ w⟩⟩
  case round =>
    obtain ⟨kk,rfl,rfl,A⟩:=hrel
    by_cases hlt : kk < l0.length
    · have c2b0 : decide (kk < (l0.length : Int)) = true:=decide_eq_true hlt
      obtain ⟨ad,A2,c2,e,hx0,hx1,hx2,hx3,hl2,hC2⟩:=at_T69 HR.out kk A.out.1 hlt
      cases e
      have BW:=Aside0.mk A.out.2.2.2
      replace hx0:=(BW.out.cell (World.block_lt_of_cell? w _ hx0)).trans hx0
      replace hx1:=(BW.out.cell (World.block_lt_of_cell? w _ hx1)).trans hx1
      replace hx2:=(BW.out.cell (World.block_lt_of_cell? w _ hx2)).trans hx2
      replace hx3:=(BW.out.cell (World.block_lt_of_cell? w _ hx3)).trans hx3
      have p1:=eq_true A.out.1
      have p2:=eq_true hlt
      have hn : kk.toNat < l0.length:=by have:=A.out.1;omega
      have hct:=cnt_take (fun b : S69=>b.f0) l0 kk.toNat hn
      have hle:=cnt_le (fun b : S69=>b.f0) (l0.take kk.toNat)
      have hle2 : (l0.take kk.toNat).length < l0.length:=by rw [List.length_take];omega
      have hrd : rd_T69 l0 kk = l0[kk.toNat]:=by show l0.getD kk.toNat _ = _;rw [List.getD_eq_getElem?_getD,List.getElem?_eq_getElem hn];rfl
      rw [← hrd] at hct
      have hk1 : (kk + 1).toNat = kk.toNat + 1:=by have:=A.out.1;omega
      obtain ⟨f0,hf0⟩ : ∃ f,f = (rd_T69 l0 kk).f0:=⟨_,rfl⟩
      rw [← hf0] at hx0 hct
      have HBW:=Aside0.mk (fun f : Bool=>below_alloc (Below.refl wr.heap.size wr) (.cells #[.bool f,.int .i64 (rd_T69 l0 kk).f1,.slice A2 (rd_T69 l0 kk).f2.length c2,.int .i64 (rd_T69 l0 kk).f3] 69))
      generalize hcc : cnt (fun b : S69=>b.f0) (l0.take kk.toNat) = cc at *
      have hwc : wrap64 (cc + 1) = cc + 1:=by unfold wrap64;omega
      have HCT:=Aside0.mk (And.intro hct hk1)
      clear hle hle2 hct hk1 hn hrd hlt hcc hl2 hC2 hf0
      cases f0 with
      | true =>
        go_wp2_with (go_at_call 76;refine(Start1.calls true _ _ _ _ _ _).mono ?_;rintro e w' ⟨rfl,hb'⟩)
        have hw : wrap64 (kk + 1) = kk + 1:=by
          have h1:=A.out.1
          have h2:=of_eq_true p2
          unfold wrap64
          omega
        have h2:=of_eq_true p2
        have hA:=A.out
        rw [hw]
        have hb2:=Aside0.mk ((HBW.out true).trans (hb'.mono (HBW.out true).size))
        clear hb'
        obtain ⟨gg,rfl⟩ : ∃ m,gk = m + 1:=⟨gk - 1,by omega⟩
        go_roundg gg
        case measure=>omega
        case rel=>exact⟨kk + 1,rfl,by rw [HCT.out.2,HCT.out.1,hwc];simp,⟨by omega,by omega,by omega,BW.out.trans (hb2.out.mono BW.out.size)⟩⟩
      | false =>
        go_wp2_with (go_at_call 76;refine(Start1.calls false _ _ _ _ _ _).mono ?_;rintro e w' ⟨rfl,hb'⟩)
        have hw : wrap64 (kk + 1) = kk + 1:=by
          have h1:=A.out.1
          have h2:=of_eq_true p2
          unfold wrap64
          omega
        have h2:=of_eq_true p2
        have hA:=A.out
        rw [hw]
        have hb2:=Aside0.mk ((HBW.out false).trans (hb'.mono (HBW.out false).size))
        clear hb'
        obtain ⟨gg,rfl⟩ : ∃ m,gk = m + 1:=⟨gk - 1,by omega⟩
        go_roundg gg
        case measure=>omega
        case rel=>exact⟨kk + 1,rfl,by rw [HCT.out.2,HCT.out.1];simp,⟨by omega,by omega,by omega,BW.out.trans (hb2.out.mono BW.out.size)⟩⟩
    · have c2b0 : decide (kk < (l0.length : Int)) = false:=decide_eq_false hlt
      have hfull : l0.take kk.toNat = l0:=List.take_of_length_le (by have:=A.out.1;omega)
      rw [hfull]
      go_wp2
      go_ret
      exact⟨rfl,A.out.2.2.2⟩
def betterV (l1 : Int) (n1 : Nat) (l2 : Int) (n2 : Nat) : Bool:=if l1 = l2 then decide (n2 < n1) else decide (l2 < l1)
set_option maxHeartbeats 1000000 in
theorem better.calls (f1 f2 : Bool) (l1 m1 l2 m2 : Int) (A1 A2 : Option Addr) (n1 c1 n2 c2 : Nat) (w : World) :
    Calls Try.prog 77 #[.agg #[.bool f1,.int .i64 l1,.slice A1 n1 c1,.int .i64 m1],.agg #[.bool f2,.int .i64 l2,.slice A2 n2 c2,.int .i64 m2]] w fun e w'=>e = .returned (.bool (betterV l1 n1 l2 n2))∧Below w.heap.size w w':=by
  have hu:=Try.underlying69
  have HB:=Aside0.mk (below_alloc (below_alloc (Below.refl w.heap.size w) (.cells #[.bool f1,.int .i64 l1,.slice A1 n1 c1,.int .i64 m1] 69)) (.cells #[.bool f2,.int .i64 l2,.slice A2 n2 c2,.int .i64 m2] 69))
  by_cases h : l1 = l2
  · have e1 : (l1 != l2) = false:=by rw [h];simp
    have e2 : betterV l1 n1 l2 n2 = decide (n2 < n1):=by unfold betterV;rw [if_pos h]
    have e3 : (decide ((n2 : Int) < (n1 : Int))) = decide (n2 < n1):=by simp
    rw [e2]
    clear h e2
    go_enter Try.func77,Try.ntmps77
    go_wp2
    go_ret
    exact⟨by first|rfl|rw [e3]|simp,HB.out⟩
  · have e1 : (l1 != l2) = true:=bne_iff_ne.2 h
    have e2 : betterV l1 n1 l2 n2 = decide (l2 < l1):=by unfold betterV;rw [if_neg h]
    rw [e2]
    clear h e2
    go_enter Try.func77,Try.ntmps77
    go_wp2
    go_ret
    exact⟨rfl,HB.out⟩
/-- Two lists of octets, as strings. -/
def eqB (a b : List Int) : Bool:=(strOfNums a).toList == (strOfNums b).toList
theorem conv9 {w : World} {A : Option Addr} {l : List Int} (h : Kd.C (Kd.int .u8) w A l.length l) (c : Nat) : (convert 22 9 (.slice A l.length c)).run Try.prog w = .ok (.string (strOfNums l)) w:=by
  rcases A with _|ad
  · obtain rfl:=C_none h
    exact run_convert_bytes_nil w 22 5 Try.underlying22 (by kernel_rfl) _ c 9 (by kernel_rfl)
  · have hl : (loadCells ad l.length).run Try.prog w = .ok (l.map (Value.int .u8)).toArray w:=by
      have:=run_loadCells_list (P:=Try.prog) w ad (l.map (Value.int .u8)) (fun j v hj=>by
        have hjl : j < l.length:=by
          have:=(List.getElem?_eq_some_iff.1 hj).1
          simpa using this
        obtain ⟨ad',e,hx⟩:=Kd.at_int h (j : Int) (by omega) (by omega)
        cases e
        rw [Int.toNat_natCast] at hx
        rw [hx]
        rw [List.getElem?_map,List.getElem?_eq_getElem hjl] at hj
        have : rd l (j : Int) = l[j]:=by show l.getD _ 0 = _;rw [Int.toNat_natCast,List.getD_eq_getElem?_getD,List.getElem?_eq_getElem hjl];rfl
        rw [this]
        simpa using hj)
      simpa using this
    rw [run_convert_bytes_string w 22 9 5 _ l.length c Try.underlying22 (by kernel_rfl) (by kernel_rfl),run_bytesToString w _ l.length c l hl,foldl_push_bytes]
    simp [strOfNums,ByteArray.empty,ByteArray.emptyWithCapacity]
    rfl
set_option maxHeartbeats 1000000 in
theorem Equal.calls (A1 : Option Addr) (c1 : Nat) (l1 : List Int) (A2 : Option Addr) (c2 : Nat) (l2 : List Int) (w : World) (h1 : Kd.C (Kd.int .u8) w A1 l1.length l1) (h2 : Kd.C (Kd.int .u8) w A2 l2.length l2) :
    Calls Try.prog 79 #[.slice A1 l1.length c1,.slice A2 l2.length c2] w fun e w'=>e = .returned (.bool (eqB l1 l2))∧w' = w:=by
  have k1:=conv9 h1 c1
  have k2:=conv9 h2 c2
  unfold eqB
  clear h1 h2
  generalize strOfNums l1 = s1 at *
  generalize strOfNums l2 = s2 at *
  go_enter Try.func79,Try.ntmps79
  go_wp2
  go_ret
  exact⟨rfl,rfl⟩
def joinsV (log l : List (List Int)) (c : Int) : Bool:=if(l.length : Int) < c then false else(List.range c.toNat).all fun i=>eqB (rd_L1 log i) (rd_L1 l i)
theorem joinsV_no {log l : List (List Int)} {c : Int} (hlt : ¬ (l.length : Int) < c) (i : Int) (h0 : 0 ≤ i) (h1 : i < c) (h : eqB (rd_L1 log i) (rd_L1 l i) = false) : joinsV log l c = false:=by
  unfold joinsV
  rw [if_neg hlt,List.all_eq_false]
  refine⟨i.toNat,List.mem_range.2 (by omega),?_⟩
  rw [show((i.toNat : Nat) : Int) = i by omega,h]
  simp
theorem joinsV_yes {log l : List (List Int)} {c : Int} (hlt : ¬ (l.length : Int) < c) (h : ∀ i : Int,0 ≤ i→i < c→eqB (rd_L1 log i) (rd_L1 l i) = true) : joinsV log l c = true:=by
  unfold joinsV
  rw [if_neg hlt,List.all_eq_true]
  intro j hj
  exact h j (by omega) (by have:=List.mem_range.1 hj;omega)
set_option maxHeartbeats 4000000 in
set_option maxRecDepth 100000 in
theorem joins.calls (b t : Nat) (cs : Array Value) (AL : Option Addr) (cL : Nat) (log : List (List Int)) (c : Int) (A : Option Addr) (cA : Nat) (l : List (List Int)) (w : World) (hb : w.heap[b]? = some (.cells cs t (0,0))) (e5 : cs[5]? = some (.slice AL log.length cL)) (e6 : cs[6]? = some (.int .i64 c)) (hc : 0 ≤ c∧c ≤ log.length) (hL : Kd.C (Kd.slice 5 (Kd.int .u8)) w AL log.length log) (hcL : log.length ≤ cL) (hl : Kd.C (Kd.slice 5 (Kd.int .u8)) w A l.length l) :
    Calls Try.prog 78 #[.pointer (some ⟨b,0,none⟩),.slice A l.length cA] w fun e w'=>e = .returned (.bool (joinsV log l c))∧Drawn0 w w':=by
  have hu61:=Try.underlying61
  have hu29:=Try.underlying29
  have hu25:=Try.underlying25
  have x5 : w.cell? ⟨b,5,none⟩ = some (.slice AL log.length cL):=(blk_cell hb 5).trans e5
  have x6 : w.cell? ⟨b,6,none⟩ = some (.int .i64 c):=(blk_cell hb 6).trans e6
  have HL:=Aside0.mk hL
  have HA:=Aside0.mk hl
  have hbig : log.length ≤ 9223372036854775807:=hL.2.1
  clear hb e5 e6 hL hl
  by_cases hlt : (l.length : Int) < c
  · have d1 : decide ((l.length : Int) < c) = true:=decide_eq_true hlt
    have e : joinsV log l c = false:=by unfold joinsV;rw [if_pos hlt]
    rw [e]
    clear e hlt
    go_enter Try.func78,Try.ntmps78
    go_wp2
    go_ret
    exact⟨rfl,Drawn0.refl _⟩
  · have d1 : decide ((l.length : Int) < c) = false:=decide_eq_false hlt
    have HLT:=Aside0.mk hlt
    obtain ⟨cn,rfl⟩ : ∃ cn : Nat,c = (cn : Int):=⟨c.toNat,by omega⟩
    have d1n : decide (l.length < cn) = false:=decide_eq_false (by omega)
    have hc1 : (0 : Int) ≤ (cn : Int):=by omega
    have hc2 : (cn : Int) ≤ (cL : Int):=by omega
    have hc3 : cn ≤ cL:=by omega
    have HC:=Aside0.mk (And.intro hc hcL)
    clear hlt hc
    go_enter Try.func78,Try.ntmps78
    go_wp2
    go_quiet (fail)
    go_wp2
    go_loopg [27] (cn + 1) (fun gg s27 wr=>∃ i : Int,s27 = .int .i64 i∧wr = w.drewN nq∧Aside0 (0 ≤ i∧i ≤ cn∧cn - i < gg∧∀ j : Int,0 ≤ j→j < i→eqB (rd_L1 log j) (rd_L1 l j) = true))
    case atStart=>exact⟨0,rfl,rfl,⟨by omega,by omega,by omega,fun j h0 h1=>by omega⟩⟩
    case round =>
      obtain ⟨i,rfl,rfl,Z⟩:=hrel
      by_cases hi : i < (cn : Int)
      · have d2 : decide (i < (cn : Int)) = true:=decide_eq_true hi
        obtain ⟨ad,A1,c1,rfl,y0,hc10,hC1⟩:=at_L1 HL.out i Z.out.1 (by have:=HC.out;omega)
        obtain ⟨ad2,A2,c2,rfl,y1,hc20,hC2⟩:=at_L1 HA.out i Z.out.1 (by have:=HLT.out;omega)
        have EQ:=Aside0.mk (And.intro (Kd.C_drewN hC1 nq) (Kd.C_drewN hC2 nq))
        have p0:=eq_true Z.out.1
        have p1:=eq_true hi
        have p2 : (i < (l.length : Int)) = True:=eq_true (by have:=HLT.out;omega)
        have hwi : wrap64 (i + 1) = i + 1:=by have:=Z.out.1;have:=HC.out;unfold wrap64;omega
        clear hi hc10 hc20 hC1 hC2
        cases hq : eqB (rd_L1 log i) (rd_L1 l i) with
        | false =>
          have HQ:=Aside0.mk hq
          go_wp2_with (go_at_call 79;refine(Equal.calls _ _ _ _ _ _ _ EQ.out.1 EQ.out.2).mono ?_;rw [hq];rintro e w' ⟨rfl,rfl⟩)
          go_ret
          refine⟨?_,by repeat (first|exact Drawn0.refl _|apply Drawn0.step)⟩
          rw [joinsV_no (by have:=HLT.out;omega) i Z.out.1 (of_eq_true p1) HQ.out]
          rfl
        | true =>
          have HQ:=Aside0.mk hq
          go_wp2_with (go_at_call 79;refine(Equal.calls _ _ _ _ _ _ _ EQ.out.1 EQ.out.2).mono ?_;rw [hq];rintro e w' ⟨rfl,rfl⟩)
          obtain ⟨gg,rfl⟩ : ∃ m,gk = m + 1:=⟨gk - 1,by have:=Z.out;have:=of_eq_true p1;omega⟩
          go_roundg gg
          case measure=>omega
          case rel=>exact⟨i + 1,by rw [hwi],rfl,⟨by have:=Z.out;omega,by have:=of_eq_true p1;omega,by have:=Z.out;have:=of_eq_true p1;omega,fun j h0 h1=>by
            by_cases e : j = i
            · rw [e];exact HQ.out
            · exact Z.out.2.2.2 j h0 (by omega)⟩⟩
      · have d2 : decide (i < (cn : Int)) = false:=decide_eq_false hi
        go_wp2
        go_ret
        refine⟨?_,by repeat (first|exact Drawn0.refl _|apply Drawn0.step)⟩
        rw [joinsV_yes (by have:=HLT.out;omega) (fun j h0 h1=>Z.out.2.2.2 j h0 (by omega))]
        rfl
end Go.Proofs.Ytojjnifbnppliaa.T
end
section
namespace Go.Proofs.Ytojjnifbnppliaa.T
open Go.RowKit Go.Proofs.YtojjnifbnppliaaW.PrintWords Go.Proofs.YtojjnifbnppliaaW.PrintLast Go.Proofs.YtojjnifbnppliaaW.PrintMore
attribute [local go_sem] max2_int min2_int max_two min_two max_three min_three max_four min_four
set_option linter.unusedVariables false
set_option linter.unusedSimpArgs false
section
variable {w : World} {b gd : Nat} {P : Nat→Prop} {s : St} {out : List Ms}
theorem R_elem1 {α : Type} {enc : α→Value} {h1 : ∀ x,(enc x).oneCell' = true} {e base g n cap : Nat} {ok : Nat→Prop} {xs : List α} (h : (Kd.scalar enc h1).R e w base ok (.slice (some ⟨g,0,none⟩) n cap) xs) (z : α) (i : Int) (h0 : 0 ≤ i) (hi : i < n) : w.cell? ⟨g,i.toNat,none⟩ = some (enc (xs.getD i.toNat z))∧w.frozen? ⟨g,i.toNat,none⟩ = false:=by
  obtain ⟨c,hc,hM,hcell,hf⟩:=Kd.R_elem h z i h0 hi
  have h2 : c = [enc (xs.getD i.toNat z)]:=hM
  refine⟨?_,by simpa [Kd.scalar] using hf 0⟩
  have:=hcell 0 _ (by rw [h2];rfl)
  simpa [Kd.scalar] using this
/-- A cell of marks. -/
theorem Mac.marks_cell (h : Mac w b gd P s out) (hg : ¬ P gd) (hPb : ¬ P b) (i : Int) (h0 : 0 ≤ i) (hi : i < s.marks.length) : ∃ g cap,w.cell? ⟨b,8,none⟩ = some (.slice (some ⟨g,0,none⟩) s.marks.length cap)∧w.cell? ⟨g,i.toNat,none⟩ = some (.bool (s.marks.getD i.toNat false))∧w.frozen? ⟨g,i.toNat,none⟩ = false∧P g∧g ≠ b∧∀ v,Mac (w.setCell ⟨g,i.toNat,none⟩ (.bool v)) b gd P { s with marks:=s.marks.set i.toNat v } out:=by
  obtain ⟨hgl,AL,cL,AM,cM,AK,cK,AB,cB,AD,cD,AO,cO,hb,h1,h2,h3,h4,h5,h6,h7⟩:=h
  obtain ⟨g,cap,hv,_,hgl2,cells,hcg⟩:=Kd.R_form h3 (by omega)
  have hA : AK = some ⟨g,0,none⟩:=by injection hv
  have hc : cK = cap:=by injection hv
  subst hA
  subst hc
  have hPg : P g:=h3.1 g rfl
  have hgb : g ≠ b:=fun e=>hPb (e ▸ hPg)
  obtain ⟨x,f⟩:=R_elem1 h3 false i h0 hi
  refine⟨g,cK,(blk_cell hb 8).trans rfl,x,f,hPg,hgb,fun v=>?_⟩
  have hl : (s.marks.set i.toNat v).length = s.marks.length:=List.length_set
  refine⟨by simpa using hgl,AL,cL,AM,cM,some ⟨g,0,none⟩,cK,AB,cB,AD,cD,AO,cO,?_,Kd.R_set h1 hcg (by decide) _ _,Kd.R_set h2 hcg (by decide) _ _,by rw [hl];exact Kd.R_putn h3 i v,Kd.R_set h4 hcg (by decide) _ _,Kd.R_set h5 hcg (by decide) _ _,h6,Kd.F_step h7 (fun k hk _=>Below.heap_setCell w _ _ k (by have e : k = gd:=hk;subst e;intro e2;have e3 : k = g:=e2;exact hg (e3 ▸ hPg)))⟩
  have hb2:=blk_far hb (p:=⟨g,i.toNat,none⟩) (fun e=>hgb e.symm) (.bool v)
  show(w.setCell ⟨g,i.toNat,none⟩ (.bool v)).heap[b]? = _
  rw [hb2]
  simp only [hl]
end
def changeS (s : St) : St:={ s with status:=1,sent:=false,mat:=[],bals:=if primaryV s.id s.n s.view = true then List.replicate s.n.toNat z69 else [],marks:=(List.replicate s.n.toNat false).set s.id.toNat true }
set_option maxHeartbeats 8000000 in
set_option maxRecDepth 100000 in
theorem change.mac (b gd : Nat) (P : Nat→Prop) (s : St) (out : List Ms) (w : World) (hM : Mac w b gd P s out) (hP : ∀ k,w.heap.size ≤ k→P k) (hg : ¬ P gd∧gd ≠ b) (hPb : ¬ P b) (hn : 1 ≤ s.n∧s.n ≤ 9) (hid : 0 ≤ s.id∧s.id < s.n) :
    Calls Try.prog 61 #[.pointer (some ⟨b,0,none⟩)] w fun e w'=>e = .returned (.tuple #[])∧Keeps w w' (fun k=>k = b∨P k)∧Mac w' b gd P (changeS s) out:=by
  have hM0:=hM
  obtain ⟨hgl,AL,cL,AM,cM,AK,cK,AB,cB,AD,cD,AO,cO,hb,_⟩:=hM0
  have hu29:=Try.underlying29
  have x4 : w.cell? ⟨b,4,none⟩ = some (.int .i64 s.status):=(blk_cell hb 4).trans rfl
  have x9 : w.cell? ⟨b,9,none⟩ = some (.bool s.sent):=(blk_cell hb 9).trans rfl
  have x7 : w.cell? ⟨b,7,none⟩ = some (.slice AM s.mat.length cM):=(blk_cell hb 7).trans rfl
  have x10 : w.cell? ⟨b,10,none⟩ = some (.slice AB s.bals.length cB):=(blk_cell hb 10).trans rfl
  have f4:=blk_frozen hb 4
  have f9:=blk_frozen hb 9
  have f7:=blk_frozen hb 7
  have f10:=blk_frozen hb 10
  have HQ:=Aside0.mk (And.intro hP (And.intro hg (And.intro hPb (And.intro hn hid))))
  have HM1 : Aside0 (Mac ((((w.setCell ⟨b,4,none⟩ (.int .i64 1)).setCell ⟨b,9,none⟩ (.bool false)).setCell ⟨b,7,none⟩ (.slice none 0 0)).setCell ⟨b,10,none⟩ (.slice none 0 0)) b gd P { s with status:=1,sent:=false,mat:=[],bals:=[] } out):=⟨(((hM.set_status hg.2 1).set_sent hg.2 false).set_mat (A':=none) (c':=0) (l:=[]) hg.2 (Kd.R_nil _ _ _ _ _)).set_bals (A':=none) (c':=0) (l:=[]) hg.2 (Kd.R_nil _ _ _ _ _)⟩
  have HK1 : Aside0 (Keeps w ((((w.setCell ⟨b,4,none⟩ (.int .i64 1)).setCell ⟨b,9,none⟩ (.bool false)).setCell ⟨b,7,none⟩ (.slice none 0 0)).setCell ⟨b,10,none⟩ (.slice none 0 0)) (fun k=>k = b∨P k)):=⟨((((Keeps.refl w _).setCell (p:=⟨b,4,none⟩) (.inl (.inl rfl)) _).setCell (p:=⟨b,9,none⟩) (.inl (.inl rfl)) _).setCell (p:=⟨b,7,none⟩) (.inl (.inl rfl)) _).setCell (p:=⟨b,10,none⟩) (.inl (.inl rfl)) _⟩
  clear hb hM hP hg hPb hn hid
  obtain ⟨nn,hnn⟩ : ∃ nn : Nat,s.n = (nn : Int):=⟨s.n.toNat,by have:=HQ.out.2.2.2.1;omega⟩
  have HNN:=Aside0.mk hnn
  clear hnn
  cases hpr : primaryV s.id s.n s.view with
  | true =>
    have HPR:=Aside0.mk hpr
    clear hpr
    go_enter Try.func61,Try.ntmps61
    go_upto_region 1 with (fail)
    clear x4 x9 x7 x10 f4 f9 f7 f10
    generalize ((((w.setCell ⟨b,4,none⟩ (.int .i64 1)).setCell ⟨b,9,none⟩ (.bool false)).setCell ⟨b,7,none⟩ (.slice none 0 0)).setCell ⟨b,10,none⟩ (.slice none 0 0)) = W at *
    obtain ⟨_,AL1,cL1,AM1,cM1,AK1,cK1,AB1,cB1,AD1,cD1,AO1,cO1,kb,_⟩:=HM1.out
    have x1 : W.cell? ⟨b,1,none⟩ = some (.int .i64 (nn : Int)):=(blk_cell kb 1).trans (by rw [← HNN.out];rfl)
    have KB:=Aside0.mk kb
    clear kb
    go_upto_region 2 with ((with_reducible refine gate_dst (N:=19) rfl ?_);refine Kd.R_make Kd.bool (w0:=W) W.heap.size 4 rfl rfl 26 (.tmp 18) (.tmp 18) rfl (nn : Int) rfl rfl Try.underlying26 (.bool false) 1 info4 rfl (by decide) (by omega) false (ok:=fun _=>True) (okp:=fun _=>False) rfl (fun _ hk=>hk.elim) trivial (by omega) (by have h1:=HQ.out.2.2.2.1;have h2:=HNN.out;omega) (Below.refl _ _) (Nat.le_refl _) ?_;intro v1 w1 hr hb1 hgr hown;obtain ⟨A2,c2,rfl⟩:=Kd.R_slice hr;have RM:=Aside0.mk (And.intro hr hb1);have kb1:=blk_below KB.out hb1;have x8 : w1.cell? ⟨b,8,none⟩ = some (.slice AK1 s.marks.length cK1):=(blk_cell kb1 8).trans rfl;have f8:=blk_frozen kb1 8;clear hr hb1 hgr hown kb1)
    have HM2 : Aside0 (Mac (w1.setCell ⟨b,8,none⟩ (.slice A2 nn c2)) b gd P { s with status:=1,sent:=false,mat:=[],bals:=[],marks:=List.replicate nn false } out):=⟨by
      obtain ⟨hr,hb1⟩:=RM.out
      rw [Int.toNat_natCast] at hr
      have h2:=Mac.set_marks (A':=A2) (c':=c2) (l:=List.replicate nn false) (HM1.out.below hb1) HQ.out.2.1.2 (Kd.R_mono (Kd.R_lower (Kd.R_bound hr) (Nat.zero_le _)) (fun k hk=>HQ.out.1 k (Nat.le_trans HK1.out.size hk.2.1)))
      rw [List.length_replicate] at h2
      exact h2⟩
    have HK2 : Aside0 (Keeps w (w1.setCell ⟨b,8,none⟩ (.slice A2 nn c2)) (fun k=>k = b∨P k)):=⟨(HK1.out.below RM.out.2).setCell (p:=⟨b,8,none⟩) (.inl (.inl rfl)) _⟩
    clear x1 x8 f8 RM HM1 HK1 KB
    first|rw [List.length_replicate,Int.toNat_natCast]|skip
    generalize w1.setCell ⟨b,8,none⟩ (.slice A2 nn c2) = W2 at *
    obtain ⟨g,cap,y8,xg0,fg,hPg,hgb,cont⟩:=HM2.out.marks_cell HQ.out.2.1.1 HQ.out.2.2.1 s.id HQ.out.2.2.2.2.1 (by show s.id < ((List.replicate nn false).length : Int);rw [List.length_replicate,← HNN.out];exact HQ.out.2.2.2.2.2)
    have y8 : W2.cell? ⟨b,8,none⟩ = some (.slice (some ⟨g,0,none⟩) nn cap):=y8.trans (by show some (Value.slice _ (List.replicate nn false).length cap) = _;rw [List.length_replicate])
    obtain ⟨vb,xg⟩ : ∃ vb,W2.cell? ⟨g,s.id.toNat,none⟩ = some (.bool vb):=⟨_,xg0⟩
    obtain ⟨_,AL2,cL2,AM2,cM2,AK2,cK2,AB2,cB2,AD2,cD2,AO2,cO2,kb,_⟩:=HM2.out
    have x0 : W2.cell? ⟨b,0,none⟩ = some (.int .i64 s.id):=(blk_cell kb 0).trans rfl
    have i0 : (0 ≤ s.id) = True:=eq_true HQ.out.2.2.2.2.1
    have i1 : (s.id < (nn : Int)) = True:=eq_true (by rw [← HNN.out];exact HQ.out.2.2.2.2.2)
    have HM3 : Aside0 (Mac ((W2.setCell ⟨g,s.id.toNat,none⟩ (.bool true)).drew) b gd P { s with status:=1,sent:=false,mat:=[],bals:=[],marks:=(List.replicate nn false).set s.id.toNat true } out):=⟨(cont true).below (below_drew (Below.refl _ _))⟩
    have HK3 : Aside0 (Keeps w ((W2.setCell ⟨g,s.id.toNat,none⟩ (.bool true)).drew) (fun k=>k = b∨P k)):=⟨(HK2.out.setCell (p:=⟨g,s.id.toNat,none⟩) (.inl (.inr hPg)) _).drew⟩
    clear cont xg0 kb HM2 HK2 hPg hgb
    go_still_tail 9,(by kernel_rfl)
    change wpList _ _ _ _ _ W2.drew
    go_upto_region 3 with (fail)
    clear y8 xg fg x0 i0 i1
    generalize (W2.setCell ⟨g,s.id.toNat,none⟩ (.bool true)).drew = W3 at *
    obtain ⟨_,AL3,cL3,AM3,cM3,AK3,cK3,AB3,cB3,AD3,cD3,AO3,cO3,kb,_⟩:=HM3.out
    have x0 : W3.cell? ⟨b,0,none⟩ = some (.int .i64 s.id):=(blk_cell kb 0).trans rfl
    have x1 : W3.cell? ⟨b,1,none⟩ = some (.int .i64 s.n):=(blk_cell kb 1).trans rfl
    have x2 : W3.cell? ⟨b,2,none⟩ = some (.int .i64 s.view):=(blk_cell kb 2).trans rfl
    have hn0 : s.n ≠ 0:=by have:=HQ.out.2.2.2.1;omega
    have KB3:=Aside0.mk kb
    clear kb
    go_upto_region 4 with (go_at_call 33;refine(primary.calls b s.id s.n s.view hn0 _ x0 x1 x2).mono ?_;rw [HPR.out];rintro e w4 ⟨rfl,⟨m,rfl⟩⟩)
    have RM4:=Aside0.mk (pw_below_drewN (Below.refl W3.heap.size W3) m)
    have HM4 : Aside0 (Mac (W3.drewN m) b gd P { s with status:=1,sent:=false,mat:=[],bals:=[],marks:=(List.replicate nn false).set s.id.toNat true } out):=⟨HM3.out.below RM4.out⟩
    have HK4 : Aside0 (Keeps w (W3.drewN m) (fun k=>k = b∨P k)):=⟨HK3.out.drewN m⟩
    clear x0 x1 x2 RM4 HM3 HK3 KB3 hn0
    generalize W3.drewN m = W4 at *
    obtain ⟨_,AL4,cL4,AM4,cM4,AK4,cK4,AB4,cB4,AD4,cD4,AO4,cO4,kb,_⟩:=HM4.out
    have x1 : W4.cell? ⟨b,1,none⟩ = some (.int .i64 (nn : Int)):=(blk_cell kb 1).trans (by rw [← HNN.out];rfl)
    have KB:=Aside0.mk kb
    clear kb
    go_wp2_with ((with_reducible refine gate_dst (N:=38) rfl ?_);refine Kd.R_make k69 (w0:=W4) W4.heap.size 69 rfl rfl 27 (.tmp 37) (.tmp 37) rfl (nn : Int) rfl rfl Try.underlying27 (.agg #[(.bool false),(.int .i64 0),(.slice none 0 0),(.int .i64 0)]) 48 info69 rfl (by decide) (by omega) z69 (ok:=fun _=>True) (okp:=fun _=>False) (k69_mkM _ _ _ z69 (Kd.R_nil _ _ _ _ _)) (fun _ hk=>hk.elim) trivial (by omega) (by have h1:=HQ.out.2.2.2.1;have h2:=HNN.out;omega) (Below.refl _ _) (Nat.le_refl _) ?_;intro v1 w1 hr hb1 hgr hown;obtain ⟨A3,c3,rfl⟩:=Kd.R_slice hr;have RM:=Aside0.mk (And.intro hr hb1);have kb1:=blk_below KB.out hb1;have x10 : w1.cell? ⟨b,10,none⟩ = some (.slice AB4 0 cB4):=(blk_cell kb1 10).trans rfl;have f10:=blk_frozen kb1 10;clear hr hb1 hgr hown kb1)
    go_end0
    obtain ⟨hr,hb1⟩:=RM.out
    rw [Int.toNat_natCast] at hr
    refine⟨rfl,(HK4.out.below hb1).setCell (p:=⟨b,10,none⟩) (.inl (.inl rfl)) _,?_⟩
    have hfin:=Mac.set_bals (A':=A3) (c':=c3) (l:=List.replicate nn z69) (HM4.out.below hb1) HQ.out.2.1.2 (Kd.R_mono (Kd.R_lower (Kd.R_bound hr) (Nat.zero_le _)) (fun k hk=>HQ.out.1 k (Nat.le_trans HK4.out.size hk.2.1)))
    have e : changeS s = { s with status:=1,sent:=false,mat:=[],bals:=List.replicate nn z69,marks:=(List.replicate nn false).set s.id.toNat true }:=by unfold changeS;rw [HPR.out,HNN.out,Int.toNat_natCast];rfl
    rw [e]
    rw [List.length_replicate] at hfin
    exact hfin
  | false =>
    have HPR:=Aside0.mk hpr
    clear hpr
    go_enter Try.func61,Try.ntmps61
    go_upto_region 1 with (fail)
    clear x4 x9 x7 x10 f4 f9 f7 f10
    generalize ((((w.setCell ⟨b,4,none⟩ (.int .i64 1)).setCell ⟨b,9,none⟩ (.bool false)).setCell ⟨b,7,none⟩ (.slice none 0 0)).setCell ⟨b,10,none⟩ (.slice none 0 0)) = W at *
    obtain ⟨_,AL1,cL1,AM1,cM1,AK1,cK1,AB1,cB1,AD1,cD1,AO1,cO1,kb,_⟩:=HM1.out
    have x1 : W.cell? ⟨b,1,none⟩ = some (.int .i64 (nn : Int)):=(blk_cell kb 1).trans (by rw [← HNN.out];rfl)
    have KB:=Aside0.mk kb
    clear kb
    go_upto_region 2 with ((with_reducible refine gate_dst (N:=19) rfl ?_);refine Kd.R_make Kd.bool (w0:=W) W.heap.size 4 rfl rfl 26 (.tmp 18) (.tmp 18) rfl (nn : Int) rfl rfl Try.underlying26 (.bool false) 1 info4 rfl (by decide) (by omega) false (ok:=fun _=>True) (okp:=fun _=>False) rfl (fun _ hk=>hk.elim) trivial (by omega) (by have h1:=HQ.out.2.2.2.1;have h2:=HNN.out;omega) (Below.refl _ _) (Nat.le_refl _) ?_;intro v1 w1 hr hb1 hgr hown;obtain ⟨A2,c2,rfl⟩:=Kd.R_slice hr;have RM:=Aside0.mk (And.intro hr hb1);have kb1:=blk_below KB.out hb1;have x8 : w1.cell? ⟨b,8,none⟩ = some (.slice AK1 s.marks.length cK1):=(blk_cell kb1 8).trans rfl;have f8:=blk_frozen kb1 8;clear hr hb1 hgr hown kb1)
    have HM2 : Aside0 (Mac (w1.setCell ⟨b,8,none⟩ (.slice A2 nn c2)) b gd P { s with status:=1,sent:=false,mat:=[],bals:=[],marks:=List.replicate nn false } out):=⟨by
      obtain ⟨hr,hb1⟩:=RM.out
      rw [Int.toNat_natCast] at hr
      have h2:=Mac.set_marks (A':=A2) (c':=c2) (l:=List.replicate nn false) (HM1.out.below hb1) HQ.out.2.1.2 (Kd.R_mono (Kd.R_lower (Kd.R_bound hr) (Nat.zero_le _)) (fun k hk=>HQ.out.1 k (Nat.le_trans HK1.out.size hk.2.1)))
      rw [List.length_replicate] at h2
      exact h2⟩
    have HK2 : Aside0 (Keeps w (w1.setCell ⟨b,8,none⟩ (.slice A2 nn c2)) (fun k=>k = b∨P k)):=⟨(HK1.out.below RM.out.2).setCell (p:=⟨b,8,none⟩) (.inl (.inl rfl)) _⟩
    clear x1 x8 f8 RM HM1 HK1 KB
    first|rw [List.length_replicate,Int.toNat_natCast]|skip
    generalize w1.setCell ⟨b,8,none⟩ (.slice A2 nn c2) = W2 at *
    obtain ⟨g,cap,y8,xg0,fg,hPg,hgb,cont⟩:=HM2.out.marks_cell HQ.out.2.1.1 HQ.out.2.2.1 s.id HQ.out.2.2.2.2.1 (by show s.id < ((List.replicate nn false).length : Int);rw [List.length_replicate,← HNN.out];exact HQ.out.2.2.2.2.2)
    have y8 : W2.cell? ⟨b,8,none⟩ = some (.slice (some ⟨g,0,none⟩) nn cap):=y8.trans (by show some (Value.slice _ (List.replicate nn false).length cap) = _;rw [List.length_replicate])
    obtain ⟨vb,xg⟩ : ∃ vb,W2.cell? ⟨g,s.id.toNat,none⟩ = some (.bool vb):=⟨_,xg0⟩
    obtain ⟨_,AL2,cL2,AM2,cM2,AK2,cK2,AB2,cB2,AD2,cD2,AO2,cO2,kb,_⟩:=HM2.out
    have x0 : W2.cell? ⟨b,0,none⟩ = some (.int .i64 s.id):=(blk_cell kb 0).trans rfl
    have i0 : (0 ≤ s.id) = True:=eq_true HQ.out.2.2.2.2.1
    have i1 : (s.id < (nn : Int)) = True:=eq_true (by rw [← HNN.out];exact HQ.out.2.2.2.2.2)
    have HM3 : Aside0 (Mac ((W2.setCell ⟨g,s.id.toNat,none⟩ (.bool true)).drew) b gd P { s with status:=1,sent:=false,mat:=[],bals:=[],marks:=(List.replicate nn false).set s.id.toNat true } out):=⟨(cont true).below (below_drew (Below.refl _ _))⟩
    have HK3 : Aside0 (Keeps w ((W2.setCell ⟨g,s.id.toNat,none⟩ (.bool true)).drew) (fun k=>k = b∨P k)):=⟨(HK2.out.setCell (p:=⟨g,s.id.toNat,none⟩) (.inl (.inr hPg)) _).drew⟩
    clear cont xg0 kb HM2 HK2 hPg hgb
    go_still_tail 9,(by kernel_rfl)
    change wpList _ _ _ _ _ W2.drew
    go_upto_region 3 with (fail)
    clear y8 xg fg x0 i0 i1
    generalize (W2.setCell ⟨g,s.id.toNat,none⟩ (.bool true)).drew = W3 at *
    obtain ⟨_,AL3,cL3,AM3,cM3,AK3,cK3,AB3,cB3,AD3,cD3,AO3,cO3,kb,_⟩:=HM3.out
    have x0 : W3.cell? ⟨b,0,none⟩ = some (.int .i64 s.id):=(blk_cell kb 0).trans rfl
    have x1 : W3.cell? ⟨b,1,none⟩ = some (.int .i64 s.n):=(blk_cell kb 1).trans rfl
    have x2 : W3.cell? ⟨b,2,none⟩ = some (.int .i64 s.view):=(blk_cell kb 2).trans rfl
    have hn0 : s.n ≠ 0:=by have:=HQ.out.2.2.2.1;omega
    have KB3:=Aside0.mk kb
    clear kb
    go_wp2_with (go_at_call 33;refine(primary.calls b s.id s.n s.view hn0 _ x0 x1 x2).mono ?_;rw [HPR.out];rintro e w4 ⟨rfl,⟨m,rfl⟩⟩)
    go_end0
    refine⟨rfl,HK3.out.drewN m,?_⟩
    have hfin:=Mac.below HM3.out (pw_below_drewN (Below.refl _ _) m)
    have e : changeS s = { s with status:=1,sent:=false,mat:=[],bals:=[],marks:=(List.replicate nn false).set s.id.toNat true }:=by unfold changeS;rw [HPR.out,HNN.out,Int.toNat_natCast];rfl
    rw [e]
    exact hfin
end Go.Proofs.Ytojjnifbnppliaa.T
end
section
namespace Go.Proofs.Ytojjnifbnppliaa.T
open Go.RowKit Go.Proofs.YtojjnifbnppliaaW.PrintWords Go.Proofs.YtojjnifbnppliaaW.PrintLast Go.Proofs.YtojjnifbnppliaaW.PrintMore
attribute [local go_sem] max2_int min2_int max_two min_two max_three min_three max_four min_four
set_option linter.unusedVariables false
set_option linter.unusedSimpArgs false
def ansM (s : St) (q : Int) : Ms:={ kind:=2,fro:=0,dst:=q,view:=0,last:=0,prev:=0,log:=[],commit:=0,mat:=s.log.length }
theorem Keeps.tells {w w1 : World} {b : Nat} {P : Nat→Prop} (h : Keeps w w1 (Tells w b P)) : Keeps w w1 (fun k=>k = b∨P k):=h.mono (fun k hk=>hk.imp id (fun h=>h.1))
/-- A row of no messages and no machines is kept by a tell. -/
theorem R_tells {α : Type} {d : Kd α} {e base b : Nat} {ok P : Nat→Prop} {w w1 : World} {v : Value} {xs : List α} {c0 : Array Value} (h : d.R e w base ok v xs) (hk : Keeps w w1 (Tells w b P)) (hb : w.heap[b]? = some (.cells c0 61 (0,0))) (ht : ∀ q,q ∈ e :: d.E→q ≠ 61∧q ≠ 37) : d.R e w1 base ok v xs :=
  Kd.R_mono (Kd.R_step (Kd.R_bound h) (fun k hk2 hlt=>hk.block k hlt (fun hT=>by
    obtain ⟨_,_,_,q,hq,c,hc⟩:=hk2
    rcases hT with rfl|⟨_,c2,a2,hc2⟩
    · rw [hb] at hc
      injection hc with hc
      injection hc with _ hc
      exact(ht q hq).1 hc.symm
    · rw [hc2] at hc
      injection hc with hc
      injection hc with _ hc
      exact(ht q hq).2 hc.symm))) (fun k hk=>hk.1)
set_option maxHeartbeats 4000000 in
set_option maxRecDepth 100000 in
theorem answer.mac (b gd : Nat) (P : Nat→Prop) (s : St) (out : List Ms) (q : Int) (w : World) (hM : Mac w b gd P s out) (hP : ∀ k,w.heap.size ≤ k→P k) (hg : ¬ P gd∧gd ≠ b) (hlen : out.length ≤ 1000) :
    Calls Try.prog 66 #[.pointer (some ⟨b,0,none⟩),.int .i64 q] w fun e w'=>e = .returned (.tuple #[])∧Keeps w w' (fun k=>k = b∨P k)∧Mac w' b gd P s (out ++ [tellM s (ansM s q)]):=by
  have hM0:=hM
  obtain ⟨hgl,AL,cL,AM,cM,AK,cK,AB,cB,AD,cD,AO,cO,hb,_⟩:=hM0
  have hu29:=Try.underlying29
  have hu37:=Try.underlying37
  have hu25:=Try.underlying25
  have hu61:=Try.underlying61
  have x5 : w.cell? ⟨b,5,none⟩ = some (.slice AL s.log.length cL):=(blk_cell hb 5).trans rfl
  have HQ:=Aside0.mk (And.intro hM (And.intro hP (And.intro hg hlen)))
  clear hb hM hP hg hlen
  go_enter Try.func66,Try.ntmps66
  go_wp2_with (go_at_call 46;refine(tell.calls b gd P s out (ansM s q) none 0 _ HQ.out.1 HQ.out.2.1 HQ.out.2.2.1 (Kd.R_nil _ _ _ _ _) HQ.out.2.2.2).mono ?_;rintro e w4 ⟨rfl,hk4,hm4⟩;have H4:=Aside0.mk (And.intro hk4 hm4);clear hk4 hm4)
  go_end0
  exact⟨rfl,H4.out.1.tells,H4.out.2⟩
def othersV (id : Int) (k : Nat) : List Int:=((List.range k).map (fun i : Nat=>(i : Int))).filter (fun i=>i != id)
theorem othersV_step (id : Int) (k : Nat) : othersV id (k + 1) = othersV id k ++ (if((k : Int) == id) = true then [] else [(k : Int)]):=by
  unfold othersV
  rw [List.range_succ,List.map_append,List.filter_append]
  congr 1
  by_cases h : (k : Int) = id
  · simp [h]
  · simp [h]
theorem othersV_len (id : Int) (k : Nat) : (othersV id k).length ≤ k:=by
  unfold othersV
  refine Nat.le_trans (List.length_filter_le _ _) ?_
  simp
theorem othersV_mem {id : Int} {k : Nat} {i : Int} (h : i ∈ othersV id k) : 0 ≤ i∧i < k∧i ≠ id:=by
  unfold othersV at h
  obtain ⟨h1,h2⟩:=List.mem_filter.1 h
  obtain ⟨a,ha,rfl⟩:=List.mem_map.1 h1
  have:=List.mem_range.1 ha
  exact⟨by omega,by omega,by simpa using h2⟩
def tellAllM (s : St) (x : Ms) (k : Nat) : List Ms:=(othersV s.id k).map fun i=>tellM s { x with dst:=i }
theorem tellAllM_eq {s : St} {x : Ms} {k : Nat} (h : ((k : Int) == s.id) = true) : tellAllM s x (k + 1) = tellAllM s x k:=by
  unfold tellAllM;rw [othersV_step,if_pos h,List.append_nil]
theorem tellAllM_ne {s : St} {x : Ms} {k : Nat} (h : ((k : Int) == s.id) = false) : tellAllM s x (k + 1) = tellAllM s x k ++ [tellM s { x with dst:=(k : Int) }]:=by
  unfold tellAllM;rw [othersV_step,if_neg (by rw [h];simp),List.map_append];rfl
theorem tellAllM_len (s : St) (x : Ms) (k : Nat) : (tellAllM s x k).length ≤ k:=by
  unfold tellAllM;rw [List.length_map];exact othersV_len _ _
/-- What holds at the head of the loop: g is the box of the message. -/
def TA (wr : World) (g b gd : Nat) (P : Nat→Prop) (s : St) (out : List Ms) (x : Ms) (k : Nat) : Prop:=Mac wr b gd (fun k=>P k∧k ≠ g) s (out ++ tellAllM s x k)∧∃ (d : Int) (AX : Option Addr) (cX : Nat),wr.heap[g]? = some (.cells #[.int .i64 x.kind,.int .i64 x.fro,.int .i64 d,.int .i64 x.view,.int .i64 x.last,.int .i64 x.prev,.slice AX x.log.length cX,.int .i64 x.commit,.int .i64 x.mat] 37 (0,0))∧Kd.C (Kd.slice 5 (Kd.int .u8)) wr AX x.log.length x.log
set_option maxHeartbeats 8000000 in
set_option maxRecDepth 100000 in
theorem tellAll.mac (b gd : Nat) (P : Nat→Prop) (s : St) (out : List Ms) (x : Ms) (AX : Option Addr) (cX : Nat) (w : World) (hM : Mac w b gd P s out) (hP : ∀ k,w.heap.size ≤ k→P k) (hg : ¬ P gd∧gd ≠ b) (hn : 1 ≤ s.n∧s.n ≤ 9) (hX : Kd.C (Kd.slice 5 (Kd.int .u8)) w AX x.log.length x.log) (hF : x.log.length * 24 ≤ 140737488355328∧∀ y ∈ x.log,y.length < 140737488355328) (hlen : out.length ≤ 900) :
    Calls Try.prog 62 #[.pointer (some ⟨b,0,none⟩),.agg #[.int .i64 x.kind,.int .i64 x.fro,.int .i64 x.dst,.int .i64 x.view,.int .i64 x.last,.int .i64 x.prev,.slice AX x.log.length cX,.int .i64 x.commit,.int .i64 x.mat]] w fun e w'=>e = .returned (.tuple #[])∧Keeps w w' (fun k=>k = b∨P k)∧Mac w' b gd P s (out ++ tellAllM s x s.n.toNat):=by
  have hM0:=hM.box (.cells #[.int .i64 x.kind,.int .i64 x.fro,.int .i64 x.dst,.int .i64 x.view,.int .i64 x.last,.int .i64 x.prev,.slice AX x.log.length cX,.int .i64 x.commit,.int .i64 x.mat] 37)
  obtain ⟨hgl,AL,cL,AM,cM,AK,cK,AB,cB,AD,cD,AO,cO,hb,_⟩:=hM0
  have hu29:=Try.underlying29
  have hu37:=Try.underlying37
  have hu25:=Try.underlying25
  have hu61:=Try.underlying61
  obtain ⟨nn,hnn⟩ : ∃ nn : Nat,s.n = (nn : Int):=⟨s.n.toNat,by omega⟩
  have x1 : (w.alloc (.cells #[.int .i64 x.kind,.int .i64 x.fro,.int .i64 x.dst,.int .i64 x.view,.int .i64 x.last,.int .i64 x.prev,.slice AX x.log.length cX,.int .i64 x.commit,.int .i64 x.mat] 37)).cell? ⟨b,1,none⟩ = some (.int .i64 (nn : Int)):=(blk_cell hb 1).trans (by rw [← hnn];rfl)
  have HQ:=Aside0.mk (And.intro hP (And.intro hg (And.intro hn (And.intro hF (And.intro hlen hM)))))
  have HNN:=Aside0.mk hnn
  have H0:=Aside0.mk (show Keeps w (w.alloc (.cells #[.int .i64 x.kind,.int .i64 x.fro,.int .i64 x.dst,.int .i64 x.view,.int .i64 x.last,.int .i64 x.prev,.slice AX x.log.length cX,.int .i64 x.commit,.int .i64 x.mat] 37)) (fun k=>k = b∨P k)∧TA (w.alloc (.cells #[.int .i64 x.kind,.int .i64 x.fro,.int .i64 x.dst,.int .i64 x.view,.int .i64 x.last,.int .i64 x.prev,.slice AX x.log.length cX,.int .i64 x.commit,.int .i64 x.mat] 37)) w.heap.size b gd P s out x 0 from⟨(Keeps.refl w _).alloc _,by rw [show tellAllM s x 0 = [] from rfl,List.append_nil];exact hM.box _,x.dst,AX,cX,heap_alloc_new w _,Kd.C_alloc hX _⟩)
  have HB:=Aside0.mk (Nat.ne_of_lt hM.blt)
  clear hM hP hg hn hX hF hlen hb hnn
  rw [HNN.out,Int.toNat_natCast]
  go_enter Try.func62,Try.ntmps62
  go_wp2
  go_loopg [4,10] (nn + 1) (fun gg _ s10 wr=>∃ kk : Nat,s10 = .int .i64 (kk : Int)∧Aside0 (kk ≤ nn∧nn - kk < gg∧Keeps w wr (fun k=>k = b∨P k)∧TA wr w.heap.size b gd P s out x kk))
  case atStart=>exact⟨0,rfl,⟨Nat.zero_le _,by omega,H0.out.1,H0.out.2⟩⟩
  case round =>
    obtain ⟨kk,rfl,A⟩:=hrel
    clear H0
    have hkk:=A.out.1
    have hn9:=HQ.out.2.2.1
    have hN:=HNN.out
    have hw : wrap64 ((kk : Int) + 1) = ((kk + 1 : Nat) : Int):=by unfold wrap64;omega
    by_cases hlt : kk < nn
    · have c1 : decide ((kk : Int) < (nn : Int)) = true:=decide_eq_true (by omega)
      obtain ⟨hkp,hm,d,A1,c1',kg,hC⟩:=A.out.2.2
      have hm0:=hm
      obtain ⟨hgl1,AL1,cL1,AM1,cM1,AK1,cK1,AB1,cB1,AD1,cD1,AO1,cO1,kb,_⟩:=hm
      have y0 : wr.cell? ⟨b,0,none⟩ = some (.int .i64 s.id):=(blk_cell kb 0).trans rfl
      cases hid : ((kk : Int) == s.id) with
      | true =>
        have HID:=Aside0.mk hid
        clear hkp hgl1 kb kg hC hN hn9 hkk
        go_wp2
        have hA:=A.out
        rw [hw]
        obtain ⟨gg,rfl⟩ : ∃ m,gk = m + 1:=⟨gk - 1,by omega⟩
        go_roundg gg
        case measure=>omega
        case rel=>exact⟨kk + 1,rfl,⟨by omega,by omega,hA.2.2.1,by obtain ⟨m1,m2⟩:=hA.2.2.2;exact⟨by rw [tellAllM_eq HID.out];exact m1,m2⟩⟩⟩
      | false =>
        have HID:=Aside0.mk hid
        have z6 : wr.cell? ⟨w.heap.size,6,none⟩ = some (.slice A1 x.log.length c1'):=(blk_cell kg 6).trans rfl
        have KG:=Aside0.mk (And.intro kg (And.intro hC (And.intro hkp hm0)))
        clear hkp hgl1 kb kg hC hN hn9 hkk hm0
        go_upto_region 6 with (go_at_call 41;refine(cloneLog.calls A1 c1' x.log _ KG.out.2.1 HQ.out.2.2.2.1.1 HQ.out.2.2.2.1.2).mono ?_;rintro e w2 ⟨v,rfl,hR2,hb2⟩;obtain ⟨A2,c2,rfl⟩:=Kd.R_slice hR2;have kg2:=blk_below KG.out.1 hb2;have f2:=blk_frozen kg2 2;have f6:=blk_frozen kg2 6;have y2 : w2.cell? ⟨w.heap.size,2,none⟩ = some (.int .i64 d):=(blk_cell kg2 2).trans rfl;have y6 : w2.cell? ⟨w.heap.size,6,none⟩ = some (.slice A1 x.log.length c1'):=(blk_cell kg2 6).trans rfl;have C2:=Aside0.mk (And.intro hR2 (And.intro hb2 kg2));clear hR2 hb2 kg2)
        have HW:=Aside0.mk (show Keeps w ((w2.setCell ⟨w.heap.size,2,none⟩ (.int .i64 (kk : Int))).setCell ⟨w.heap.size,6,none⟩ (.slice A2 x.log.length c2)) (fun k=>k = b∨P k)∧Mac ((w2.setCell ⟨w.heap.size,2,none⟩ (.int .i64 (kk : Int))).setCell ⟨w.heap.size,6,none⟩ (.slice A2 x.log.length c2)) b gd (fun k=>P k∧k ≠ w.heap.size) s (out ++ tellAllM s x kk)∧((w2.setCell ⟨w.heap.size,2,none⟩ (.int .i64 (kk : Int))).setCell ⟨w.heap.size,6,none⟩ (.slice A2 x.log.length c2)).heap[w.heap.size]? = some (.cells #[.int .i64 x.kind,.int .i64 x.fro,.int .i64 (kk : Int),.int .i64 x.view,.int .i64 x.last,.int .i64 x.prev,.slice A2 x.log.length c2,.int .i64 x.commit,.int .i64 x.mat] 37 (0,0))∧(Kd.slice 5 (Kd.int .u8)).R 22 ((w2.setCell ⟨w.heap.size,2,none⟩ (.int .i64 (kk : Int))).setCell ⟨w.heap.size,6,none⟩ (.slice A2 x.log.length c2)) 0 (fun k=>P k∧k ≠ w.heap.size) (.slice A2 x.log.length c2) x.log from by
          obtain ⟨hR2,hb2,kg2⟩:=C2.out
          have hlt2 : w.heap.size < wr.heap.size:=blk_lt KG.out.1
          refine⟨((KG.out.2.2.1.below hb2).setCell (p:=⟨w.heap.size,2,none⟩) (.inr (Nat.le_refl _)) _).setCell (p:=⟨w.heap.size,6,none⟩) (.inr (Nat.le_refl _)) _,?_,?_,?_⟩
          · exact KG.out.2.2.2.keeps (((Keeps.of_belows hb2 (fun k=>k = w.heap.size)).set_ 2 _).set_ 6 _) (fun k hk=>⟨fun h=>h.2 hk,fun e=>HB.out (by omega),fun e=>by have:=HQ.out.2.2.2.2.2.gdlt;omega⟩)
          · exact blk_put (blk_put kg2 2 _ rfl) 6 _ rfl
          · exact Kd.R_set (Kd.R_set (Kd.R_mono (Kd.R_lower (Kd.R_bound hR2) (Nat.zero_le _)) (fun k hk=>⟨HQ.out.1 k (by have:=hk.2.1;omega),by have:=hk.2.1;omega⟩)) kg2 (by decide) 2 _) (blk_put kg2 2 _ rfl) (by decide) 6 _)
        clear C2 KG f2 f6 y2 y6 y0 z6
        generalize (w2.setCell ⟨w.heap.size,2,none⟩ (.int .i64 (kk : Int))).setCell ⟨w.heap.size,6,none⟩ (.slice A2 x.log.length c2) = W at *
        have kx:=HW.out.2.2.1
        have z0 : W.cell? ⟨w.heap.size,0,none⟩ = some (.int .i64 x.kind):=(blk_cell kx 0).trans rfl
        have z1 : W.cell? ⟨w.heap.size,1,none⟩ = some (.int .i64 x.fro):=(blk_cell kx 1).trans rfl
        have z2 : W.cell? ⟨w.heap.size,2,none⟩ = some (.int .i64 (kk : Int)):=(blk_cell kx 2).trans rfl
        have z3 : W.cell? ⟨w.heap.size,3,none⟩ = some (.int .i64 x.view):=(blk_cell kx 3).trans rfl
        have z4 : W.cell? ⟨w.heap.size,4,none⟩ = some (.int .i64 x.last):=(blk_cell kx 4).trans rfl
        have z5 : W.cell? ⟨w.heap.size,5,none⟩ = some (.int .i64 x.prev):=(blk_cell kx 5).trans rfl
        have z6 : W.cell? ⟨w.heap.size,6,none⟩ = some (.slice A2 x.log.length c2):=(blk_cell kx 6).trans rfl
        have z7 : W.cell? ⟨w.heap.size,7,none⟩ = some (.int .i64 x.commit):=(blk_cell kx 7).trans rfl
        have z8 : W.cell? ⟨w.heap.size,8,none⟩ = some (.int .i64 x.mat):=(blk_cell kx 8).trans rfl
        clear kx
        go_wp2_with (go_at_call 46;refine(tell.calls b gd _ s _ { x with dst:=(kk : Int) } A2 c2 _ HW.out.2.1 (fun k hk=>⟨HQ.out.1 k (by have:=HW.out.1.size;omega),by have:=blk_lt HW.out.2.2.1;omega⟩) ⟨fun h=>HQ.out.2.1.1 h.1,HQ.out.2.1.2⟩ HW.out.2.2.2 (by have h1:=tellAllM_len s x kk;have h2:=HQ.out.2.2.2.2.1;rw [List.length_append];have h3:=A.out.1;have h4:=HQ.out.2.2.1;have h5:=HNN.out;omega)).mono ?_;rintro e w4 ⟨rfl,hk4,hm4⟩;have H4:=Aside0.mk (And.intro hk4 hm4);clear hk4 hm4)
        have hA:=A.out
        have hN:=HNN.out
        have hn9:=HQ.out.2.2.1
        rw [hw]
        obtain ⟨gg,rfl⟩ : ∃ m,gk = m + 1:=⟨gk - 1,by omega⟩
        go_roundg gg
        case measure=>omega
        case rel =>
          refine⟨kk + 1,rfl,⟨by omega,by omega,HW.out.1.trans' H4.out.1 (fun k hk=>?_),?_,kk,A2,c2,?_,?_⟩⟩
          · rcases hk with h|h
            · exact .inl (.inl h)
            · exact .inl (.inr h.1.1)
          · have:=H4.out.2
            rw [List.append_assoc] at this
            rw [tellAllM_ne HID.out]
            exact this
          · have h0:=HW.out.2.2.1
            rw [← h0]
            exact H4.out.1.block _ (blk_lt h0) (fun h=>by
              rcases h with h|h
              · exact HB.out h.symm
              · exact h.1.2 rfl)
          · obtain ⟨_,AL3,cL3,AM3,cM3,AK3,cK3,AB3,cB3,AD3,cD3,AO3,cO3,kb3,_⟩:=HW.out.2.1
            exact(Kd.R_reads' (R_tells HW.out.2.2.2 H4.out.1 kb3 (by decide))).2.2
    · have c1 : decide ((kk : Int) < (nn : Int)) = false:=decide_eq_false (by omega)
      have e : kk = nn:=by omega
      subst e
      go_wp2
      go_end0
      exact⟨rfl,A.out.2.2.1,A.out.2.2.2.1.mono (fun k hk=>hk.1)⟩
end Go.Proofs.Ytojjnifbnppliaa.T
end
section
namespace Go.Proofs.Ytojjnifbnppliaa.T
open Go.RowKit Go.Proofs.YtojjnifbnppliaaW.PrintWords Go.Proofs.YtojjnifbnppliaaW.PrintLast Go.Proofs.YtojjnifbnppliaaW.PrintMore
attribute [local go_sem] max2_int min2_int max_two min_two max_three min_three max_four min_four
set_option linter.unusedVariables false
set_option linter.unusedSimpArgs false
theorem cell_off {w : World} {b i j : Nat} {v u : Value} (h : w.cell? ⟨b,i,none⟩ = some u) (hij : j ≠ i) : (w.setCell ⟨b,j,none⟩ v).cell? ⟨b,i,none⟩ = some u:=(World.cell?_setCell_other w _ _ v (fun e=>hij (by injection e))).trans h
/-- Lists of octets that fit. -/
def FitsL (l : List (List Int)) : Prop:=l.length * 24 ≤ 140737488355328∧∀ y ∈ l,y.length < 140737488355328
def settledE (s : St) (l : List (List Int)) : Option Int:=if joinsV s.log l s.commit = true then none else some 9
def settledS (s : St) (l : List (List Int)) (c : Int) : St:={ s with log:=l,commit:=max s.commit (min c l.length),status:=0,last:=s.view,sent:=false,elapsed:=0,marks:=[],bals:=[],mat:=[] }
set_option maxHeartbeats 8000000 in
set_option maxRecDepth 100000 in
theorem settled.mac (b gd : Nat) (P : Nat→Prop) (s : St) (out : List Ms) (A : Option Addr) (cA : Nat) (l : List (List Int)) (c : Int) (w : World) (hM : Mac w b gd P s out) (hP : ∀ k,w.heap.size ≤ k→P k) (hg : ¬ P gd∧gd ≠ b) (hl : Kd.C (Kd.slice 5 (Kd.int .u8)) w A l.length l) (hF : FitsL l) (hc : 0 ≤ s.commit∧s.commit ≤ s.log.length) :
    Calls Try.prog 68 #[.pointer (some ⟨b,0,none⟩),.slice A l.length cA,.int .i64 c] w fun e w'=>Keeps w w' (fun k=>k = b∨P k)∧Ends (settledE s l) e (Mac w' b gd P (settledS s l c) out):=by
  have hM0:=hM
  obtain ⟨hgl,AL,cL,AM,cM,AK,cK,AB,cB,AD,cD,AO,cO,hb,h1,_⟩:=hM0
  have hu29:=Try.underlying29
  have hu25:=Try.underlying25
  have hu61:=Try.underlying61
  have hu27:=Try.underlying27
  have hu26:=Try.underlying26
  have hu23:=Try.underlying23
  have HQ:=Aside0.mk (And.intro hM (And.intro hP (And.intro hg (And.intro hl (And.intro hF (And.intro hc (And.intro hb (And.intro (Kd.R_reads' h1).2.2 (Kd.R_reads' h1).2.1))))))))
  clear hM hP hg hl hF hc hb h1
  cases hj : joinsV s.log l s.commit with
  | false =>
    have e : settledE s l = some 9:=by unfold settledE;rw [hj];rfl
    rw [e]
    have HJ:=Aside0.mk hj
    clear hj e
    go_enter Try.func68,Try.ntmps68
    go_wp2_with (first|(go_at_call 78;refine(joins.calls b _ _ AL cL s.log s.commit A cA l _ HQ.out.2.2.2.2.2.2.1 rfl rfl HQ.out.2.2.2.2.2.1 HQ.out.2.2.2.2.2.2.2.1 HQ.out.2.2.2.2.2.2.2.2 HQ.out.2.2.2.1).mono ?_;rw [HJ.out];rintro e w1 ⟨rfl,⟨m,rfl⟩⟩)|(go_at_call_of 44 (Value.bool true);refine(fail_bad.calls _ _ _).mono ?_;rintro e w' ⟨rfl,rfl⟩))
    exact⟨rfl,(Keeps.refl w _).drewN m,rfl⟩
  | true =>
    have e : settledE s l = none:=by unfold settledE;rw [hj];rfl
    rw [e]
    have HJ:=Aside0.mk hj
    clear hj e
    go_enter Try.func68,Try.ntmps68
    go_upto_region 1 with (first|(go_at_call 78;refine(joins.calls b _ _ AL cL s.log s.commit A cA l _ HQ.out.2.2.2.2.2.2.1 rfl rfl HQ.out.2.2.2.2.2.1 HQ.out.2.2.2.2.2.2.2.1 HQ.out.2.2.2.2.2.2.2.2 HQ.out.2.2.2.1).mono ?_;rw [HJ.out];rintro e w1 ⟨rfl,⟨m,rfl⟩⟩)|(go_at_call_of 44 (Value.bool false);refine(fail_ok.calls _ _ _).mono ?_;rintro e w' ⟨rfl,rfl⟩))
    have HW:=Aside0.mk (show Keeps w (w.drewN m) (fun k=>k = b∨P k)∧Mac (w.drewN m) b gd P s out∧Kd.C (Kd.slice 5 (Kd.int .u8)) (w.drewN m) A l.length l∧(∀ k,(w.drewN m).heap.size ≤ k→P k) from⟨(Keeps.refl w _).drewN m,HQ.out.1.below (pw_below_drewN (Below.refl _ _) m),Kd.C_drewN HQ.out.2.2.2.1 m,fun k hk=>HQ.out.2.1 k (by simpa using hk)⟩)
    generalize w.drewN m = W at *
    obtain ⟨_,AL1,cL1,AM1,cM1,AK1,cK1,AB1,cB1,AD1,cD1,AO1,cO1,kb,_⟩:=HW.out.2.1
    have x6 : W.cell? ⟨b,6,none⟩ = some (.int .i64 s.commit):=(blk_cell kb 6).trans rfl
    have KB:=Aside0.mk kb
    clear kb
    obtain ⟨mm,hmm⟩ : ∃ mm : Int,(if(l.length : Int) < c then(l.length : Int) else c) = mm:=⟨_,rfl⟩
    obtain ⟨mx,hmx⟩ : ∃ mx : Int,(if s.commit < mm then mm else s.commit) = mx:=⟨_,rfl⟩
    refine Code.wp_mono (Q:=Exit.then (fun a w'=>∃ A2 c2 w2,a = ⟨#[Value.pointer (some ⟨b,0,none⟩),Value.slice A l.length cA,Value.int .i64 c,undef,undef,undef,Value.pointer (some ⟨b,0,none⟩),Value.pointer (some ⟨b,0,none⟩),Value.slice A l.length cA,Value.bool true,Value.bool false,Value.tuple #[],Value.pointer (some ⟨b,0,none⟩),Value.pointer (some ⟨b,0,none⟩),Value.slice A l.length cA,Value.slice A2 l.length c2,Value.pointer (some ⟨b,0,none⟩),Value.pointer (some ⟨b,0,none⟩),Value.pointer (some ⟨b,0,none⟩),Value.pointer (some ⟨b,6,none⟩),Value.int .i64 s.commit,Value.int .i64 c,Value.slice A l.length cA,Value.int .i64 (l.length : Int),Value.int .i64 mm,Value.int .i64 mx,Value.pointer (some ⟨b,0,none⟩),Value.pointer (some ⟨b,0,none⟩),Value.pointer (some ⟨b,5,none⟩),Value.pointer (some ⟨b,0,none⟩),Value.pointer (some ⟨b,0,none⟩),Value.pointer (some ⟨b,6,none⟩),undef,undef,undef,undef,undef,undef,undef,undef,undef,undef,undef,undef,undef,undef,undef,undef,undef,undef,undef,undef,undef,undef,undef,undef,undef,undef,undef,undef,undef,undef,undef,undef,undef],[]⟩∧w' = ((w2.setCell ⟨b,5,none⟩ (.slice A2 l.length c2)).setCell ⟨b,6,none⟩ (.int .i64 mx))∧(Kd.slice 5 (Kd.int .u8)).R 22 w2 W.drew.heap.size (fun _=>True) (.slice A2 l.length c2) l∧Below W.drew.heap.size W.drew w2) (fun _ _ _=>False)) ?hmono ?hreg
    case hreg =>
      go_region_with
      ((go_at_call 41;refine(cloneLog.calls A cA l _ (Kd.C_drew HW.out.2.2.1) HQ.out.2.2.2.2.1.1 HQ.out.2.2.2.2.1.2).mono ?_;rintro e w2 ⟨v,rfl,hR2,hb2⟩;obtain ⟨A2,c2,rfl⟩:=Kd.R_slice hR2;have kb2:=blk_below (blk_drew KB.out) hb2;have y6 : w2.cell? ⟨b,6,none⟩ = some (.int .i64 s.commit):=(blk_cell kb2 6).trans rfl;have y5 : w2.cell? ⟨b,5,none⟩ = some (.slice AL1 s.log.length cL1):=(blk_cell kb2 5).trans rfl;have f5:=blk_frozen kb2 5;have f6:=blk_frozen kb2 6;have C2:=Aside0.mk (And.intro hR2 hb2);clear hR2 hb2 kb2))
      all_goals exact⟨A2,c2,w2,rfl,rfl,C2.out⟩
    case hmono =>
      intro e_ a_ w_ h_
      have he : e_ = .normal:=by cases e_ <;> first|rfl|exact h_.elim
      subst he
      obtain ⟨A2,c2,w2,rfl,rfl,hC2⟩:=h_
      have HMX:=Aside0.mk (show max s.commit (min c (l.length : Int)) = mx from by rw [← hmx,← hmm];split <;> split <;> omega)
      have H2:=Aside0.mk (show Keeps w ((w2.setCell ⟨b,5,none⟩ (.slice A2 l.length c2)).setCell ⟨b,6,none⟩ (.int .i64 mx)) (fun k=>k = b∨P k)∧Mac ((w2.setCell ⟨b,5,none⟩ (.slice A2 l.length c2)).setCell ⟨b,6,none⟩ (.int .i64 mx)) b gd P { s with log:=l,commit:=mx } out from by
        have hk2:=HW.out.1.drew.below hC2.2
        have hr2:=Kd.R_mono (Kd.R_lower (Kd.R_bound hC2.1) (Nat.zero_le _)) (ok':=P) (fun k hk=>HW.out.2.2.2 k (by have:=hk.2.1;simpa using this))
        refine⟨(hk2.setCell (p:=⟨b,5,none⟩) (.inl (.inl rfl)) _).setCell (p:=⟨b,6,none⟩) (.inl (.inl rfl)) _,?_⟩
        exact(Mac.set_log (A':=A2) (c':=c2) (l:=l) ((HW.out.2.1.below (below_drew (Below.refl _ _))).below hC2.2) HQ.out.2.2.1.2 hr2).set_commit HQ.out.2.2.1.2 mx)
      clear hC2 hmm hmx x6 KB HW
      generalize ((w2.setCell ⟨b,5,none⟩ (.slice A2 l.length c2)).setCell ⟨b,6,none⟩ (.int .i64 mx)) = W2 at *
      obtain ⟨_,AL2,cL2,AM2,cM2,AK2,cK2,AB2,cB2,AD2,cD2,AO2,cO2,kb,_⟩:=H2.out.2
      have x2 : W2.cell? ⟨b,2,none⟩ = some (.int .i64 s.view):=(blk_cell kb 2).trans rfl
      have x3 : W2.cell? ⟨b,3,none⟩ = some (.int .i64 s.last):=(blk_cell kb 3).trans rfl
      have x4 : W2.cell? ⟨b,4,none⟩ = some (.int .i64 s.status):=(blk_cell kb 4).trans rfl
      have x7 : W2.cell? ⟨b,7,none⟩ = some (.slice AM2 s.mat.length cM2):=(blk_cell kb 7).trans rfl
      have x8 : W2.cell? ⟨b,8,none⟩ = some (.slice AK2 s.marks.length cK2):=(blk_cell kb 8).trans rfl
      have x9 : W2.cell? ⟨b,9,none⟩ = some (.bool s.sent):=(blk_cell kb 9).trans rfl
      have x10 : W2.cell? ⟨b,10,none⟩ = some (.slice AB2 s.bals.length cB2):=(blk_cell kb 10).trans rfl
      have x11 : W2.cell? ⟨b,11,none⟩ = some (.int .i64 s.elapsed):=(blk_cell kb 11).trans rfl
      have f3:=blk_frozen kb 3
      have f4:=blk_frozen kb 4
      have f7:=blk_frozen kb 7
      have f8:=blk_frozen kb 8
      have f9:=blk_frozen kb 9
      have f10:=blk_frozen kb 10
      have f11:=blk_frozen kb 11
      clear kb
      go_wp2
      go_end0
      have hgb:=HQ.out.2.2.1.2
      have K2:=H2.out.1
      have e : settledS s l c = { s with log:=l,commit:=mx,status:=0,last:=s.view,sent:=false,elapsed:=0,marks:=[],bals:=[],mat:=[] }:=by unfold settledS;rw [HMX.out]
      refine⟨((((((K2.setCell (p:=⟨b,4,none⟩) (.inl (.inl rfl)) _).setCell (p:=⟨b,3,none⟩) (.inl (.inl rfl)) _).setCell (p:=⟨b,9,none⟩) (.inl (.inl rfl)) _).setCell (p:=⟨b,11,none⟩) (.inl (.inl rfl)) _).setCell (p:=⟨b,8,none⟩) (.inl (.inl rfl)) _).setCell (p:=⟨b,10,none⟩) (.inl (.inl rfl)) _).setCell (p:=⟨b,7,none⟩) (.inl (.inl rfl)) _,rfl,?_⟩
      rw [e]
      exact((((((H2.out.2.set_status hgb 0).set_last hgb s.view).set_sent hgb false).set_elapsed hgb 0).set_marks (A':=none) (c':=0) (l:=[]) hgb (Kd.R_nil _ _ _ _ _)).set_bals (A':=none) (c':=0) (l:=[]) hgb (Kd.R_nil _ _ _ _ _)).set_mat (A':=none) (c':=0) (l:=[]) hgb (Kd.R_nil _ _ _ _ _)
end Go.Proofs.Ytojjnifbnppliaa.T
end
section
namespace Go.Proofs.Ytojjnifbnppliaa.T
open Go.RowKit Go.Proofs.YtojjnifbnppliaaW.PrintWords Go.Proofs.YtojjnifbnppliaaW.PrintLast Go.Proofs.YtojjnifbnppliaaW.PrintMore
attribute [local go_sem] max2_int min2_int max_two min_two max_three min_three max_four min_four
set_option linter.unusedVariables false
set_option linter.unusedSimpArgs false
def bestStep (acc : S69 × Int) (y : S69) : S69 × Int:=if y.f0 = true then(if acc.1.f0 = false∨betterV y.f1 y.f2.length acc.1.f1 acc.1.f2.length = true then y else acc.1,max acc.2 y.f3) else acc
def bestV (l : List S69) (c : Int) : S69 × Int:=l.foldl bestStep (z69,c)
/-- Are there ballots enough? -/
def startGo (s : St) : Bool:=(rd_T69 s.bals s.id).f0 && mostV s.n (cntH s.bals)
def startE (s : St) : Option Int:=if startGo s = true then settledE s (bestV s.bals s.commit).1.f2 else none
def startS1 (s : St) : St:=leadS (settledS s (bestV s.bals s.commit).1.f2 (bestV s.bals s.commit).2)
def startS (s : St) : St:=if startGo s = true then agreeS (startS1 s) else s
def startMsg (s : St) : Ms:={ kind:=5,fro:=0,dst:=0,view:=0,last:=0,prev:=0,log:=s.log,commit:=s.commit,mat:=0 }
def startM (s : St) : List Ms:=if startGo s = true then tellAllM (startS1 s) (startMsg (startS1 s)) s.n.toNat else []
/-- What start asks of the state. -/
structure StartOk (s : St) : Prop where
  n : 1 ≤ s.n∧s.n ≤ 9
  id : 0 ≤ s.id∧s.id < s.n
  len : (s.bals.length : Int) = s.n
  com : 0 ≤ s.commit∧s.commit ≤ s.log.length
  fit : ∀ y ∈ s.bals,FitsL y.f2∧y.f2.length ≤ 1000000
theorem bestV_fit (l : List S69) (c : Int) (h : ∀ y ∈ l,FitsL y.f2∧y.f2.length ≤ 1000000) : FitsL (bestV l c).1.f2∧(bestV l c).1.f2.length ≤ 1000000:=by
  have key : ∀ (l : List S69) (acc : S69 × Int),(FitsL acc.1.f2∧acc.1.f2.length ≤ 1000000)→(∀ y ∈ l,FitsL y.f2∧y.f2.length ≤ 1000000)→FitsL (l.foldl bestStep acc).1.f2∧(l.foldl bestStep acc).1.f2.length ≤ 1000000:=by
    intro l
    induction l with
    | nil=>intro acc ha _;exact ha
    | cons y r ih =>
      intro acc ha hl
      refine ih _ ?_ (fun z hz=>hl z (List.mem_cons_of_mem _ hz))
      unfold bestStep
      split
      · split
        · exact hl y (List.mem_cons_self ..)
        · exact ha
      · exact ha
  refine key l _ ⟨⟨Nat.zero_le _,fun y hy=>by cases hy⟩,Nat.zero_le _⟩ h
theorem joinsV_len {log l : List (List Int)} {c : Int} (h : joinsV log l c = true) : c ≤ l.length:=by
  unfold joinsV at h
  by_cases h2 : (l.length : Int) < c
  · rw [if_pos h2] at h;cases h
  · omega
/-- What holds of the best ballot's box, g, at the head of the loop. -/
def StI (wr W : World) (g : Nat) (s : St) (k : Nat) : Prop:=∃ (A : Option Addr) (c : Nat),wr.heap[g]? = some (.cells #[.bool (bestV (s.bals.take k) s.commit).1.f0,.int .i64 (bestV (s.bals.take k) s.commit).1.f1,.slice A (bestV (s.bals.take k) s.commit).1.f2.length c,.int .i64 (bestV (s.bals.take k) s.commit).1.f3] 69 (0,0))∧Kd.C (Kd.slice 5 (Kd.int .u8)) W A (bestV (s.bals.take k) s.commit).1.f2.length (bestV (s.bals.take k) s.commit).1.f2
set_option maxHeartbeats 8000000 in
set_option maxRecDepth 100000 in
theorem start.mac (b gd : Nat) (P : Nat→Prop) (s : St) (out : List Ms) (w : World) (hM : Mac w b gd P s out) (hP : ∀ k,w.heap.size ≤ k→P k) (hg : ¬ P gd∧gd ≠ b) (hPb : ¬ P b) (hs : StartOk s) (hlen : out.length ≤ 900) :
    Calls Try.prog 67 #[.pointer (some ⟨b,0,none⟩)] w fun e w'=>Keeps w w' (fun k=>k = b∨P k)∧Ends (startE s) e (Mac w' b gd P (startS s) (out ++ startM s)):=by
  have hM0:=hM
  obtain ⟨hgl,AL,cL,AM,cM,AK,cK,AB,cB,AD,cD,AO,cO,hb,_,_,_,h4,_⟩:=hM0
  have hu29:=Try.underlying29
  have hu25:=Try.underlying25
  have hu61:=Try.underlying61
  have hu27:=Try.underlying27
  have hu69:=Try.underlying69
  have hu37:=Try.underlying37
  have HQ:=Aside0.mk (And.intro hM (And.intro hP (And.intro hg (And.intro hPb (And.intro hs (And.intro hlen (And.intro hb (Kd.R_reads' h4).2.2)))))))
  obtain ⟨ad,A2,c2,e,hx0,hx1,hx2,hx3,hl2,hC2⟩:=at_T69 HQ.out.2.2.2.2.2.2.2 s.id hs.id.1 (by have:=hs.len;have:=hs.id;omega)
  cases e
  have x0 : w.cell? ⟨b,0,none⟩ = some (.int .i64 s.id):=(blk_cell hb 0).trans rfl
  have x1 : w.cell? ⟨b,1,none⟩ = some (.int .i64 s.n):=(blk_cell hb 1).trans rfl
  have x10 : w.cell? ⟨b,10,none⟩ = some (.slice (some ad) s.bals.length cB):=(blk_cell hb 10).trans rfl
  have i0 : (0 ≤ s.id) = True:=eq_true hs.id.1
  have i1 : (s.id < (s.bals.length : Int)) = True:=eq_true (by have:=hs.len;have:=hs.id;omega)
  clear hM hP hg hPb hs hlen hb h4 hx1 hx2 hx3 hl2 hC2
  cases hf : (rd_T69 s.bals s.id).f0 with
  | false =>
    have HF:=Aside0.mk hf
    rw [hf] at hx0
    go_enter Try.func67,Try.ntmps67
    go_wp2
    go_quiet (fail)
    go_wp2
    (first|go_end0|refine bodyPost_ret (results_none rfl _ _ _) rfl ?_)
    have e1 : startGo s = false:=by unfold startGo;rw [HF.out];rfl
    have e2 : startE s = none:=by unfold startE;rw [e1];rfl
    have e3 : startS s = s:=by unfold startS;rw [e1];rfl
    have e4 : startM s = []:=by unfold startM;rw [e1];rfl
    rw [e2,e3,e4,List.append_nil]
    exact⟨(Keeps.refl w _).drewN _,rfl,HQ.out.1.below (pw_below_drewN (Below.refl _ _) _)⟩
  | true =>
    have HF:=Aside0.mk hf
    rw [hf] at hx0
    have hb0 : b < w.heap.size:=HQ.out.1.blt
    cases hm : mostV s.n (cntH s.bals) with
    | false =>
      have HMO:=Aside0.mk hm
      clear hm
      go_enter Try.func67,Try.ntmps67
      go_wp2
      go_region_held3 (fun W'=>W'.cell? ⟨b,0,none⟩ = some (.int .i64 s.id)∧W'.cell? ⟨b,1,none⟩ = some (.int .i64 s.n)∧W'.cell? ⟨b,10,none⟩ = some (.slice (some ad) s.bals.length cB)∧W'.cell? (ad.add (s.id.toNat * 4)) = some (.bool true)) (go_keep)
        ((first|(go_at_call 75;refine(CountH.calls (some ad) cB s.bals _ (Kd.C_drew HQ.out.2.2.2.2.2.2.2)).mono ?_;rintro e w1 ⟨rfl,hb1⟩;have y0:=(hb1.cell (World.block_lt_of_cell? _ _ x0)).trans x0;have y1:=(hb1.cell (World.block_lt_of_cell? _ _ x1)).trans x1;have y10:=(hb1.cell (World.block_lt_of_cell? _ _ x10)).trans x10;have y11:=(hb1.cell (World.block_lt_of_cell? _ _ hx0)).trans hx0;have HB1:=Aside0.mk hb1;clear hb1)|(go_at_call 69;refine(most.calls b s.n _ HQ.out.2.2.2.2.1.n _ (by assumption)).mono ?_;rw [HMO.out];rintro e w' ⟨rfl,rfl⟩)))
      all_goals
        go_wp2
        (first|go_end0|refine bodyPost_ret (results_none rfl _ _ _) rfl ?_)
        have e1 : startGo s = false:=by unfold startGo;rw [HMO.out,HF.out];rfl
        have e2 : startE s = none:=by unfold startE;rw [e1];rfl
        have e3 : startS s = s:=by unfold startS;rw [e1];rfl
        have e4 : startM s = []:=by unfold startM;rw [e1];rfl
        rw [e2,e3,e4,List.append_nil]
        exact⟨(Keeps.refl w _).drew.below HB1.out,rfl,(HQ.out.1.below (below_drew (Below.refl _ _))).below HB1.out⟩
    | true =>
      have HMO:=Aside0.mk hm
      clear hm
      go_enter Try.func67,Try.ntmps67
      go_wp2
      go_region_held3 (fun W'=>W'.cell? ⟨b,0,none⟩ = some (.int .i64 s.id)∧W'.cell? ⟨b,1,none⟩ = some (.int .i64 s.n)∧W'.cell? ⟨b,10,none⟩ = some (.slice (some ad) s.bals.length cB)∧W'.cell? (ad.add (s.id.toNat * 4)) = some (.bool true)) (go_keep)
        ((first|(go_at_call 75;refine(CountH.calls (some ad) cB s.bals _ (Kd.C_drew HQ.out.2.2.2.2.2.2.2)).mono ?_;rintro e w1 ⟨rfl,hb1⟩;have y0:=(hb1.cell (World.block_lt_of_cell? _ _ x0)).trans x0;have y1:=(hb1.cell (World.block_lt_of_cell? _ _ x1)).trans x1;have y10:=(hb1.cell (World.block_lt_of_cell? _ _ x10)).trans x10;have y11:=(hb1.cell (World.block_lt_of_cell? _ _ hx0)).trans hx0;have HB1:=Aside0.mk hb1;clear hb1)|(go_at_call 69;refine(most.calls b s.n _ HQ.out.2.2.2.2.1.n _ (by assumption)).mono ?_;rw [HMO.out];rintro e w' ⟨rfl,rfl⟩)))
      all_goals
        have HW:=Aside0.mk (show Keeps w w' (fun k=>k = b∨P k)∧Mac w' b gd P s out∧(∀ k,w'.heap.size ≤ k→P k) from⟨(Keeps.refl w _).drew.below HB1.out,(HQ.out.1.below (below_drew (Below.refl _ _))).below HB1.out,fun k hk=>HQ.out.2.1 k (Nat.le_trans ((Keeps.refl w (fun _=>True)).drew.below HB1.out).size hk)⟩)
        have HQ2:=Aside0.mk (And.intro HQ.out.2.2.1 (And.intro HQ.out.2.2.2.1 (And.intro HQ.out.2.2.2.2.1 HQ.out.2.2.2.2.2.1)))
        clear HB1 HQ y0 y1 y10 y11 x0 x1 x10 hx0 i0 i1
        generalize hW : w' = W at *
        obtain ⟨_,AL1,cL1,AM1,cM1,AK1,cK1,AB1,cB1,AD1,cD1,AO1,cO1,kb,_,_,_,h4,_⟩:=HW.out.2.1
        have HC:=Aside0.mk (And.intro (Kd.R_reads' h4).2.2 kb)
        clear kb h4
        go_upto_region 2 with (fail)
        have kb:=blk_alloc HC.out.2 (.cells #[.bool false,.int .i64 0,.slice none 0 0,.int .i64 0] 69)
        have x6 : (W.alloc (.cells #[.bool false,.int .i64 0,.slice none 0 0,.int .i64 0] 69)).cell? ⟨b,6,none⟩ = some (.int .i64 s.commit):=(blk_cell kb 6).trans rfl
        have x10 : (W.alloc (.cells #[.bool false,.int .i64 0,.slice none 0 0,.int .i64 0] 69)).cell? ⟨b,10,none⟩ = some (.slice AB1 s.bals.length cB1):=(blk_cell kb 10).trans rfl
        have H1:=Aside0.mk (show Below W.heap.size W (W.alloc (.cells #[.bool false,.int .i64 0,.slice none 0 0,.int .i64 0] 69))∧StI (W.alloc (.cells #[.bool false,.int .i64 0,.slice none 0 0,.int .i64 0] 69)) W W.heap.size s 0 from⟨below_alloc (Below.refl _ _) _,none,0,heap_alloc_new W _,Kd.C_nil _ _⟩)
        clear kb
        generalize W.alloc (.cells #[.bool false,.int .i64 0,.slice none 0 0,.int .i64 0] 69) = W1 at *
        go_wp2
        go_loopg [3,5,42] (s.bals.length + 1) (fun gg s3 _ s42 wr=>∃ kk : Nat,s42 = .int .i64 (kk : Int)∧s3 = .int .i64 (bestV (s.bals.take kk) s.commit).2∧Aside0 (kk ≤ s.bals.length∧s.bals.length - kk < gg∧Below W.heap.size W wr∧StI wr W W.heap.size s kk))
        case atStart=>exact⟨0,rfl,rfl,⟨Nat.zero_le _,by omega,H1.out.1,H1.out.2⟩⟩
        case round =>
          obtain ⟨kk,rfl,rfl,A⟩:=hrel
          clear H1 x6 x10
          by_cases hlt : kk < s.bals.length
          · have c1 : decide ((kk : Int) < (s.bals.length : Int)) = true:=decide_eq_true (by omega)
            obtain ⟨ad1,A2,c2,e,hx0,hx1,hx2,hx3,hl2,hC2⟩:=at_T69 HC.out.1 (kk : Int) (by omega) (by omega)
            cases e
            have BW:=Aside0.mk A.out.2.2.1
            replace hx0:=(BW.out.cell (World.block_lt_of_cell? W _ hx0)).trans hx0
            replace hx1:=(BW.out.cell (World.block_lt_of_cell? W _ hx1)).trans hx1
            replace hx2:=(BW.out.cell (World.block_lt_of_cell? W _ hx2)).trans hx2
            replace hx3:=(BW.out.cell (World.block_lt_of_cell? W _ hx3)).trans hx3
            rw [Int.toNat_natCast] at hx0 hx1 hx2 hx3
            have p1 : (0 ≤ (kk : Int)) = True:=eq_true (by omega)
            have p2 : ((kk : Int) < (s.bals.length : Int)) = True:=eq_true (by omega)
            have hrd : rd_T69 s.bals (kk : Int) = s.bals[kk]:=by show s.bals.getD _ _ = _;rw [Int.toNat_natCast,List.getD_eq_getElem?_getD,List.getElem?_eq_getElem hlt];rfl
            have HST:=Aside0.mk (show bestV (s.bals.take (kk + 1)) s.commit = bestStep (bestV (s.bals.take kk) s.commit) (rd_T69 s.bals (kk : Int)) from by
              rw [hrd];unfold bestV;rw [List.take_succ_eq_append_getElem hlt,List.foldl_append];rfl)
            obtain ⟨Ab,cb,kbox,hCb⟩:=A.out.2.2.2
            have HX:=Aside0.mk (And.intro hC2 (And.intro kbox hCb))
            clear hrd hl2 hC2 kbox hCb
            generalize rd_T69 s.bals (kk : Int) = y at *
            go_upto_region 6 with (fail)
            obtain ⟨B,hB⟩ : ∃ B,bestV (s.bals.take kk) s.commit = B:=⟨_,rfl⟩
            rw [hB] at HX HST ⊢
            have HB5:=Aside0.mk (show Below W.heap.size W (wr.alloc (.cells #[.bool y.f0,.int .i64 y.f1,.slice A2 y.f2.length c2,.int .i64 y.f3] 69))∧wr.heap.size ≠ W.heap.size from⟨below_alloc BW.out _,by have:=blk_lt HX.out.2.1;omega⟩)
            have k5:=heap_alloc_new wr (.cells #[.bool y.f0,.int .i64 y.f1,.slice A2 y.f2.length c2,.int .i64 y.f3] 69)
            have kx:=blk_alloc HX.out.2.1 (.cells #[.bool y.f0,.int .i64 y.f1,.slice A2 y.f2.length c2,.int .i64 y.f3] 69)
            have ne5 : ¬ (wr.heap.size = W.heap.size):=HB5.out.2
            have hA:=A.out
            have HA:=Aside0.mk (And.intro hA.1 hA.2.1)
            clear hA A hx0 hx1 hx2 hx3 BW hB
            generalize wr.heap.size = g5 at *
            generalize wr.alloc (.cells #[.bool y.f0,.int .i64 y.f1,.slice A2 y.f2.length c2,.int .i64 y.f3] 69) = W5 at *
            have z0 : W5.cell? ⟨g5,0,none⟩ = some (.bool y.f0):=(blk_cell k5 0).trans rfl
            have z1 : W5.cell? ⟨g5,1,none⟩ = some (.int .i64 y.f1):=(blk_cell k5 1).trans rfl
            have z2 : W5.cell? ⟨g5,2,none⟩ = some (.slice A2 y.f2.length c2):=(blk_cell k5 2).trans rfl
            have z3 : W5.cell? ⟨g5,3,none⟩ = some (.int .i64 y.f3):=(blk_cell k5 3).trans rfl
            have hw : wrap64 ((kk : Int) + 1) = ((kk + 1 : Nat) : Int):=by have:=HQ2.out.2.2.1.len;have:=HQ2.out.2.2.1.n;unfold wrap64;omega
            cases hy : y.f0 with
            | false =>
              rw [hy] at z0
              have EB : bestStep B y = B:=by unfold bestStep;rw [hy,if_neg (by simp)]
              rw [EB] at HST
              have HK:=Aside0.mk (And.intro kx k5)
              clear kx k5 EB hy
              go_wp2
              rw [hw]
              obtain ⟨gg,rfl⟩ : ∃ m,gk = m + 1:=⟨gk - 1,by have:=HA.out;omega⟩
              have hA:=HA.out
              go_roundg gg
              case measure=>omega
              case rel=>exact⟨kk + 1,rfl,by rw [HST.out],⟨by omega,by omega,HB5.out.1,Ab,cb,by rw [HST.out];exact HK.out.1,by rw [HST.out];exact HX.out.2.2⟩⟩
            | true =>
              rw [hy] at z0
              obtain ⟨mx,hmx⟩ : ∃ mx : Int,(if B.2 < y.f3 then y.f3 else B.2) = mx:=⟨_,rfl⟩
              have q0 : W5.cell? ⟨W.heap.size,0,none⟩ = some (.bool B.1.f0):=(blk_cell kx 0).trans rfl
              have q1 : W5.cell? ⟨W.heap.size,1,none⟩ = some (.int .i64 B.1.f1):=(blk_cell kx 1).trans rfl
              have q2 : W5.cell? ⟨W.heap.size,2,none⟩ = some (.slice Ab B.1.f2.length cb):=(blk_cell kx 2).trans rfl
              have q3 : W5.cell? ⟨W.heap.size,3,none⟩ = some (.int .i64 B.1.f3):=(blk_cell kx 3).trans rfl
              have l0:=blk_frozen kx 0
              have l1:=blk_frozen kx 1
              have l2:=blk_frozen kx 2
              have l3:=blk_frozen kx 3
              have HMX:=Aside0.mk (show max B.2 y.f3 = mx from by rw [← hmx];split <;> omega)
              have HK:=Aside0.mk (And.intro kx (And.intro k5 hy))
              clear kx k5 hy
              cases hbf : B.1.f0 with
              | false =>
                rw [hbf] at q0
                have EB : bestStep B y = (y,mx):=by unfold bestStep;rw [HK.out.2.2,hbf,if_pos rfl,if_pos (.inl rfl),HMX.out]
                rw [EB] at HST
                clear EB
                go_wp2
                rw [hw]
                obtain ⟨gg,rfl⟩ : ∃ m,gk = m + 1:=⟨gk - 1,by have:=HA.out;omega⟩
                have hA:=HA.out
                go_roundg gg
                case measure=>omega
                case rel=>exact⟨kk + 1,rfl,by rw [HST.out],⟨by omega,by omega,below_set (below_set (below_set (below_set (HB5.out.1) (Nat.le_refl _)) (Nat.le_refl _)) (Nat.le_refl _)) (Nat.le_refl _),A2,c2,by rw [HST.out];show _ = some (Obj.cells #[Value.bool y.f0,_,_,_] _ _);rw [HK.out.2.2];exact blk_put (blk_put (blk_put (blk_put HK.out.1 0 (.bool true) rfl) 1 (.int .i64 y.f1) rfl) 2 (.slice A2 y.f2.length c2) rfl) 3 (.int .i64 y.f3) rfl,by rw [HST.out];exact HX.out.1⟩⟩
              | true =>
                rw [hbf] at q0
                clear q1 q2 q3 l0 l1 l2 l3
                have q1 : W5.cell? ⟨W.heap.size,1,none⟩ = some (.int .i64 B.1.f1):=(blk_cell HK.out.1 1).trans rfl
                have q2 : W5.cell? ⟨W.heap.size,2,none⟩ = some (.slice Ab B.1.f2.length cb):=(blk_cell HK.out.1 2).trans rfl
                have q3 : W5.cell? ⟨W.heap.size,3,none⟩ = some (.int .i64 B.1.f3):=(blk_cell HK.out.1 3).trans rfl
                cases hbv : betterV y.f1 y.f2.length B.1.f1 B.1.f2.length with
                | false =>
                  have EB : bestStep B y = (B.1,mx):=by unfold bestStep;rw [HK.out.2.2,if_pos rfl,hbf,hbv,if_neg (by simp),HMX.out]
                  rw [EB] at HST
                  have HBV:=Aside0.mk hbv
                  have HBF:=Aside0.mk hbf
                  clear EB hbv hbf
                  go_wp2_with (go_at_call 77;refine(better.calls true true y.f1 y.f3 B.1.f1 B.1.f3 A2 Ab y.f2.length c2 B.1.f2.length cb _).mono ?_;rw [HBV.out];rintro e w6 ⟨rfl,hb6⟩;have H6:=Aside0.mk hb6;clear hb6)
                  rw [hw]
                  obtain ⟨gg,rfl⟩ : ∃ m,gk = m + 1:=⟨gk - 1,by have:=HA.out;omega⟩
                  have hA:=HA.out
                  go_roundg gg
                  case measure=>omega
                  case rel=>exact⟨kk + 1,rfl,by rw [HST.out],⟨by omega,by omega,HB5.out.1.trans (H6.out.mono HB5.out.1.size),Ab,cb,by rw [HST.out];exact blk_below HK.out.1 H6.out,by rw [HST.out];exact HX.out.2.2⟩⟩
                | true =>
                  have EB : bestStep B y = (y,mx):=by unfold bestStep;rw [HK.out.2.2,if_pos rfl,hbf,hbv,if_pos (.inr rfl),HMX.out]
                  rw [EB] at HST
                  have HBV:=Aside0.mk hbv
                  have HBF:=Aside0.mk hbf
                  clear EB hbv hbf
                  go_wp2_with (go_at_call 77;refine(better.calls true true y.f1 y.f3 B.1.f1 B.1.f3 A2 Ab y.f2.length c2 B.1.f2.length cb _).mono ?_;rw [HBV.out];rintro e w6 ⟨rfl,hb6⟩;have H6:=Aside0.mk hb6;have kx6:=blk_below HK.out.1 hb6;have k56:=blk_below HK.out.2.1 hb6;have z0 : w6.cell? ⟨g5,0,none⟩ = some (.bool true):=(blk_cell k56 0).trans (by rw [← HK.out.2.2];rfl);have z1 : w6.cell? ⟨g5,1,none⟩ = some (.int .i64 y.f1):=(blk_cell k56 1).trans rfl;have z2 : w6.cell? ⟨g5,2,none⟩ = some (.slice A2 y.f2.length c2):=(blk_cell k56 2).trans rfl;have z3 : w6.cell? ⟨g5,3,none⟩ = some (.int .i64 y.f3):=(blk_cell k56 3).trans rfl;have q0 : w6.cell? ⟨W.heap.size,0,none⟩ = some (.bool B.1.f0):=(blk_cell kx6 0).trans rfl;have q1 : w6.cell? ⟨W.heap.size,1,none⟩ = some (.int .i64 B.1.f1):=(blk_cell kx6 1).trans rfl;have q2 : w6.cell? ⟨W.heap.size,2,none⟩ = some (.slice Ab B.1.f2.length cb):=(blk_cell kx6 2).trans rfl;have q3 : w6.cell? ⟨W.heap.size,3,none⟩ = some (.int .i64 B.1.f3):=(blk_cell kx6 3).trans rfl;have l0:=blk_frozen kx6 0;have l1:=blk_frozen kx6 1;have l2:=blk_frozen kx6 2;have l3:=blk_frozen kx6 3;clear hb6 kx6 k56)
                  rw [hw]
                  obtain ⟨gg,rfl⟩ : ∃ m,gk = m + 1:=⟨gk - 1,by have:=HA.out;omega⟩
                  have hA:=HA.out
                  go_roundg gg
                  case measure=>omega
                  case rel=>exact⟨kk + 1,rfl,by rw [HST.out],⟨by omega,by omega,below_set (below_set (below_set (below_set (HB5.out.1.trans (H6.out.mono HB5.out.1.size)) (Nat.le_refl _)) (Nat.le_refl _)) (Nat.le_refl _)) (Nat.le_refl _),A2,c2,by rw [HST.out];show _ = some (Obj.cells #[Value.bool y.f0,_,_,_] _ _);rw [HK.out.2.2];exact blk_put (blk_put (blk_put (blk_put (blk_below HK.out.1 H6.out) 0 (.bool true) rfl) 1 (.int .i64 y.f1) rfl) 2 (.slice A2 y.f2.length c2) rfl) 3 (.int .i64 y.f3) rfl,by rw [HST.out];exact HX.out.1⟩⟩
          · have c1 : decide ((kk : Int) < (s.bals.length : Int)) = false:=decide_eq_false (by omega)
            have c1n : decide (kk < s.bals.length) = false:=decide_eq_false hlt
            have e : s.bals.take kk = s.bals:=List.take_of_length_le (by omega)
            obtain ⟨Ab,cb,kbox,hCb⟩:=A.out.2.2.2
            rw [e] at kbox hCb ⊢
            obtain ⟨B,hB⟩ : ∃ B,bestV s.bals s.commit = B:=⟨_,rfl⟩
            have HBV:=Aside0.mk hB
            have HBF:=Aside0.mk (bestV_fit s.bals s.commit HQ2.out.2.2.1.fit)
            rw [hB] at kbox hCb HBF ⊢
            have hbW:=A.out.2.2.1
            have HR:=Aside0.mk (show Keeps w wr (fun k=>k = b∨P k)∧Mac wr b gd P s out∧(∀ k,wr.heap.size ≤ k→P k)∧Kd.C (Kd.slice 5 (Kd.int .u8)) wr Ab B.1.f2.length B.1.f2 from⟨HW.out.1.below hbW,HW.out.2.1.below hbW,fun k hk=>HW.out.2.2 k (Nat.le_trans hbW.size hk),Kd.C_below hCb hbW⟩)
            have q2 : wr.cell? ⟨W.heap.size,2,none⟩ = some (.slice Ab B.1.f2.length cb):=(blk_cell kbox 2).trans rfl
            have eg : startGo s = true:=by unfold startGo;rw [HMO.out,HF.out];rfl
            have eE : startE s = settledE s B.1.f2:=by unfold startE;rw [if_pos eg,hB]
            have eS1 : startS1 s = leadS (settledS s B.1.f2 B.2):=by unfold startS1;rw [hB]
            have eS : startS s = agreeS (leadS (settledS s B.1.f2 B.2)):=by unfold startS;rw [if_pos eg,eS1]
            have eM : startM s = tellAllM (leadS (settledS s B.1.f2 B.2)) (startMsg (leadS (settledS s B.1.f2 B.2))) s.n.toNat:=by unfold startM;rw [if_pos eg,eS1]
            have HE:=Aside0.mk (And.intro eE (And.intro eS eM))
            clear A hB hCb kbox hbW eg eE eS1 eS eM e
            cases hse : settledE s B.1.f2 with
            | some code =>
              have HSE:=Aside0.mk hse
              clear hse
              go_wp2_with ((go_at_call 68;refine(settled.mac b gd P s out Ab cb B.1.f2 B.2 wr HR.out.2.1 HR.out.2.2.1 HQ2.out.1 HR.out.2.2.2 HBF.out.1 HQ2.out.2.2.1.com).mono ?_;rw [HSE.out];rintro e w6 ⟨hk6,he⟩;have H6:=Aside0.mk hk6;have he2 : e = .panicked [{ v:=.iface 30 (.int .i64 code),recovered:=false }]:=he;subst he2;clear hk6 he))
              rw [HE.out.1,HSE.out]
              exact⟨rfl,HR.out.1.trans' H6.out (fun k hk=>.inl hk),rfl⟩
            | none =>
              have HSE:=Aside0.mk hse
              have HJ:=Aside0.mk (show s.commit ≤ (B.1.f2.length : Int) from by unfold settledE at hse;split at hse;exact joinsV_len (by assumption);cases hse)
              clear hse
              go_upto_region 13 with (first|(go_at_call 68;refine(settled.mac b gd P s out Ab cb B.1.f2 B.2 wr HR.out.2.1 HR.out.2.2.1 HQ2.out.1 HR.out.2.2.2 HBF.out.1 HQ2.out.2.2.1.com).mono ?_;rw [HSE.out];rintro e w6 ⟨hk6,he⟩;have H6:=Aside0.mk (And.intro hk6 he.2);have he2 : e = .returned (.tuple #[]):=he.1;subst he2;clear hk6 he)|(go_at_call 17;refine(lead.mac b gd P (settledS s B.1.f2 B.2) out _ H6.out.2 (fun k hk=>HR.out.2.2.1 k (Nat.le_trans H6.out.1.size hk)) HQ2.out.1.2 HQ2.out.2.1 HQ2.out.2.2.1.n HQ2.out.2.2.1.id).mono ?_;rintro e w7 ⟨rfl,hk7,hm7⟩;have H7:=Aside0.mk (And.intro hk7 hm7);clear hk7 hm7))
              have HR7:=Aside0.mk (show Keeps w w7 (fun k=>k = b∨P k)∧(∀ k,w7.heap.size ≤ k→P k) from⟨(HR.out.1.trans' H6.out.1 (fun k hk=>.inl hk)).trans' H7.out.1 (fun k hk=>.inl hk),fun k hk=>HR.out.2.2.1 k (Nat.le_trans (Nat.le_trans H6.out.1.size H7.out.1.size) hk)⟩)
              clear H6 HR q2 HC HW
              obtain ⟨s2,hs2⟩ : ∃ s2,leadS (settledS s B.1.f2 B.2) = s2:=⟨_,rfl⟩
              have e2 : s2.log = B.1.f2∧s2.n = s.n∧s2.id = s.id∧s2.commit = max s.commit (min B.2 (B.1.f2.length : Int)):=by subst hs2;exact⟨rfl,rfl,rfl,rfl⟩
              rw [hs2] at H7 HE
              obtain ⟨_,AL7,cL7,AM7,cM7,AK7,cK7,AB7,cB7,AD7,cD7,AO7,cO7,kb,h1,_⟩:=H7.out.2
              have x5 : w7.cell? ⟨b,5,none⟩ = some (.slice AL7 s2.log.length cL7):=(blk_cell kb 5).trans rfl
              have x6 : w7.cell? ⟨b,6,none⟩ = some (.int .i64 s2.commit):=(blk_cell kb 6).trans rfl
              have HL:=Aside0.mk (show Kd.C (Kd.slice 5 (Kd.int .u8)) w7 AL7 s2.log.length s2.log∧FitsL s2.log∧(1 ≤ s2.n∧s2.n ≤ 9)∧(0 ≤ s2.commit∧s2.commit ≤ s2.log.length)∧s2.log.length ≤ 1000000∧s2.n = s.n from⟨(Kd.R_reads' h1).2.2,by rw [e2.1];exact HBF.out.1,by rw [e2.2.1];exact HQ2.out.2.2.1.n,by rw [e2.1,e2.2.2.2];have:=HJ.out;have:=HQ2.out.2.2.1.com;omega,by rw [e2.1];exact HBF.out.2,e2.2.1⟩)
              clear kb h1 hs2 e2
              go_still_tail 12,(by kernel_rfl)
              change wpList _ _ _ _ _ w7.drew
              go_wp2_with (first|(go_at_call 62;refine(tellAll.mac b gd P s2 out (startMsg s2) AL7 cL7 _ (H7.out.2.below (below_drew (Below.refl _ _))) (fun k hk=>HR7.out.2 k hk) HQ2.out.1 HL.out.2.2.1 (Kd.C_drew HL.out.1) HL.out.2.1 HQ2.out.2.2.2).mono ?_;rintro e w8 ⟨rfl,hk8,hm8⟩;have H8:=Aside0.mk (And.intro hk8 hm8);clear hk8 hm8)|(go_at_call 55;refine(agree.mac b gd P s2 _ _ H8.out.2 HQ2.out.1.2 HQ2.out.2.1 HL.out.2.2.1 HL.out.2.2.2.1 HL.out.2.2.2.2.1).mono ?_;rintro e w9 ⟨rfl,hk9,hm9⟩;have H9:=Aside0.mk (And.intro hk9 hm9);clear hk9 hm9))
              go_end0
              rw [HE.out.1,HSE.out,HE.out.2.1,HE.out.2.2,← HL.out.2.2.2.2.2]
              exact⟨(HR7.out.1.drew.trans' H8.out.1 (fun k hk=>.inl hk)).trans' H9.out.1 (fun k hk=>.inl hk),rfl,H9.out.2⟩
end Go.Proofs.Ytojjnifbnppliaa.T
end
section
namespace Go.Proofs.Ytojjnifbnppliaa.T
open Go.RowKit Go.Proofs.YtojjnifbnppliaaW.PrintWords Go.Proofs.YtojjnifbnppliaaW.PrintLast Go.Proofs.YtojjnifbnppliaaW.PrintMore
attribute [local go_sem] max2_int min2_int max_two min_two max_three min_three max_four min_four
set_option linter.unusedVariables false
set_option linter.unusedSimpArgs false
/-- What an inner call answers: an error, or the state and what it told. -/
def EndsR (r : Except Int (St × List Ms)) (e : Ending) (ok : St→List Ms→Prop) : Prop:=match r with
  | .error c=>e = .panicked [{ v:=.iface 30 (.int .i64 c),recovered:=false }]
  | .ok y=>e = .returned (.tuple #[])∧ok y.1 y.2
def ofEnds (er : Option Int) (s : St) (ms : List Ms) : Except Int (St × List Ms):=match er with
  | some c=>.error c
  | none=>.ok (s,ms)
theorem EndsR_of {er : Option Int} {s : St} {ms : List Ms} {e : Ending} {ok : St→List Ms→Prop} (h : Ends er e (ok s ms)) : EndsR (ofEnds er s ms) e ok:=by
  cases er with
  | some c=>exact h
  | none=>exact h
def startR (s : St) : Except Int (St × List Ms):=ofEnds (startE s) (startS s) (startM s)
section
variable {w : World} {b gd : Nat} {P : Nat→Prop} {s : St} {out : List Ms}
/-- A ballot of the machine's row. -/
theorem Mac.bals_cell (h : Mac w b gd P s out) (hg : ¬ P gd) (hPb : ¬ P b) (i : Int) (h0 : 0 ≤ i) (hi : i < s.bals.length) : ∃ g cap,w.cell? ⟨b,10,none⟩ = some (.slice (some ⟨g,0,none⟩) s.bals.length cap)∧(∃ u0 u1 u2 u3,w.cell? ⟨g,i.toNat * 4,none⟩ = some u0∧w.cell? ⟨g,i.toNat * 4 + 1,none⟩ = some u1∧w.cell? ⟨g,i.toNat * 4 + 2,none⟩ = some u2∧w.cell? ⟨g,i.toNat * 4 + 3,none⟩ = some u3)∧(∃ cells,w.heap[g]? = some (.cells cells 69 (0,0)))∧P g∧g ≠ b∧g < w.heap.size ∧
    ∀ (w2 : World) (x : S69) (A2 : Option Addr) (c2 : Nat),Below w.heap.size w w2→(Kd.slice 5 (Kd.int .u8)).R 22 w2 0 (fun k=>P k∧k ≠ g) (.slice A2 x.f2.length c2) x.f2→Mac ((((w2.setCell ⟨g,i.toNat * 4,none⟩ (.bool x.f0)).setCell ⟨g,i.toNat * 4 + 1,none⟩ (.int .i64 x.f1)).setCell ⟨g,i.toNat * 4 + 2,none⟩ (.slice A2 x.f2.length c2)).setCell ⟨g,i.toNat * 4 + 3,none⟩ (.int .i64 x.f3)) b gd P { s with bals:=s.bals.set i.toNat x } out:=by
  have hM:=h
  obtain ⟨hgl,AL,cL,AM,cM,AK,cK,AB,cB,AD,cD,AO,cO,hb,h1,h2,h3,h4,h5,h6,h7⟩:=h
  obtain ⟨g,cap,hv,_,hgl2,cells,hcg⟩:=Kd.R_form h4 (by omega)
  have hA : AB = some ⟨g,0,none⟩:=by injection hv
  have hc : cB = cap:=by injection hv
  subst hA
  subst hc
  have hPg : P g:=h4.1 g rfl
  have hgb : g ≠ b:=fun e=>hPb (e ▸ hPg)
  obtain ⟨c,hcl,hMc,hcc,hfr⟩:=Kd.R_elem h4 z69 i h0 hi
  have hcl4 : c.length = 4:=hcl
  refine⟨g,cB,(blk_cell hb 10).trans rfl,⟨_,_,_,_,hcc 0 _ (List.getElem?_eq_getElem (by omega)),hcc 1 _ (List.getElem?_eq_getElem (by omega)),hcc 2 _ (List.getElem?_eq_getElem (by omega)),hcc 3 _ (List.getElem?_eq_getElem (by omega))⟩,⟨_,hcg⟩,hPg,hgb,hgl2,fun w2 x A2 c2 hB hR=>?_⟩
  have hM2:=hM.below hB
  obtain ⟨c',hcl',hMc',hcc',hfr'⟩:=Kd.R_elem (Kd.R_below h4 hB) z69 i h0 hi
  obtain ⟨r,hgr⟩:=Kd.R_seg (Kd.R_below h4 hB) i h0 hi (c:=c') (seg:=[.bool x.f0,.int .i64 x.f1,.slice A2 x.f2.length c2,.int .i64 x.f3]) (j:=0) hcl' hcc' (by show 0 + 4 ≤ 4;omega) (x':=x) (okp:=fun k=>P k∧k ≠ g) (by
    have e : c'.take 0 ++ [.bool x.f0,.int .i64 x.f1,.slice A2 x.f2.length c2,.int .i64 x.f3] ++ c'.drop (0 + 4) = [Value.bool x.f0,.int .i64 x.f1,.slice A2 x.f2.length c2,.int .i64 x.f3]:=by
      have h4' : c'.length = 4:=hcl'
      rw [List.take_zero,List.nil_append,List.drop_of_length_le (by omega),List.append_nil]
    show k69.M w2 0 _ x (c'.take 0 ++ [.bool x.f0,.int .i64 x.f1,.slice A2 x.f2.length c2,.int .i64 x.f3] ++ c'.drop (0 + 4))
    rw [e]
    exact k69_mkM w2 0 _ x hR) (fun k hk=>hk)
  have hl : (s.bals.set i.toNat x).length = s.bals.length:=List.length_set
  have hcg2:=blk_below hcg hB
  have hb2:=blk_below hb hB
  show Mac (w2.setCells g (i.toNat * 4 + 0) [.bool x.f0,.int .i64 x.f1,.slice A2 x.f2.length c2,.int .i64 x.f3]) b gd P { s with bals:=s.bals.set i.toNat x } out
  have hgr2 : w2.grownBy (w2.setCells g (i.toNat * 4 + 0) [.bool x.f0,.int .i64 x.f1,.slice A2 x.f2.length c2,.int .i64 x.f3]) (some g):=hgr
  have hgs:=hgr2.size
  have hty : ∀ k,(Value.slice (some ⟨g,0,none⟩) s.bals.length cB).ownBlock = some k→∃ cells,w2.heap[k]? = some (.cells cells 69 (0,0)):=Kd.R_typed (Kd.R_below h4 hB)
  refine⟨Nat.lt_of_lt_of_le (Nat.lt_of_lt_of_le hgl hB.size) hgs,AL,cL,AM,cM,AK,cK,some ⟨g,0,none⟩,cB,AD,cD,AO,cO,?_,Kd.R_over' (Kd.R_below h1 hB) hty (by decide) hgr2,Kd.R_over' (Kd.R_below h2 hB) hty (by decide) hgr2,Kd.R_over' (Kd.R_below h3 hB) hty (by decide) hgr2,by rw [hl];exact r,Kd.R_over' (Kd.R_below h5 hB) hty (by decide) hgr2,h6,?_⟩
  · rw [hgr2.block b (blk_lt hb2) (fun e=>hgb (by injection e with e;first|exact e|exact e.symm)),hb2]
    simp only [hl]
  · exact Kd.F_step (Kd.F_below h7 hB) (fun k hk hlt=>by subst hk;exact hgr2.block k hlt (fun e=>hg (by injection e with e;first|exact e ▸ hPg|exact e.symm ▸ hPg)))
end
/-- Are there marks enough? -/
def lookGo (s : St) : Bool:=!s.sent && mostV s.n (cntT s.marks)
def voteM (s : St) : Ms:={ kind:=4,fro:=0,dst:=s.view.tmod s.n,view:=0,last:=s.last,prev:=0,log:=s.log,commit:=s.commit,mat:=0 }
def sentS (s : St) : St:={ s with sent:=true }
def balS (s : St) : St:={ s with sent:=true,bals:=s.bals.set s.id.toNat ⟨true,s.last,s.log,s.commit⟩ }
def lookR (s : St) : Except Int (St × List Ms):=if lookGo s = true then(if primaryV s.id s.n s.view = true then startR (balS s) else .ok (sentS s,[tellM (sentS s) (voteM s)])) else .ok (s,[])
/-- What look asks of the state. -/
structure LookOk (s : St) : Prop where
  n : 1 ≤ s.n∧s.n ≤ 9
  id : 0 ≤ s.id∧s.id < s.n
  com : 0 ≤ s.commit∧s.commit ≤ s.log.length
  fl : FitsL s.log∧s.log.length ≤ 1000000
  bals : primaryV s.id s.n s.view = true→(s.bals.length : Int) = s.n∧∀ y ∈ s.bals,FitsL y.f2∧y.f2.length ≤ 1000000
theorem LookOk.bal {s : St} (h : LookOk s) (hp : primaryV s.id s.n s.view = true) : StartOk (balS s) where
  n:=h.n
  id:=h.id
  len:=by show((s.bals.set _ _).length : Int) = s.n;rw [List.length_set];exact(h.bals hp).1
  com:=h.com
  fit:=fun y hy=>by
    rcases List.mem_or_eq_of_mem_set hy with h1|h1
    · exact(h.bals hp).2 y h1
    · subst h1;exact h.fl
set_option maxHeartbeats 8000000 in
set_option maxRecDepth 100000 in
theorem look.mac (b gd : Nat) (P : Nat→Prop) (s : St) (out : List Ms) (w : World) (hM : Mac w b gd P s out) (hP : ∀ k,w.heap.size ≤ k→P k) (hg : ¬ P gd∧gd ≠ b) (hPb : ¬ P b) (hs : LookOk s) (hlen : out.length ≤ 900) :
    Calls Try.prog 63 #[.pointer (some ⟨b,0,none⟩)] w fun e w'=>Keeps w w' (fun k=>k = b∨P k)∧EndsR (lookR s) e (fun s' ms=>Mac w' b gd P s' (out ++ ms)):=by
  have hM0:=hM
  obtain ⟨hgl,AL,cL,AM,cM,AK,cK,AB,cB,AD,cD,AO,cO,hb,h1,_,h3,_⟩:=hM0
  have hu29:=Try.underlying29
  have hu25:=Try.underlying25
  have hu26:=Try.underlying26
  have hu61:=Try.underlying61
  have hu27:=Try.underlying27
  have hu69:=Try.underlying69
  have hu37:=Try.underlying37
  have HQ:=Aside0.mk (And.intro hM (And.intro hP (And.intro hg (And.intro hPb (And.intro hs (And.intro hlen (And.intro hb (And.intro (Kd.R_reads' h1).2.2 (Kd.R_reads' h3).2.2))))))))
  have x0 : w.cell? ⟨b,0,none⟩ = some (.int .i64 s.id):=(blk_cell hb 0).trans rfl
  have x1 : w.cell? ⟨b,1,none⟩ = some (.int .i64 s.n):=(blk_cell hb 1).trans rfl
  have x2 : w.cell? ⟨b,2,none⟩ = some (.int .i64 s.view):=(blk_cell hb 2).trans rfl
  have x8 : w.cell? ⟨b,8,none⟩ = some (.slice AK s.marks.length cK):=(blk_cell hb 8).trans rfl
  have x9 : w.cell? ⟨b,9,none⟩ = some (.bool s.sent):=(blk_cell hb 9).trans rfl
  have f9:=blk_frozen hb 9
  clear hM hP hg hPb hs hlen hb h1 h3
  cases hse : s.sent with
  | true =>
    have e : lookR s = .ok (s,[]):=by unfold lookR lookGo;rw [hse];rfl
    rw [e]
    rw [hse] at x9
    clear hse e
    go_enter Try.func63,Try.ntmps63
    go_wp2
    (first|go_end0|refine bodyPost_ret (results_none rfl _ _ _) rfl ?_)
    exact⟨Keeps.refl w _,rfl,by show Mac _ b gd P s (out ++ []);rw [List.append_nil];exact HQ.out.1⟩
  | false =>
    rw [hse] at x9
    cases hm : mostV s.n (cntT s.marks) with
    | false =>
      have e : lookR s = .ok (s,[]):=by unfold lookR lookGo;rw [hse,hm];rfl
      rw [e]
      have HMO:=Aside0.mk hm
      clear hse e hm
      go_enter Try.func63,Try.ntmps63
      go_wp2_with (first|(go_at_call 73;refine(CountT.calls AK cK s.marks _ HQ.out.2.2.2.2.2.2.2.2).mono ?_;rintro e w1 ⟨rfl,hw⟩;have hw:=hw.symm;subst hw)|(go_at_call 69;refine(most.calls b s.n _ HQ.out.2.2.2.2.1.n _ (by assumption)).mono ?_;rw [HMO.out];rintro e w' ⟨rfl,hw⟩;have hw:=hw.symm;subst hw))
      (first|go_end0|refine bodyPost_ret (results_none rfl _ _ _) rfl ?_)
      exact⟨Keeps.refl _ _,rfl,by show Mac _ b gd P s (out ++ []);rw [List.append_nil];exact HQ.out.1⟩
    | true =>
      have HMO:=Aside0.mk hm
      have HG:=Aside0.mk (show lookGo s = true from by unfold lookGo;rw [hse,hm];rfl)
      have hn0 : s.n ≠ 0:=by have:=HQ.out.2.2.2.2.1.n;omega
      have HK:=Aside0.mk (show Keeps w (w.setCell ⟨b,9,none⟩ (.bool true)) (fun k=>k = b∨P k)∧Mac (w.setCell ⟨b,9,none⟩ (.bool true)) b gd P (sentS s) out∧(∀ k,(w.setCell ⟨b,9,none⟩ (.bool true)).heap.size ≤ k→P k) from⟨Keeps.fld 9 _,HQ.out.1.set_sent HQ.out.2.2.1.2 true,fun k hk=>HQ.out.2.1 k (by simpa using hk)⟩)
      have y0 : (w.setCell ⟨b,9,none⟩ (.bool true)).cell? ⟨b,0,none⟩ = some (.int .i64 s.id):=cell_off x0 (by decide)
      have y1 : (w.setCell ⟨b,9,none⟩ (.bool true)).cell? ⟨b,1,none⟩ = some (.int .i64 s.n):=cell_off x1 (by decide)
      have y2 : (w.setCell ⟨b,9,none⟩ (.bool true)).cell? ⟨b,2,none⟩ = some (.int .i64 s.view):=cell_off x2 (by decide)
      clear hse hm
      cases hpr : primaryV s.id s.n s.view with
      | false =>
        have HPR:=Aside0.mk hpr
        clear hpr
        go_enter Try.func63,Try.ntmps63
        go_upto_region 3 with (first|(go_at_call 73;refine(CountT.calls AK cK s.marks _ HQ.out.2.2.2.2.2.2.2.2).mono ?_;rintro e w1 ⟨rfl,hw⟩;have hw:=hw.symm;subst hw)|(go_at_call 69;refine(most.calls b s.n _ HQ.out.2.2.2.2.1.n _ (by assumption)).mono ?_;rw [HMO.out];rintro e w' ⟨rfl,hw⟩;have hw:=hw.symm;subst hw)|(go_at_call 33;refine(primary.calls b s.id s.n s.view hn0 _ y0 y1 y2).mono ?_;rw [HPR.out];rintro e w4 ⟨rfl,⟨m,rfl⟩⟩))
        have HW:=Aside0.mk (show Keeps w ((w.setCell ⟨b,9,none⟩ (.bool true)).drewN m) (fun k=>k = b∨P k)∧Mac ((w.setCell ⟨b,9,none⟩ (.bool true)).drewN m) b gd P (sentS s) out∧(∀ k,((w.setCell ⟨b,9,none⟩ (.bool true)).drewN m).heap.size ≤ k→P k) from⟨HK.out.1.drewN m,HK.out.2.1.below (pw_below_drewN (Below.refl _ _) m),fun k hk=>HK.out.2.2 k (by simpa using hk)⟩)
        have HQ2:=Aside0.mk (And.intro HQ.out.2.2.1 (And.intro HQ.out.2.2.2.2.1 HQ.out.2.2.2.2.2.1))
        clear HK x0 x1 x2 x8 x9 f9 y0 y1 y2
        generalize (w.setCell ⟨b,9,none⟩ (.bool true)).drewN m = W at *
        obtain ⟨_,AL1,cL1,AM1,cM1,AK1,cK1,AB1,cB1,AD1,cD1,AO1,cO1,kb,h1,_⟩:=HW.out.2.1
        have x1 : W.cell? ⟨b,1,none⟩ = some (.int .i64 s.n):=(blk_cell kb 1).trans rfl
        have x2 : W.cell? ⟨b,2,none⟩ = some (.int .i64 s.view):=(blk_cell kb 2).trans rfl
        have x3 : W.cell? ⟨b,3,none⟩ = some (.int .i64 s.last):=(blk_cell kb 3).trans rfl
        have x5 : W.cell? ⟨b,5,none⟩ = some (.slice AL1 s.log.length cL1):=(blk_cell kb 5).trans rfl
        have x6 : W.cell? ⟨b,6,none⟩ = some (.int .i64 s.commit):=(blk_cell kb 6).trans rfl
        have c2b0 : (s.n == 0) = false:=beq_eq_false_iff_ne.mpr hn0
        have c2b1 : (s.n != 0) = true:=bne_iff_ne.mpr hn0
        have HC:=Aside0.mk (Kd.R_reads' h1).2.2
        clear kb h1 HQ
        go_region_held3 (fun W'=>W'.cell? ⟨b,1,none⟩ = some (.int .i64 s.n)∧W'.cell? ⟨b,2,none⟩ = some (.int .i64 s.view)∧W'.cell? ⟨b,3,none⟩ = some (.int .i64 s.last)∧W'.cell? ⟨b,5,none⟩ = some (.slice AL1 s.log.length cL1)∧W'.cell? ⟨b,6,none⟩ = some (.int .i64 s.commit)) (go_keep)
          ((first|(go_at_call 41;refine(cloneLog.calls AL1 cL1 s.log _ (Kd.C_drew HC.out) HQ2.out.2.1.fl.1.1 HQ2.out.2.1.fl.1.2).mono ?_;rintro e w2 ⟨v,rfl,hR2,hb2⟩;obtain ⟨A2,c2,rfl⟩:=Kd.R_slice hR2;have y1:=(hb2.cell (World.block_lt_of_cell? _ _ x1)).trans x1;have y2:=(hb2.cell (World.block_lt_of_cell? _ _ x2)).trans x2;have y3:=(hb2.cell (World.block_lt_of_cell? _ _ x3)).trans x3;have y5:=(hb2.cell (World.block_lt_of_cell? _ _ x5)).trans x5;have y6:=(hb2.cell (World.block_lt_of_cell? _ _ x6)).trans x6;have C2:=Aside0.mk (And.intro hR2 hb2);clear hR2 hb2)|(go_at_call 46;refine(tell.calls2 b gd P (sentS s) out (voteM s) A2 c2 _ ((HW.out.2.1.below (below_drew (Below.refl _ _))).below C2.out.2) (fun k hk=>HW.out.2.2 k (by have:=C2.out.2.size;simp at this;omega)) HQ2.out.1 (Kd.R_mono (Kd.R_lower (Kd.R_bound C2.out.1) (Nat.zero_le _)) (fun k hk=>HW.out.2.2 k (by have:=hk.2.1;simpa using this))) (by have:=HQ2.out.2.2;omega)).mono ?_;rintro e w4 ⟨rfl,⟨hk4,hc4⟩,hm4⟩;have z1:=(hc4 1 (by decide)).trans y1;have z2:=(hc4 2 (by decide)).trans y2;have z3:=(hc4 3 (by decide)).trans y3;have z5:=(hc4 5 (by decide)).trans y5;have z6:=(hc4 6 (by decide)).trans y6;have H4:=Aside0.mk (And.intro hk4 hm4);clear hk4 hm4 hc4)))
        all_goals
          go_wp2
          (first|go_end0|refine bodyPost_ret (results_none rfl _ _ _) rfl ?_)
          have e : lookR s = .ok (sentS s,[tellM (sentS s) (voteM s)]):=by unfold lookR;rw [HG.out,HPR.out];rfl
          rw [e]
          exact⟨(HW.out.1.drew.below C2.out.2).trans' H4.out.1.tells (fun k hk=>.inl hk),rfl,H4.out.2⟩
      | true =>
        have HPR:=Aside0.mk hpr
        clear hpr
        go_enter Try.func63,Try.ntmps63
        go_upto_region 4 with (first|(go_at_call 73;refine(CountT.calls AK cK s.marks _ HQ.out.2.2.2.2.2.2.2.2).mono ?_;rintro e w1 ⟨rfl,hw⟩;have hw:=hw.symm;subst hw)|(go_at_call 69;refine(most.calls b s.n _ HQ.out.2.2.2.2.1.n _ (by assumption)).mono ?_;rw [HMO.out];rintro e w' ⟨rfl,hw⟩;have hw:=hw.symm;subst hw)|(go_at_call 33;refine(primary.calls b s.id s.n s.view hn0 _ y0 y1 y2).mono ?_;rw [HPR.out];rintro e w4 ⟨rfl,⟨m,rfl⟩⟩))
        have HW:=Aside0.mk (show Keeps w ((w.setCell ⟨b,9,none⟩ (.bool true)).drewN m) (fun k=>k = b∨P k)∧Mac ((w.setCell ⟨b,9,none⟩ (.bool true)).drewN m) b gd P (sentS s) out∧(∀ k,((w.setCell ⟨b,9,none⟩ (.bool true)).drewN m).heap.size ≤ k→P k) from⟨HK.out.1.drewN m,HK.out.2.1.below (pw_below_drewN (Below.refl _ _) m),fun k hk=>HK.out.2.2 k (by simpa using hk)⟩)
        have HQ2:=Aside0.mk (And.intro HQ.out.2.2.1 (And.intro HQ.out.2.2.2.2.1 (And.intro HQ.out.2.2.2.2.2.1 HQ.out.2.2.2.1)))
        clear HK x0 x1 x2 x8 x9 f9 y0 y1 y2
        generalize (w.setCell ⟨b,9,none⟩ (.bool true)).drewN m = W at *
        obtain ⟨_,AL1,cL1,AM1,cM1,AK1,cK1,AB1,cB1,AD1,cD1,AO1,cO1,kb,h1,_⟩:=HW.out.2.1
        have x0 : W.cell? ⟨b,0,none⟩ = some (.int .i64 s.id):=(blk_cell kb 0).trans rfl
        have x3 : W.cell? ⟨b,3,none⟩ = some (.int .i64 s.last):=(blk_cell kb 3).trans rfl
        have x5 : W.cell? ⟨b,5,none⟩ = some (.slice AL1 s.log.length cL1):=(blk_cell kb 5).trans rfl
        have x6 : W.cell? ⟨b,6,none⟩ = some (.int .i64 s.commit):=(blk_cell kb 6).trans rfl
        have i0 : (0 ≤ s.id) = True:=eq_true HQ2.out.2.1.id.1
        have i1 : (s.id < (s.bals.length : Int)) = True:=eq_true (by have:=(HQ2.out.2.1.bals HPR.out).1;have:=HQ2.out.2.1.id;omega)
        obtain ⟨g,cap,x10',⟨u0,u1,u2,u3,z0,z1,z2,z3⟩,⟨cells,kg⟩,hPg,hgb,hgW,hput⟩:=HW.out.2.1.bals_cell HQ2.out.1.1 HQ2.out.2.2.2 s.id HQ2.out.2.1.id.1 (by have:=(HQ2.out.2.1.bals HPR.out).1;have:=HQ2.out.2.1.id;show s.id < (s.bals.length : Int);omega)
        have x10 : W.cell? ⟨b,10,none⟩ = some (.slice (some ⟨g,0,none⟩) s.bals.length cap):=x10'
        clear x10'
        have ne1 : ¬ (g = b):=hgb
        have ne2 : ¬ (b = g):=fun e=>hgb e.symm
        have HC:=Aside0.mk (And.intro (Kd.R_reads' h1).2.2 (And.intro hput (And.intro kg (And.intro hgW hPg))))
        clear kb h1 HQ hput kg hgW hPg hgb
        go_region_held3 (fun W'=>W'.cell? ⟨b,0,none⟩ = some (.int .i64 s.id)∧W'.cell? ⟨b,3,none⟩ = some (.int .i64 s.last)∧W'.cell? ⟨b,5,none⟩ = some (.slice AL1 s.log.length cL1)∧W'.cell? ⟨b,6,none⟩ = some (.int .i64 s.commit)∧W'.cell? ⟨b,10,none⟩ = some (.slice (some ⟨g,0,none⟩) s.bals.length cap)) (go_keep)
          ((first|(go_at_call 41;refine(cloneLog.calls AL1 cL1 s.log _ (Kd.C_drew HC.out.1) HQ2.out.2.1.fl.1.1 HQ2.out.2.1.fl.1.2).mono ?_;rintro e w2 ⟨v,rfl,hR2,hb2⟩;obtain ⟨A2,c2,rfl⟩:=Kd.R_slice hR2;have y0:=(hb2.cell (World.block_lt_of_cell? _ _ x0)).trans x0;have y3:=(hb2.cell (World.block_lt_of_cell? _ _ x3)).trans x3;have y5:=(hb2.cell (World.block_lt_of_cell? _ _ x5)).trans x5;have y6:=(hb2.cell (World.block_lt_of_cell? _ _ x6)).trans x6;have y10:=(hb2.cell (World.block_lt_of_cell? _ _ x10)).trans x10;have q0:=(hb2.cell (World.block_lt_of_cell? _ _ z0)).trans z0;have q1:=(hb2.cell (World.block_lt_of_cell? _ _ z1)).trans z1;have q2:=(hb2.cell (World.block_lt_of_cell? _ _ z2)).trans z2;have q3:=(hb2.cell (World.block_lt_of_cell? _ _ z3)).trans z3;have kg2:=blk_below (blk_drew HC.out.2.2.1) hb2;have l0:=blk_frozen kg2 (s.id.toNat * 4);have l1:=blk_frozen kg2 (s.id.toNat * 4 + 1);have l2:=blk_frozen kg2 (s.id.toNat * 4 + 2);have l3:=blk_frozen kg2 (s.id.toNat * 4 + 3);have C2:=Aside0.mk (And.intro hR2 hb2);clear hR2 hb2 kg2)))
        all_goals
          have H3:=Aside0.mk (show Keeps w ((((w2.setCell ⟨g,s.id.toNat * 4,none⟩ (.bool true)).setCell ⟨g,s.id.toNat * 4 + 1,none⟩ (.int .i64 s.last)).setCell ⟨g,s.id.toNat * 4 + 2,none⟩ (.slice A2 s.log.length c2)).setCell ⟨g,s.id.toNat * 4 + 3,none⟩ (.int .i64 s.commit)) (fun k=>k = b∨P k)∧Mac ((((w2.setCell ⟨g,s.id.toNat * 4,none⟩ (.bool true)).setCell ⟨g,s.id.toNat * 4 + 1,none⟩ (.int .i64 s.last)).setCell ⟨g,s.id.toNat * 4 + 2,none⟩ (.slice A2 s.log.length c2)).setCell ⟨g,s.id.toNat * 4 + 3,none⟩ (.int .i64 s.commit)) b gd P (balS s) out∧(∀ k,((((w2.setCell ⟨g,s.id.toNat * 4,none⟩ (.bool true)).setCell ⟨g,s.id.toNat * 4 + 1,none⟩ (.int .i64 s.last)).setCell ⟨g,s.id.toNat * 4 + 2,none⟩ (.slice A2 s.log.length c2)).setCell ⟨g,s.id.toNat * 4 + 3,none⟩ (.int .i64 s.commit)).heap.size ≤ k→P k) from by
            have hPg:=HC.out.2.2.2.2
            have hb3:=(below_drew (Below.refl W.heap.size W)).trans C2.out.2
            have hR3:=Kd.R_mono (Kd.R_lower (Kd.R_bound C2.out.1) (Nat.zero_le _)) (ok':=fun k=>P k∧k ≠ g) (fun k hk=>⟨HW.out.2.2 k (by have:=hk.2.1;simpa using this),by have h1:=hk.2.1;have h2:=HC.out.2.2.2.1;simp at h1;omega⟩)
            refine⟨(((((HW.out.1.drew.below C2.out.2).setCell (p:=⟨g,_,none⟩) (.inl (.inr hPg)) _).setCell (p:=⟨g,_,none⟩) (.inl (.inr hPg)) _).setCell (p:=⟨g,_,none⟩) (.inl (.inr hPg)) _).setCell (p:=⟨g,_,none⟩) (.inl (.inr hPg)) _),HC.out.2.1 w2 ⟨true,s.last,s.log,s.commit⟩ A2 c2 hb3 hR3,fun k hk=>HW.out.2.2 k (by have h1:=hb3.size;simp at hk;omega)⟩)
          clear HC C2 q0 q1 q2 q3 l0 l1 l2 l3 y0 y3 y5 y6 y10 z0 z1 z2 z3 x0 x3 x5 x6 x10
          generalize (((w2.setCell ⟨g,s.id.toNat * 4,none⟩ (.bool true)).setCell ⟨g,s.id.toNat * 4 + 1,none⟩ (.int .i64 s.last)).setCell ⟨g,s.id.toNat * 4 + 2,none⟩ (.slice A2 s.log.length c2)).setCell ⟨g,s.id.toNat * 4 + 3,none⟩ (.int .i64 s.commit) = W3 at *
          have eL : lookR s = startR (balS s):=by unfold lookR;rw [HG.out,HPR.out];rfl
          have EL:=Aside0.mk eL
          clear eL
          cases hst : startE (balS s) with
          | some code =>
            have HST:=Aside0.mk hst
            clear hst
            go_wp2_with ((go_at_call 67;refine(start.mac b gd P (balS s) out W3 H3.out.2.1 H3.out.2.2 HQ2.out.1 HQ2.out.2.2.2 (HQ2.out.2.1.bal HPR.out) HQ2.out.2.2.1).mono ?_;rw [HST.out];rintro e w6 ⟨hk6,he⟩;have H6:=Aside0.mk hk6;have he2 : e = .panicked [{ v:=.iface 30 (.int .i64 code),recovered:=false }]:=he;subst he2;clear hk6 he))
            rw [EL.out]
            unfold startR
            rw [HST.out]
            exact⟨rfl,H3.out.1.trans' H6.out (fun k hk=>.inl hk),rfl⟩
          | none =>
            have HST:=Aside0.mk hst
            clear hst
            go_wp2_with ((go_at_call 67;refine(start.mac b gd P (balS s) out W3 H3.out.2.1 H3.out.2.2 HQ2.out.1 HQ2.out.2.2.2 (HQ2.out.2.1.bal HPR.out) HQ2.out.2.2.1).mono ?_;rw [HST.out];rintro e w6 ⟨hk6,he⟩;have H6:=Aside0.mk (And.intro hk6 he.2);have he2 : e = .returned (.tuple #[]):=he.1;subst he2;clear hk6 he))
            go_end0
            rw [EL.out]
            unfold startR
            rw [HST.out]
            exact⟨H3.out.1.trans' H6.out.1 (fun k hk=>.inl hk),rfl,H6.out.2⟩
end Go.Proofs.Ytojjnifbnppliaa.T
end
