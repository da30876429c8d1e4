/- This text tells functions of the seat as plain functions, with their contracts, as the machine's calls meet them. A region that draws its order, by an invariant: one proof an operation, not one an order. Copies: bytes.Clone, slices.Clone at four types, cloneLog. Check and what it asks; who leads; how long the lists have to be. What a call leaves as it was. The machine: what it holds; fail, here, most, count, agree. What the machine holds. -/
import Derived.ArgAppend
import Derived.Below
import Derived.BigQuiet
import Derived.Deep.AppendLies
import Derived.Deep.CutBlock
import Derived.Deep.DeepCutAuto
import Derived.Deep.Draws
import Derived.Deep.LoopGhost
import Derived.Deep.OwnRows
import Derived.Deep.QuietTactic
import Derived.Deep.RegionHeld3
import Derived.Deep.RegionWith
import Derived.KernelRfl
import Derived.Laws.BitsLemmas
import Derived.Laws.BytesArg
import Derived.Laws.EntriesVeiled
import Derived.Laws.IdiomCopy
import Derived.Laws.MakeOwn
import Derived.Laws.OwnMore
import Derived.Laws.Rows
import Derived.Laws.Slices
import Derived.Laws.StructEq
import Derived.Lib.AppendStr
import Derived.Lib.ConvBytes
import Derived.Lib.LazyBuf
import Derived.Maps.AppendAt
import Derived.Maps.OwnOps
import Derived.Maps.OwnSet
import Derived.OrdersHeld
import Derived.OwnWalk
import Derived.RowKit
import Derived.RowKit3
import Derived.Shelf.Abstract
import Derived.StillTailTactics
import Derived.Tactics
import Derived.Test.YtojjnifbnppliaaProg
import Derived.WalkKit
import Derived.WideLaws
import Derived.Test.YtojjnifbnppliaaQ00
import Derived.Test.YtojjnifbnppliaaQ01
section
namespace Go.Proofs.Ytojjnifbnppliaa.T
open Go.RowKit Go.Proofs.YtojjnifbnppliaaW.PrintWords Go.Proofs.YtojjnifbnppliaaW.PrintLast Go.Proofs.YtojjnifbnppliaaW.PrintMore
attribute [local go_sem] max2_int min2_int max_two min_two max_three min_three max_four min_four   -- for this text's walks alone
set_option linter.unusedVariables false
set_option linter.unusedSimpArgs false
def errW : Option Int→Value
  | none=>.nilIface
  | some c=>.iface 0 (.int .i64 c)
theorem errW_none : errW none = .nilIface:=rfl
theorem errW_some (c : Int) : errW (some c) = .iface 0 (.int .i64 c):=rfl
theorem info3 : (Try.prog.info? 3).map (fun i=>(i.zero,i.size,i.bytes)) = some (some (.int .i64 0),1,8):=by kernel_rfl
theorem info4 : (Try.prog.info? 4).map (fun i=>(i.zero,i.size,i.bytes)) = some (some (.bool false),1,1):=by kernel_rfl
theorem info5 : (Try.prog.info? 5).map (fun i=>(i.zero,i.size,i.bytes)) = some (some (.int .u8 0),1,1):=by kernel_rfl
theorem info22 : (Try.prog.info? 22).map (fun i=>(i.zero,i.size,i.bytes)) = some (some (.slice none 0 0),1,24):=by kernel_rfl
theorem info69 : (Try.prog.info? 69).map (fun i=>(i.zero,i.size,i.bytes)) = some (some (.agg #[(.bool false),(.int .i64 0),(.slice none 0 0),(.int .i64 0)]),4,48):=by kernel_rfl
def rd_L1 (xs : List (List Int)) (i : Int) : (List Int):=xs.getD i.toNat ([] : List Int)
theorem at_L1 {w : World} {A : Option Addr} {n : Nat} {xs : List (List Int)} (h : Kd.C (Kd.slice 5 (Kd.int .u8)) w A n xs) (i : Int) (h0 : 0 ≤ i) (h1 : i < n) : ∃ ad A0 c0,A = some ad∧w.cell? (ad.add i.toNat) = some (.slice A0 (rd_L1 xs i).length c0)∧(rd_L1 xs i).length ≤ c0∧(Kd.int .u8).C w A0 (rd_L1 xs i).length (rd_L1 xs i):=by
  obtain ⟨ad,c,e,_,hK,hc0⟩:=Kd.C_get h ([] : List Int) i h0 h1
  have hc : ∀ j u,c[j]? = some u→w.cell? (ad.add (i.toNat * 1 + j)) = some u:=hc0
  obtain ⟨A0,c0,rfl,l0,g0⟩:=hK
  exact⟨ad,A0,c0,e,by have hq:=hc 0 _ rfl;rwa [Nat.mul_one,Nat.add_zero] at hq,l0,g0⟩
structure S69 where
  f0 : Bool
  f1 : Int
  f2 : (List (List Int))
  f3 : Int
def z69 : S69:=⟨false,(0 : Int),([] : List (List Int)),(0 : Int)⟩
def k69 : Kd S69:=Kd.iso (Kd.pair Kd.bool (Kd.pair (Kd.int .i64) (Kd.pair (Kd.slice 22 (Kd.slice 5 (Kd.int .u8))) (Kd.int .i64)))) (fun x : S69=>(x.f0,x.f1,x.f2,x.f3))
theorem k69_open {w : World} {x : S69} {cs : List Value} (h : k69.K w x cs) : ∃ A2 c2,cs = [.bool x.f0,.int .i64 x.f1,.slice A2 x.f2.length c2,.int .i64 x.f3]∧x.f2.length ≤ c2∧(Kd.slice 5 (Kd.int .u8)).C w A2 x.f2.length x.f2:=by
  obtain ⟨_,_,rfl,rfl,⟨_,_,rfl,rfl,⟨_,_,rfl,⟨A2,c2,rfl,l2,g2⟩,rfl⟩⟩⟩:=h
  exact⟨A2,c2,rfl,l2,g2⟩
theorem k69_mkM (w : World) (base : Nat) (ok : Nat→Prop) (x : S69) {v2 : Value} (g2 : (Kd.slice 5 (Kd.int .u8)).R 22 w base ok v2 x.f2) : k69.M w base ok x [.bool x.f0,.int .i64 x.f1,v2,.int .i64 x.f3]:=⟨[.bool x.f0],[.int .i64 x.f1,v2,.int .i64 x.f3],rfl,rfl,⟨[.int .i64 x.f1],[v2,.int .i64 x.f3],rfl,rfl,⟨[v2],[.int .i64 x.f3],rfl,⟨v2,rfl,g2⟩,rfl⟩⟩⟩
def rd_T69 (xs : List S69) (i : Int) : S69:=xs.getD i.toNat z69
theorem at_T69 {w : World} {A : Option Addr} {n : Nat} {xs : List S69} (h : Kd.C k69 w A n xs) (i : Int) (h0 : 0 ≤ i) (h1 : i < n) : ∃ ad A2 c2,A = some ad∧w.cell? (ad.add (i.toNat * 4)) = some (.bool (rd_T69 xs i).f0)∧w.cell? ⟨(ad.add (i.toNat * 4)).block,(ad.add (i.toNat * 4)).off + 1,none⟩ = some (.int .i64 (rd_T69 xs i).f1)∧w.cell? ⟨(ad.add (i.toNat * 4)).block,(ad.add (i.toNat * 4)).off + 2,none⟩ = some (.slice A2 (rd_T69 xs i).f2.length c2)∧w.cell? ⟨(ad.add (i.toNat * 4)).block,(ad.add (i.toNat * 4)).off + 3,none⟩ = some (.int .i64 (rd_T69 xs i).f3)∧(rd_T69 xs i).f2.length ≤ c2∧(Kd.slice 5 (Kd.int .u8)).C w A2 (rd_T69 xs i).f2.length (rd_T69 xs i).f2:=by
  obtain ⟨ad,c,e,_,hK,hc0⟩:=Kd.C_get h z69 i h0 h1
  have hc : ∀ j u,c[j]? = some u→w.cell? (ad.add (i.toNat * 4 + j)) = some u:=hc0
  obtain ⟨A2,c2,rfl,l2,g2⟩:=k69_open hK
  exact⟨ad,A2,c2,e,hc 0 _ rfl,by rw [← add_field _ _ 1 (by omega)];exact hc 1 _ rfl,by rw [← add_field _ _ 2 (by omega)];exact hc 2 _ rfl,by rw [← add_field _ _ 3 (by omega)];exact hc 3 _ rfl,l2,g2⟩
structure S68 where
  f0 : Bool
  f1 : Int
  f2 : (List (List Int))
  f3 : Int
def z68 : S68:=⟨false,(0 : Int),([] : List (List Int)),(0 : Int)⟩
def k68 : Kd S68:=Kd.iso (Kd.pair Kd.bool (Kd.pair (Kd.int .i64) (Kd.pair (Kd.slice 22 (Kd.slice 5 (Kd.int .u8))) (Kd.int .i64)))) (fun x : S68=>(x.f0,x.f1,x.f2,x.f3))
theorem k68_open {w : World} {x : S68} {cs : List Value} (h : k68.K w x cs) : ∃ A2 c2,cs = [.bool x.f0,.int .i64 x.f1,.slice A2 x.f2.length c2,.int .i64 x.f3]∧x.f2.length ≤ c2∧(Kd.slice 5 (Kd.int .u8)).C w A2 x.f2.length x.f2:=by
  obtain ⟨_,_,rfl,rfl,⟨_,_,rfl,rfl,⟨_,_,rfl,⟨A2,c2,rfl,l2,g2⟩,rfl⟩⟩⟩:=h
  exact⟨A2,c2,rfl,l2,g2⟩
def rd_T68 (xs : List S68) (i : Int) : S68:=xs.getD i.toNat z68
theorem at_T68 {w : World} {A : Option Addr} {n : Nat} {xs : List S68} (h : Kd.C k68 w A n xs) (i : Int) (h0 : 0 ≤ i) (h1 : i < n) : ∃ ad A2 c2,A = some ad∧w.cell? (ad.add (i.toNat * 4)) = some (.bool (rd_T68 xs i).f0)∧w.cell? ⟨(ad.add (i.toNat * 4)).block,(ad.add (i.toNat * 4)).off + 1,none⟩ = some (.int .i64 (rd_T68 xs i).f1)∧w.cell? ⟨(ad.add (i.toNat * 4)).block,(ad.add (i.toNat * 4)).off + 2,none⟩ = some (.slice A2 (rd_T68 xs i).f2.length c2)∧w.cell? ⟨(ad.add (i.toNat * 4)).block,(ad.add (i.toNat * 4)).off + 3,none⟩ = some (.int .i64 (rd_T68 xs i).f3)∧(rd_T68 xs i).f2.length ≤ c2∧(Kd.slice 5 (Kd.int .u8)).C w A2 (rd_T68 xs i).f2.length (rd_T68 xs i).f2:=by
  obtain ⟨ad,c,e,_,hK,hc0⟩:=Kd.C_get h z68 i h0 h1
  have hc : ∀ j u,c[j]? = some u→w.cell? (ad.add (i.toNat * 4 + j)) = some u:=hc0
  obtain ⟨A2,c2,rfl,l2,g2⟩:=k68_open hK
  exact⟨ad,A2,c2,e,hc 0 _ rfl,by rw [← add_field _ _ 1 (by omega)];exact hc 1 _ rfl,by rw [← add_field _ _ 2 (by omega)];exact hc 2 _ rfl,by rw [← add_field _ _ 3 (by omega)];exact hc 3 _ rfl,l2,g2⟩
end Go.Proofs.Ytojjnifbnppliaa.T
end
section
namespace Go.Proofs.YtojjnifbnppliaaW.Ri
open Go.RowKit Go.Proofs.YtojjnifbnppliaaW.PrintLast
section
variable {P : Program} {ops : Array Oper} {Q : Exit→Act→World→Prop} {md : Region.Mode}
/-- Each operation waits for earlier ones alone. -/
def earlierB (md : Region.Mode) (ops : Array Oper) : Bool:=(List.range ops.size).all fun i=>match ops[i]? with
  | some o=>(needsOf md o).all fun j=>decide (j < i)
  | none=>true
theorem earlier {i : Nat} {o : Oper} (h : earlierB md ops = true) (hi : ops[i]? = some o) : ∀ j ∈ needsOf md o,j < i:=by
  intro j hj
  have hlt:=(Array.getElem?_eq_some_iff.1 hi).1
  have h1:=List.all_eq_true.1 h i (List.mem_range.2 hlt)
  rw [hi] at h1
  exact of_decide_eq_true (List.all_eq_true.1 h1 j hj)
theorem ready_needs {l : Array Bool} {i : Nat} (h : i ∈ Region.ready md ops l) : ∃ o,ops[i]? = some o∧l.getD i true = false∧∀ j ∈ needsOf md o,l.getD j false = true:=by
  rw [ready_eq] at h
  unfold readyT at h
  have h1:=(List.mem_filter.1 h).2
  have hlt:=List.mem_range.1 (List.mem_filter.1 h).1
  rw [rtab_length] at hlt
  have ho : ops[i]? = some ops[i]:=Array.getElem?_eq_getElem hlt
  unfold readyAt at h1
  rw [rtab_some ho] at h1
  simp only [Bool.and_eq_true,Bool.not_eq_true'] at h1
  refine⟨_,ho,by rw [gd];exact h1.1,fun j hj=>?_⟩
  rw [gd]
  exact List.all_eq_true.1 h1.2 j hj
theorem ready_of {l : Array Bool} {i : Nat} {o : Oper} (ho : ops[i]? = some o) (h1 : l.getD i true = false) (h2 : ∀ j ∈ needsOf md o,l.getD j false = true) : i ∈ Region.ready md ops l:=by
  rw [ready_eq]
  unfold readyT
  refine List.mem_filter.2 ⟨List.mem_range.2 ?_,?_⟩
  · rw [rtab_length];exact(Array.getElem?_eq_some_iff.1 ho).1
  · unfold readyAt
    rw [rtab_some ho]
    simp only [Bool.and_eq_true,Bool.not_eq_true']
    refine⟨by rw [← gd];exact h1,List.all_eq_true.2 fun j hj=>?_⟩
    rw [← gd]
    exact h2 j hj
/-- How many are still to come. -/
def left (l : Array Bool) : Nat:=(l.toList.filter (fun b=>!b)).length
theorem left_set {l : Array Bool} {i : Nat} (h : l.getD i true = false) : left (l.setIfInBounds i true) + 1 = left l:=by
  have hi : i < l.size:=by
    rcases Nat.lt_or_ge i l.size with h1|h1
    · exact h1
    · rw [Array.getD_eq_getD_getElem?,Array.getElem?_eq_none h1] at h;cases h
  have hv : l.toList[i]'(by simpa using hi) = false:=by
    rw [Array.getD_eq_getD_getElem?,Array.getElem?_eq_getElem hi] at h
    simpa using h
  unfold left
  rw [Array.toList_setIfInBounds]
  have hl : i < l.toList.length:=by simpa using hi
  have e1 : l.toList = l.toList.take i ++ false :: l.toList.drop (i + 1):=by
    rw [← hv,← List.drop_eq_getElem_cons hl,List.take_append_drop]
  have e2 : l.toList.set i true = l.toList.take i ++ true :: l.toList.drop (i + 1):=by rw [List.set_eq_take_append_cons_drop,if_pos hl]
  rw [e2]
  have e3 : (l.toList.filter (fun b=>!b)).length = ((l.toList.take i ++ false :: l.toList.drop (i + 1)).filter (fun b=>!b)).length:=by rw [← e1]
  rw [e3]
  simp [List.filter_append]
  omega
theorem all_listed {l : Array Bool} (hs : l.size = ops.size) (he : earlierB md ops = true) (hr : Region.ready md ops l = []) : ∀ i,i < ops.size→l.getD i false = true:=by
  intro i
  induction i using Nat.strongRecOn with
  | _ i ih =>
    intro hi
    have ho : ops[i]? = some ops[i]:=Array.getElem?_eq_getElem hi
    cases hl : l.getD i true with
    | false =>
      have:=ready_of ho hl (fun j hj=>ih j (earlier he ho j hj) (by have:=earlier he ho j hj;omega))
      rw [hr] at this
      cases this
    | true =>
      rw [Array.getD_eq_getD_getElem?,Array.getElem?_eq_getElem (by omega)] at hl ⊢
      exact hl
theorem left_zero {l : Array Bool} (h : left l = 0) : ∀ i,i < l.size→l.getD i false = true:=by
  intro i hi
  unfold left at h
  have h1:=List.eq_nil_of_length_eq_zero h
  have h2 : ¬ ((!(l.toList[i]'(by simpa using hi))) = true):=fun hc=>by
    have : l.toList[i]'(by simpa using hi) ∈ l.toList.filter (fun b=>!b):=List.mem_filter.2 ⟨List.getElem_mem _,hc⟩
    rw [h1] at this
    cases this
  rw [Array.getD_eq_getD_getElem?,Array.getElem?_eq_getElem hi]
  simpa using h2
theorem wpAny_inv (J : (Nat→Bool)→Act→World→Prop) (he : earlierB md ops = true)
    (step : ∀ l a w i o,J l a w→ops[i]? = some o→l i = false→(∀ j ∈ needsOf md o,l j = true) →
      if Region.wanted o (yielded ops a.tmps) = true then o.wp P a w (J (fun j=>l j || j == i)) Q else J (fun j=>l j || j == i) (a.put o.dst undef) w)
    (done : ∀ l a w,J l a w→(∀ j,j < ops.size→l j = true)→Q .normal a w) :
    ∀ (fuel : Nat) (l : Array Bool) (a : Act) (w : World),l.size = ops.size→left l ≤ fuel→J (fun j=>l.getD j false) a w→wpAny P md ops Q fuel l a w
  | 0,l,a,w,hs,hf,hJ=>by
    have hall:=left_zero (l:=l) (by omega)
    refine⟨?_,done _ _ _ hJ (fun j hj=>hall j (by omega))⟩
    cases hr : Region.ready md ops l with
    | nil=>rfl
    | cons i r =>
      obtain ⟨o,ho,h1,_⟩:=ready_needs (md:=md) (ops:=ops) (l:=l) (i:=i) (by rw [hr];exact List.mem_cons_self)
      have hi:=(Array.getElem?_eq_some_iff.1 ho).1
      have h2:=hall i (by omega)
      rw [Array.getD_eq_getD_getElem?,Array.getElem?_eq_getElem (by omega)] at h1 h2
      rw [Option.getD_some] at h1 h2
      rw [h1] at h2
      cases h2
  | fuel + 1,l,a,w,hs,hf,hJ=>by
    refine⟨fun hr=>done _ _ _ hJ (all_listed hs he hr),fun i hi=>?_⟩
    obtain ⟨o,ho,h1,h2⟩:=ready_needs hi
    have hlt:=(Array.getElem?_eq_some_iff.1 ho).1
    have hlf : l.getD i false = false:=by
      rw [Array.getD_eq_getD_getElem?,Array.getElem?_eq_getElem (by omega)] at h1 ⊢
      exact h1
    have hst:=step _ a w i o hJ ho hlf h2
    have hset : (fun j=>(l.setIfInBounds i true).getD j false) = (fun j=>l.getD j false || j == i):=by
      funext j
      rw [Array.getD_eq_getD_getElem?,Array.getD_eq_getD_getElem?,Array.getElem?_setIfInBounds]
      by_cases e : j = i
      · subst e;simp [show j < l.size by omega]
      · rw [if_neg (fun h=>e h.symm)];simp [e]
    have next : ∀ a w,J (fun j=>l.getD j false || j == i) a w→wpAny P md ops Q fuel (l.setIfInBounds i true) a w:=fun a w h =>
      wpAny_inv J he step done fuel _ a w (by simpa using hs) (by have:=left_set h1;omega) (by rw [hset];exact h)
    unfold wpOp
    rw [ho]
    simp only
    split
    · rename_i hw
      rw [if_pos hw] at hst
      exact .inl (Oper.wp_mono next hst)
    · rename_i hw
      rw [if_neg hw] at hst
      exact next _ _ hst
end
end Go.Proofs.YtojjnifbnppliaaW.Ri
end
section
namespace Go.Proofs.Ytojjnifbnppliaa.T
open Go.RowKit Go.Proofs.YtojjnifbnppliaaW.PrintWords Go.Proofs.YtojjnifbnppliaaW.PrintLast Go.Proofs.YtojjnifbnppliaaW.PrintMore
attribute [local go_sem] max2_int min2_int max_two min_two max_three min_three max_four min_four
set_option linter.unusedVariables false
set_option linter.unusedSimpArgs false
theorem R_empty {α : Type} (d : Kd α) (e : Nat) (W : World) : d.R e (W.alloc (.cells #[] e)) W.heap.size (fun _=>True) (.slice (some ⟨W.heap.size,0,none⟩) 0 0) [] :=
  ⟨fun _ _=>trivial,[],by simpa using World.ownsRow_lit (base:=W.heap.size) (e:=e) (size:=d.sz) W #[] 0 (Nat.le_refl _) (by simp [maxLen]) (by simp),Reps.none _ _⟩
theorem C_none {α : Type} {d : Kd α} {w : World} {l : List α} (h : d.C w none l.length l) : l = []:=by
  rcases Nat.eq_zero_or_pos l.length with h0|h0
  · exact List.eq_nil_of_length_eq_zero h0
  · obtain ⟨ad,h,_⟩:=h.2.2 h0
    cases h
set_option maxHeartbeats 1000000 in
theorem bytes_Clone.calls (A0 : Option Addr) (c0 : Nat) (l0 : List Int) (w : World) (hr0 : Kd.C (Kd.int .u8) w A0 l0.length l0) (hl : l0.length < 140737488355328) :
    Calls Try.prog 54 #[.slice A0 l0.length c0] w fun e w'=>∃ v0_ : Value,e = .returned (v0_)∧Kd.R (Kd.int .u8) 5 w' w.heap.size (fun _=>True) v0_ l0∧Below w.heap.size w w':=by
  have hu:=Try.underlying22
  have HR:=Aside0.mk hr0
  have HL:=Aside0.mk hl
  have hnn : ∀ (W : World) (a : Option Addr),(binOp .eql 22 (.slice a l0.length c0) (.slice none 0 0)).run Try.prog W = .ok (.bool a.isNone) W:=fun W a=>run_eql_slice_nil W 22 5 a l0.length c0 Try.underlying22
  clear hr0 hl
  rcases A0 with _|ad
  · have h0':=Aside0.mk (C_none HR.out)
    go_enter Try.func54,Try.ntmps54
    go_wp2
    go_ret
    exact⟨_,rfl,by rw [h0'.out];exact Kd.R_nil _ _ _ _ _,Below.refl _ _⟩
  · go_enter Try.func54,Try.ntmps54
    go_wp2_with (first|((with_reducible refine gate_builtin (b:=.append) (xs:=#[.tmp 5,.tmp 6]) rfl ?_);at_builtin;refine Kd.R_append_rows (Kd.int .u8) (Rr:=(Kd.int .u8).K w) (w0:=w) w.heap.size rfl (.tmp 5) (.tmp 6) 22 5 (.int .u8 0) 1 rfl Try.underlying22 info5 rfl (by decide) (by omega) (.slice (some ⟨w.heap.size,0,none⟩) 0 0) [] l0 (some ad) l0.length c0 (fun _=>True) (fun _=>False) rfl rfl ?aO ?aR ?aK (fun _ hk=>hk.elim) (fun _ _=>trivial) ?aB ?aS ?aL ?_;(case aO=>exact R_empty (Kd.int .u8) 5 w);(case aR=>exact Kd.C_alloc HR.out _);(case aK=>intro x cs hx;exact hx);(case aB=>exact(Below.refl _ _).alloc (Nat.le_refl _) _);(case aS=>simp);(case aL=>have:=HL.out;simp;omega);intro v1 w1 ho hb hg hat;have HO:=Aside0.mk ho;have HB:=Aside0.mk hb;clear ho hb hg hat))
    go_ret
    exact⟨_,rfl,HO.out,HB.out⟩
theorem choose_list {α : Type} {n : Nat} {p : Nat→α→Prop} (h : ∀ i,i < n→∃ x,p i x) : ∃ l : List α,l.length = n∧∀ (i : Nat) (x : α),l[i]? = some x→p i x:=by
  induction n with
  | zero=>exact⟨[],rfl,fun i x hx=>by simp at hx⟩
  | succ n ih =>
    obtain ⟨l,hl,hp⟩:=ih (fun i hi=>h i (by omega))
    obtain ⟨y,hy⟩:=h n (by omega)
    refine⟨l ++ [y],by simp [hl],fun i x hx=>?_⟩
    rcases Nat.lt_or_ge i l.length with hi|hi
    · rw [List.getElem?_append_left hi] at hx
      exact hp i x hx
    · have : i = l.length:=by
        have:=(List.getElem?_eq_some_iff.1 hx).1
        rw [List.length_append,List.length_singleton] at this
        omega
      subst this
      have hx' : y = x:=by simpa using hx
      rw [← hx',hl]
      exact hy
/-- A row that is read, its elements' cells under names. -/
theorem C_rows {α : Type} {d : Kd α} {w : World} {A : Option Addr} {l : List α} (h : d.C w A l.length l) :
    ∃ rows : List (List Value),rows.length = l.length∧ReadsRow ((Kd.raw d.sz).K w) d.sz w A l.length rows∧∀ (j : Nat) (x : α) (c : List Value),l[j]? = some x→rows[j]? = some c→d.K w x c:=by
  rcases Nat.eq_zero_or_pos l.length with h0|h0
  · obtain rfl:=List.eq_nil_of_length_eq_zero h0
    exact⟨[],rfl,⟨rfl,by simp,fun h=>absurd h (by simp)⟩,fun j x c hx=>by simp at hx⟩
  obtain ⟨ad,hA,hc⟩:=h.2.2 h0
  obtain ⟨rows,hl,hr⟩:=choose_list (n:=l.length) (p:=fun j c=>c.length = d.sz∧(∃ x,l[j]? = some x∧d.K w x c)∧∀ i u,c[i]? = some u→w.cell? (ad.add (j * d.sz + i)) = some u) (fun j hj=>by
    obtain ⟨c,h1,h2,h3⟩:=hc j _ (List.getElem?_eq_getElem hj)
    exact⟨c,h1,⟨_,List.getElem?_eq_getElem hj,h2⟩,h3⟩)
  refine⟨rows,hl,⟨hl,h.2.1,fun _=>⟨ad,hA,fun j c hj=>?_⟩⟩,fun j x c hx hj=>?_⟩
  · obtain ⟨h1,⟨x,_,h2⟩,h3⟩:=hr j c hj
    exact⟨c,h1,⟨rfl,h1,d.K_one h2⟩,h3⟩
  · obtain ⟨_,⟨y,hy,h2⟩,_⟩:=hr j c hj
    rw [hx] at hy
    cases hy
    exact h2
/-- A row of cells, each element's blocks told: apart. -/
theorem raw_to_S {α : Type} {d : Kd α} {e : Nat} {w : World} {base : Nat} {ok : Nat→Prop} {v : Value} {xs : List α} {rows : List (List Value)} {f : Nat→Nat}
    (hR : (Kd.raw d.sz).R e w base ok v rows) (hl : rows.length = xs.length) (hM : ∀ (j : Nat) (x : α) (c : List Value),xs[j]? = some x→rows[j]? = some c→d.M w base (fun k=>(ok k∧some k ≠ v.ownBlock)∧f k = j) x c) : Kd.S d e w base ok v xs:=by
  obtain ⟨h0,inner,ho,hr⟩:=hR
  refine⟨f,h0,inner,by rw [List.length_zipIdx,← hl];exact ho,by rw [List.length_zipIdx,← hl];exact hr.1,fun j q hq=>?_⟩
  rw [List.getElem?_zipIdx] at hq
  obtain ⟨x,hx,rfl⟩:=Option.map_eq_some_iff.1 hq
  have hj : j < rows.length:=by rw [hl];exact(List.getElem?_eq_some_iff.1 hx).1
  have h1:=(hr.2 j _ (List.getElem?_eq_getElem hj)).1
  have h2:=hM j x _ hx (List.getElem?_eq_getElem hj)
  show d.M w base _ x ((inner.drop (j * d.sz)).take d.sz)
  rw [show(inner.drop (j * d.sz)).take d.sz = rows[j] from h1]
  refine d.M_mono (fun k hk=>?_) h2
  simpa using hk
set_option maxHeartbeats 1000000 in
theorem CloneL.calls (A0 : Option Addr) (c0 : Nat) (l0 : List (List Int)) (wb w : World) (hwb : Below wb.heap.size wb w) (hr0 : Kd.C (Kd.slice 5 (Kd.int .u8)) wb A0 l0.length l0) (hl : l0.length * 24 ≤ 140737488355328) :
    Calls Try.prog 60 #[.slice A0 l0.length c0] w fun e w'=>∃ (v : Value) (rows : List (List Value)),e = .returned v∧rows.length = l0.length∧(∀ (j : Nat) (x : List Int) (c : List Value),l0[j]? = some x→rows[j]? = some c→(Kd.slice 5 (Kd.int .u8)).K wb x c)∧(Kd.raw (Kd.slice 5 (Kd.int .u8)).sz).R 22 w' w.heap.size (fun _=>True) v rows∧Below w.heap.size w w':=by
  have hu:=Try.underlying25
  obtain ⟨rows,hrl,hrr,hrk⟩:=C_rows hr0
  have HR:=Aside0.mk hr0
  have HL:=Aside0.mk hl
  have HWB:=Aside0.mk hwb
  have HRR:=Aside0.mk hrr
  have HRL:=Aside0.mk hrl
  have HRK:=Aside0.mk hrk
  have hnn : ∀ (W : World) (a : Option Addr),(binOp .eql 25 (.slice a l0.length c0) (.slice none 0 0)).run Try.prog W = .ok (.bool a.isNone) W:=fun W a=>run_eql_slice_nil W 25 22 a l0.length c0 Try.underlying25
  clear hr0 hwb hl hrr hrl hrk
  rcases A0 with _|ad
  · have h0':=Aside0.mk (C_none HR.out)
    go_enter Try.func60,Try.ntmps60
    go_wp2
    go_ret
    have : rows = []:=List.eq_nil_of_length_eq_zero (by rw [HRL.out,h0'.out];rfl)
    exact⟨_,[],rfl,by rw [h0'.out];rfl,by intro j x c _ hc;simp at hc,Kd.R_nil _ _ _ _ _,Below.refl _ _⟩
  · go_enter Try.func60,Try.ntmps60
    go_wp2_with (first|((with_reducible refine gate_builtin (b:=.append) (xs:=#[.tmp 5,.tmp 6]) rfl ?_);at_builtin;refine Kd.R_append_rows (Kd.raw 1) (Rr:=(Kd.raw 1).K w) (w0:=w) w.heap.size rfl (.tmp 5) (.tmp 6) 25 22 (.slice none 0 0) 24 rfl Try.underlying25 info22 rfl (by decide) (by omega) (.slice (some ⟨w.heap.size,0,none⟩) 0 0) [] rows (some ad) l0.length c0 (fun _=>True) (fun _=>False) rfl rfl ?aO ?aR ?aK (fun _ hk=>hk.elim) (fun _ _=>trivial) ?aB ?aS ?aL ?_;(case aO=>exact R_empty (Kd.raw 1) 22 w);(case aR=>exact ReadsRow.imp_ HRR.out (below_alloc HWB.out _) (fun _ _ h=>h));(case aK=>intro x cs hx;exact hx);(case aB=>exact(Below.refl _ _).alloc (Nat.le_refl _) _);(case aS=>simp);(case aL=>have:=HL.out;simp;omega);intro v1 w1 ho hb hg hat;have HO:=Aside0.mk ho;have HB:=Aside0.mk hb;clear ho hb hg hat))
    go_ret
    exact⟨_,rows,rfl,HRL.out,HRK.out,HO.out,HB.out⟩
set_option maxHeartbeats 1000000 in
theorem CloneW.calls (A0 : Option Addr) (c0 : Nat) (l0 : List (S69)) (wb w : World) (hwb : Below wb.heap.size wb w) (hr0 : Kd.C k69 wb A0 l0.length l0) (hl : l0.length * 48 ≤ 140737488355328) :
    Calls Try.prog 43 #[.slice A0 l0.length c0] w fun e w'=>∃ (v : Value) (rows : List (List Value)),e = .returned v∧rows.length = l0.length∧(∀ (j : Nat) (x : S69) (c : List Value),l0[j]? = some x→rows[j]? = some c→k69.K wb x c)∧(Kd.raw k69.sz).R 69 w' w.heap.size (fun _=>True) v rows∧Below w.heap.size w w':=by
  have hu:=Try.underlying27
  obtain ⟨rows,hrl,hrr,hrk⟩:=C_rows hr0
  have HR:=Aside0.mk hr0
  have HL:=Aside0.mk hl
  have HWB:=Aside0.mk hwb
  have HRR:=Aside0.mk hrr
  have HRL:=Aside0.mk hrl
  have HRK:=Aside0.mk hrk
  have hnn : ∀ (W : World) (a : Option Addr),(binOp .eql 27 (.slice a l0.length c0) (.slice none 0 0)).run Try.prog W = .ok (.bool a.isNone) W:=fun W a=>run_eql_slice_nil W 27 69 a l0.length c0 Try.underlying27
  clear hr0 hwb hl hrr hrl hrk
  rcases A0 with _|ad
  · have h0':=Aside0.mk (C_none HR.out)
    go_enter Try.func43,Try.ntmps43
    go_wp2
    go_ret
    have : rows = []:=List.eq_nil_of_length_eq_zero (by rw [HRL.out,h0'.out];rfl)
    exact⟨_,[],rfl,by rw [h0'.out];rfl,by intro j x c _ hc;simp at hc,Kd.R_nil _ _ _ _ _,Below.refl _ _⟩
  · go_enter Try.func43,Try.ntmps43
    go_wp2_with (first|((with_reducible refine gate_builtin (b:=.append) (xs:=#[.tmp 5,.tmp 6]) rfl ?_);at_builtin;refine Kd.R_append_rows (Kd.raw 4) (Rr:=(Kd.raw 4).K w) (w0:=w) w.heap.size rfl (.tmp 5) (.tmp 6) 27 69 (.agg #[(.bool false),(.int .i64 0),(.slice none 0 0),(.int .i64 0)]) 48 rfl Try.underlying27 info69 rfl (by decide) (by omega) (.slice (some ⟨w.heap.size,0,none⟩) 0 0) [] rows (some ad) l0.length c0 (fun _=>True) (fun _=>False) rfl rfl ?aO ?aR ?aK (fun _ hk=>hk.elim) (fun _ _=>trivial) ?aB ?aS ?aL ?_;(case aO=>exact R_empty (Kd.raw 4) 69 w);(case aR=>exact ReadsRow.imp_ HRR.out (below_alloc HWB.out _) (fun _ _ h=>h));(case aK=>intro x cs hx;exact hx);(case aB=>exact(Below.refl _ _).alloc (Nat.le_refl _) _);(case aS=>simp);(case aL=>have:=HL.out;simp;omega);intro v1 w1 ho hb hg hat;have HO:=Aside0.mk ho;have HB:=Aside0.mk hb;clear ho hb hg hat))
    go_ret
    exact⟨_,rows,rfl,HRL.out,HRK.out,HO.out,HB.out⟩
/-- After i rounds: the row's cells; elements below i lead to rows of the call's own, apart; those from i on are as they came. -/
def InvC {α : Type} (d : Kd α) (e : Nat) (w0 : World) (B N g cap : Nat) (l : List α) (i : Int) (W : World) : Prop :=
  ∃ (rows : List (List Value)) (f : Nat→Nat),rows.length = l.length∧(Kd.raw d.sz).R e W B (fun _=>True) (.slice (some ⟨g,0,none⟩) l.length cap) rows ∧
    ∀ (j : Nat) (x : α) (c : List Value),l[j]? = some x→rows[j]? = some c→(((j : Int) < i→d.M W B (fun k=>(N ≤ k∧k ≠ g)∧f k = j) x c)∧(i ≤ (j : Int)→d.K w0 x c))
theorem own_slice_g (g n cap : Nat) : (Value.slice (some ⟨g,0,none⟩) n cap).ownBlock = some g:=rfl
/-- One round: a part of element i's cells is written anew. -/
theorem InvC.step {α : Type} {d : Kd α} {e : Nat} {w0 W W1 W2 : World} {B N g cap : Nat} {l : List α} {i : Int} (h : InvC d e w0 B N g cap l i W) (h0 : 0 ≤ i) (h1 : i < l.length) (hN : N ≤ W.heap.size) (hb : Below W.heap.size W W1) {x' : α} (hx' : l[i.toNat]? = some x')
    {c' : List Value} (hg : W1.grownBy W2 (some g)) (hrow : ∀ rows : List (List Value),(Kd.raw d.sz).R e W1 B (fun _=>True) (.slice (some ⟨g,0,none⟩) l.length cap) rows→rows.length = l.length→(∀ c,rows[i.toNat]? = some c→∃ okk,d.K w0 x' c→d.M W2 W.heap.size okk x' c'∧(Kd.raw d.sz).R e W2 B (fun _=>True) (.slice (some ⟨g,0,none⟩) l.length cap) (rows.set i.toNat c'))) (hB : B ≤ W.heap.size) :
    InvC d e w0 B N g cap l (i + 1) W2:=by
  obtain ⟨rows,f,hl,hR,hM⟩:=h
  have hin : i.toNat < l.length:=by omega
  have hrl : i.toNat < rows.length:=by omega
  obtain ⟨okk,hk⟩:=hrow rows (Kd.R_below hR hb) hl _ (List.getElem?_eq_getElem hrl)
  obtain ⟨hMn,hRn⟩:=hk ((hM _ _ _ hx' (List.getElem?_eq_getElem hrl)).2 (by omega))
  have hgl : g < W.heap.size:=by
    obtain ⟨inner,ho⟩:=Kd.R_own hR
    exact own_lt ho g rfl
  refine⟨rows.set i.toNat c',fun k=>if W.heap.size ≤ k then i.toNat else f k,by rw [List.length_set];exact hl,hRn,fun j x cx hj hcx=>⟨fun hji=>?_,fun hij=>?_⟩⟩
  · by_cases e : j = i.toNat
    · subst e
      rw [hx'] at hj
      cases hj
      rw [List.getElem?_set_self (by omega)] at hcx
      cases hcx
      exact d.M_mono (fun k hk=>⟨⟨by have:=hk.2.1;omega,by have:=hk.2.1;omega⟩,if_pos hk.2.1⟩) (d.M_lower hB (d.M_bound hMn))
    · rw [List.getElem?_set_ne (by omega)] at hcx
      have hm:=(hM j x cx hj hcx).1 (by omega)
      have hm2:=d.M_mono (ok':=fun k=>((N ≤ k∧k ≠ g)∧f k = j)∧k < W.heap.size) (fun k hk=>⟨hk.1,hk.2.2.1⟩) (d.M_bound hm)
      have hm3:=Kd.M_grown (Kd.M_below hm2 hb) hg (fun k hk e=>by cases e;exact hk.1.1.2 rfl)
      exact d.M_mono (fun k hk=>⟨hk.1.1,by dsimp only;rw [if_neg (by omega)];exact hk.1.2⟩) hm3
  · rw [List.getElem?_set_ne (by omega)] at hcx
    exact(hM j x cx hj hcx).2 (by omega)
theorem InvC.start {α : Type} {d : Kd α} {e : Nat} {w W : World} {B N g cap : Nat} {l : List α} {rows : List (List Value)} (hl : rows.length = l.length) (hR : (Kd.raw d.sz).R e W B (fun _=>True) (.slice (some ⟨g,0,none⟩) l.length cap) rows)
    (hK : ∀ (j : Nat) (x : α) (c : List Value),l[j]? = some x→rows[j]? = some c→d.K w x c) : InvC d e w B N g cap l 0 W :=
  ⟨rows,fun _=>0,hl,hR,fun j x c hj hc=>⟨fun h=>by omega,fun _=>hK j x c hj hc⟩⟩
theorem InvC.done {α : Type} {d : Kd α} {e : Nat} {w W : World} {B N g cap : Nat} {l : List α} {i : Int} (h : InvC d e w B N g cap l i W) (hi : (l.length : Int) ≤ i) : Kd.S d e W B (fun k=>some k = (Value.slice (some ⟨g,0,none⟩) l.length cap).ownBlock∨N ≤ k) (.slice (some ⟨g,0,none⟩) l.length cap) l:=by
  obtain ⟨rows,f,hl,hR,hM⟩:=h
  refine raw_to_S (f:=f) (Kd.R_mono (ok':=fun k=>some k = (Value.slice (some ⟨g,0,none⟩) l.length cap).ownBlock∨N ≤ k) ?_ (fun _ hk=>hk)) hl (fun j x c hj hc=>?_)
  · obtain ⟨_,inner,ho,hr⟩:=hR
    exact⟨fun k hk=>.inl hk.symm,inner,ho,hr⟩
  · have hj' : j < l.length:=(List.getElem?_eq_some_iff.1 hj).1
    refine d.M_mono (fun k hk=>⟨⟨.inr hk.1.1,fun e=>hk.1.2 ?_⟩,hk.2⟩) ((hM j x c hj hc).1 (by omega))
    rw [own_slice_g] at e
    exact Option.some.inj e
/-- The list's row between two rounds: nothing is in it, or as InvC says. -/
def InvS {α : Type} (d : Kd α) (e : Nat) (w0 : World) (B N : Nat) (A : Option Addr) (cap : Nat) (l : List α) (i : Int) (W : World) : Prop :=
  (l = []∧(Kd.raw d.sz).R e W B (fun _=>True) (.slice A l.length cap) [])∨∃ g,A = some ⟨g,0,none⟩∧InvC d e w0 B N g cap l i W
theorem InvS.done {α : Type} {d : Kd α} {e : Nat} {w W : World} {B N cap : Nat} {A : Option Addr} {l : List α} {i : Int} (h : InvS d e w B N A cap l i W) (hi : (l.length : Int) ≤ i) : Kd.S d e W B (fun k=>some k = (Value.slice A l.length cap).ownBlock∨N ≤ k) (.slice A l.length cap) l:=by
  rcases h with ⟨rfl,h2⟩|⟨g,rfl,h2⟩
  · refine raw_to_S (f:=fun _=>0) (rows:=[]) (Kd.R_mono (ok':=fun k=>some k = (Value.slice A ([] : List α).length cap).ownBlock∨N ≤ k) ?_ (fun _ hk=>hk)) rfl (fun j x c hj=>by simp at hj)
    obtain ⟨_,inner,ho,hr⟩:=h2
    exact⟨fun k hk=>.inl hk.symm,inner,ho,hr⟩
  · exact h2.done hi
theorem InvS.start {α : Type} {d : Kd α} {e : Nat} {w W : World} {B N cap : Nat} {A : Option Addr} {l : List α} {rows : List (List Value)} (hl : rows.length = l.length) (hR : (Kd.raw d.sz).R e W B (fun _=>True) (.slice A l.length cap) rows)
    (hK : ∀ (j : Nat) (x : α) (c : List Value),l[j]? = some x→rows[j]? = some c→d.K w x c) : InvS d e w B N A cap l 0 W:=by
  rcases Nat.eq_zero_or_pos l.length with h0|h0
  · obtain rfl:=List.eq_nil_of_length_eq_zero h0
    obtain rfl:=List.eq_nil_of_length_eq_zero hl
    exact .inl ⟨rfl,hR⟩
  · obtain ⟨g,cap',he,_⟩:=Kd.R_form hR (by omega)
    injection he with h1 h2 h3
    subst h1 h3
    exact .inr ⟨g,rfl,InvC.start hl hR hK⟩
theorem InvL.step {w0 W W1 : World} {B N g cap : Nat} {l : List (List Int)} {i : Int} (h : InvC (Kd.slice 5 (Kd.int .u8)) 22 w0 B N g cap l i W) (h0 : 0 ≤ i) (h1 : i < l.length) (hN : N ≤ W.heap.size) (hB : B ≤ W.heap.size) (hb : Below W.heap.size W W1)
    {v2 : Value} (hv : (Kd.int .u8).R 5 W1 W.heap.size (fun _=>True) v2 (rd_L1 l i)) :
    W1.frozen? ⟨g,i.toNat,none⟩ = false∧InvC (Kd.slice 5 (Kd.int .u8)) 22 w0 B N g cap l (i + 1) (W1.setCell ⟨g,i.toNat,none⟩ v2)∧W1.grownBy (W1.setCell ⟨g,i.toNat,none⟩ v2) (some g):=by
  have hg0 : g < W.heap.size:=by
    obtain ⟨rows,f,hl,hR,hM⟩:=h
    obtain ⟨inner,ho⟩:=Kd.R_own hR
    exact own_lt ho g rfl
  have hgr : W1.grownBy (W1.setCell ⟨g,i.toNat,none⟩ v2) (some g):=⟨rfl,rfl,rfl,by simp,fun k _ hk=>Below.heap_setCell _ _ _ k (fun e=>hk (by rw [e]))⟩
  obtain ⟨A,cv,hve,_⟩:=Kd.R_reads hv
  have hone : v2.oneCell' = true:=by rw [hve];rfl
  have hin : i.toNat < l.length:=by omega
  have hx : l[i.toNat]? = some (rd_L1 l i):=by unfold rd_L1;rw [List.getD_eq_getElem?_getD,List.getElem?_eq_getElem hin];rfl
  refine⟨?_,InvC.step (c':=[v2]) h h0 h1 hN hb hx hgr (fun rows hR hl c hc=>?_) hB,hgr⟩
  · obtain ⟨rows,f,hl,hR,hM⟩:=h
    obtain ⟨c,_,_,_,hfr⟩:=Kd.R_elem (Kd.R_below hR hb) [] i h0 h1
    have:=hfr 0
    simpa [Kd.raw,Kd.slice] using this
  · obtain ⟨cc,hcl,hMc,hcc,_⟩:=Kd.R_elem hR [] i h0 h1
    refine⟨fun k=>W.heap.size ≤ k,fun hK=>⟨⟨v2,rfl,?_⟩,?_⟩⟩
    · exact Kd.R_mono (Kd.R_grown (Kd.R_mono (ok':=fun k=>W.heap.size ≤ k) (Kd.R_bound hv) (fun k hk=>hk.2.1)) hgr (fun k hk e=>by cases e;omega)) (fun _ hk=>hk)
    · have hseg:=Kd.R_seg hR i h0 h1 (seg:=[v2]) (j:=0) (x':=[v2]) (okp:=fun _=>False) hcl hcc (show 1 ≤ 1 from Nat.le_refl _) (by
        have hd : cc.drop 1 = []:=List.drop_eq_nil_of_le (by rw [hcl];exact Nat.le_refl _)
        rw [show cc.take 0 ++ [v2] ++ cc.drop (0 + [v2].length) = [v2] from by simp [hd]]
        exact⟨rfl,rfl,fun u hu=>by rw [List.mem_singleton.1 hu];exact hone⟩) (fun _ hk=>hk.elim)
      have e : W1.setCells g (i.toNat * (Kd.raw (Kd.slice 5 (Kd.int .u8)).sz).sz + 0) [v2] = W1.setCell ⟨g,i.toNat,none⟩ v2:=by
        show W1.setCell ⟨g,i.toNat * 1 + 0,none⟩ v2 = _
        rw [Nat.mul_one,Nat.add_zero]
      rw [e] at hseg
      exact hseg.1
theorem InvW.step {w0 W W1 : World} {B N g cap : Nat} {l : List S69} {i : Int} (h : InvC k69 69 w0 B N g cap l i W) (h0 : 0 ≤ i) (h1 : i < l.length) (hN : N ≤ W.heap.size) (hB : B ≤ W.heap.size) (hb : Below W.heap.size W W1)
    {v2 : Value} (hv : (Kd.slice 5 (Kd.int .u8)).R 22 W1 W.heap.size (fun _=>True) v2 (rd_T69 l i).f2) :
    W1.frozen? ⟨g,i.toNat * 4 + 2,none⟩ = false∧InvC k69 69 w0 B N g cap l (i + 1) (W1.setCell ⟨g,i.toNat * 4 + 2,none⟩ v2)∧W1.grownBy (W1.setCell ⟨g,i.toNat * 4 + 2,none⟩ v2) (some g):=by
  have hg0 : g < W.heap.size:=by
    obtain ⟨rows,f,hl,hR,hM⟩:=h
    obtain ⟨inner,ho⟩:=Kd.R_own hR
    exact own_lt ho g rfl
  have hgr : W1.grownBy (W1.setCell ⟨g,i.toNat * 4 + 2,none⟩ v2) (some g):=⟨rfl,rfl,rfl,by simp,fun k _ hk=>Below.heap_setCell _ _ _ k (fun e=>hk (by rw [e]))⟩
  obtain ⟨A,cv,hve,_⟩:=Kd.R_reads hv
  have hone : v2.oneCell' = true:=by rw [hve];rfl
  have hin : i.toNat < l.length:=by omega
  have hx : l[i.toNat]? = some (rd_T69 l i):=by unfold rd_T69;rw [List.getD_eq_getElem?_getD,List.getElem?_eq_getElem hin];rfl
  refine⟨?_,InvC.step (c':=[.bool (rd_T69 l i).f0,.int .i64 (rd_T69 l i).f1,v2,.int .i64 (rd_T69 l i).f3]) h h0 h1 hN hb hx hgr (fun rows hR hl c hc=>?_) hB,hgr⟩
  · obtain ⟨rows,f,hl,hR,hM⟩:=h
    obtain ⟨c,_,_,_,hfr⟩:=Kd.R_elem (Kd.R_below hR hb) [] i h0 h1
    exact hfr 2
  · obtain ⟨cc,hcl,hMc,hcc,_⟩:=Kd.R_elem hR [] i h0 h1
    have hcceq : cc = c:=by
      have e1 : cc = rows.getD i.toNat []:=hMc.1
      rw [e1,List.getD_eq_getElem?_getD,hc];rfl
    subst hcceq
    refine⟨fun k=>W.heap.size ≤ k,fun hK=>?_⟩
    obtain ⟨A2,c2,rfl,_,_⟩:=k69_open hK
    refine⟨k69_mkM _ _ _ _ ?_,?_⟩
    · exact Kd.R_mono (Kd.R_grown (Kd.R_mono (ok':=fun k=>W.heap.size ≤ k) (Kd.R_bound hv) (fun k hk=>hk.2.1)) hgr (fun k hk e=>by cases e;omega)) (fun _ hk=>hk)
    · have hseg:=Kd.R_seg hR i h0 h1 (seg:=[v2]) (j:=2) (x':=[.bool (rd_T69 l i).f0,.int .i64 (rd_T69 l i).f1,v2,.int .i64 (rd_T69 l i).f3]) (okp:=fun _=>False) hcl hcc (show 3 ≤ 4 from by omega) (by
        refine⟨rfl,rfl,fun u hu=>?_⟩
        have hu' : u ∈ [Value.bool (rd_T69 l i).f0,.int .i64 (rd_T69 l i).f1,v2,.int .i64 (rd_T69 l i).f3]:=hu
        simp only [List.mem_cons,List.not_mem_nil,or_false] at hu'
        rcases hu' with rfl|rfl|rfl|rfl
        · rfl
        · rfl
        · exact hone
        · rfl) (fun _ hk=>hk.elim)
      exact hseg.1
set_option maxHeartbeats 1000000 in
theorem CloneI.calls (A0 : Option Addr) (c0 : Nat) (l0 : List Int) (w : World) (hr0 : Kd.C (Kd.int .i64) w A0 l0.length l0) (hl : l0.length * 8 < 140737488355328) :
    Calls Try.prog 15 #[.slice A0 l0.length c0] w fun e w'=>∃ v0_ : Value,e = .returned (v0_)∧Kd.R (Kd.int .i64) 3 w' w.heap.size (fun _=>True) v0_ l0∧Below w.heap.size w w':=by
  have hu:=Try.underlying23
  have HR:=Aside0.mk hr0
  have HL:=Aside0.mk hl
  have hnn : ∀ (W : World) (a : Option Addr),(binOp .eql 23 (.slice a l0.length c0) (.slice none 0 0)).run Try.prog W = .ok (.bool a.isNone) W:=fun W a=>run_eql_slice_nil W 23 3 a l0.length c0 Try.underlying23
  clear hr0 hl
  rcases A0 with _|ad
  · have h0':=Aside0.mk (C_none HR.out)
    go_enter Try.func15,Try.ntmps15
    go_wp2
    go_ret
    exact⟨_,rfl,by rw [h0'.out];exact Kd.R_nil _ _ _ _ _,Below.refl _ _⟩
  · go_enter Try.func15,Try.ntmps15
    go_wp2_with (first|((with_reducible refine gate_builtin (b:=.append) (xs:=#[.tmp 5,.tmp 6]) rfl ?_);at_builtin;refine Kd.R_append_rows (Kd.int .i64) (Rr:=(Kd.int .i64).K w) (w0:=w) w.heap.size rfl (.tmp 5) (.tmp 6) 23 3 (.int .i64 0) 8 rfl Try.underlying23 info3 rfl (by decide) (by omega) (.slice (some ⟨w.heap.size,0,none⟩) 0 0) [] l0 (some ad) l0.length c0 (fun _=>True) (fun _=>False) rfl rfl ?aO ?aR ?aK (fun _ hk=>hk.elim) (fun _ _=>trivial) ?aB ?aS ?aL ?_;(case aO=>exact R_empty (Kd.int .i64) 3 w);(case aR=>exact Kd.C_alloc HR.out _);(case aK=>intro x cs hx;exact hx);(case aB=>exact(Below.refl _ _).alloc (Nat.le_refl _) _);(case aS=>simp);(case aL=>have:=HL.out;simp;omega);intro v1 w1 ho hb hg hat;have HO:=Aside0.mk ho;have HB:=Aside0.mk hb;clear ho hb hg hat))
    go_ret
    exact⟨_,rfl,HO.out,HB.out⟩
set_option maxHeartbeats 1000000 in
theorem CloneB.calls (A0 : Option Addr) (c0 : Nat) (l0 : List Bool) (w : World) (hr0 : Kd.C Kd.bool w A0 l0.length l0) (hl : l0.length < 140737488355328) :
    Calls Try.prog 42 #[.slice A0 l0.length c0] w fun e w'=>∃ v0_ : Value,e = .returned (v0_)∧Kd.R Kd.bool 4 w' w.heap.size (fun _=>True) v0_ l0∧Below w.heap.size w w':=by
  have hu:=Try.underlying26
  have HR:=Aside0.mk hr0
  have HL:=Aside0.mk hl
  have hnn : ∀ (W : World) (a : Option Addr),(binOp .eql 26 (.slice a l0.length c0) (.slice none 0 0)).run Try.prog W = .ok (.bool a.isNone) W:=fun W a=>run_eql_slice_nil W 26 4 a l0.length c0 Try.underlying26
  clear hr0 hl
  rcases A0 with _|ad
  · have h0':=Aside0.mk (C_none HR.out)
    go_enter Try.func42,Try.ntmps42
    go_wp2
    go_ret
    exact⟨_,rfl,by rw [h0'.out];exact Kd.R_nil _ _ _ _ _,Below.refl _ _⟩
  · go_enter Try.func42,Try.ntmps42
    go_wp2_with (first|((with_reducible refine gate_builtin (b:=.append) (xs:=#[.tmp 5,.tmp 6]) rfl ?_);at_builtin;refine Kd.R_append_rows Kd.bool (Rr:=Kd.bool.K w) (w0:=w) w.heap.size rfl (.tmp 5) (.tmp 6) 26 4 (.bool false) 1 rfl Try.underlying26 info4 rfl (by decide) (by omega) (.slice (some ⟨w.heap.size,0,none⟩) 0 0) [] l0 (some ad) l0.length c0 (fun _=>True) (fun _=>False) rfl rfl ?aO ?aR ?aK (fun _ hk=>hk.elim) (fun _ _=>trivial) ?aB ?aS ?aL ?_;(case aO=>exact R_empty Kd.bool 4 w);(case aR=>exact Kd.C_alloc HR.out _);(case aK=>intro x cs hx;exact hx);(case aB=>exact(Below.refl _ _).alloc (Nat.le_refl _) _);(case aS=>simp);(case aL=>have:=HL.out;simp;omega);intro v1 w1 ho hb hg hat;have HO:=Aside0.mk ho;have HB:=Aside0.mk hb;clear ho hb hg hat))
    go_ret
    exact⟨_,rfl,HO.out,HB.out⟩
set_option maxHeartbeats 4000000 in
theorem cloneLog.calls (A0 : Option Addr) (c0 : Nat) (l0 : List (List Int)) (w : World) (hr0 : Kd.C (Kd.slice 5 (Kd.int .u8)) w A0 l0.length l0) (hl : l0.length * 24 ≤ 140737488355328) (hd : ∀ x ∈ l0,x.length < 140737488355328) :
    Calls Try.prog 41 #[.slice A0 l0.length c0] w fun e w'=>∃ v : Value,e = .returned v∧(Kd.slice 5 (Kd.int .u8)).R 22 w' w.heap.size (fun _=>True) v l0∧Below w.heap.size w w':=by
  have hu:=Try.underlying25
  have hu2:=Try.underlying22
  have HR:=Aside0.mk hr0
  have HL:=Aside0.mk hl
  have HD:=Aside0.mk hd
  have BIG:=Aside0.mk (show l0.length ≤ 9223372036854775807 from hr0.2.1)
  clear hr0 hl hd
  go_enter Try.func41,Try.ntmps41
  go_wp2_with (first|(go_at_call 60;refine(CloneL.calls A0 c0 l0 w w (Below.refl _ _) HR.out HL.out).mono ?_;rintro e w1 ⟨v,rows,rfl,hrl,hrk,hR,hb⟩;obtain ⟨A3,c3,hv⟩:=Kd.R_slice hR;rw [hrl] at hv;subst hv;have I0:=Aside0.mk (InvS.start (d:=Kd.slice 5 (Kd.int .u8)) (e:=22) (w:=w) (B:=w.heap.size) (N:=w1.heap.size) hrl hR hrk);have HB:=Aside0.mk hb;clear hR hrk hb))
  go_loopg [4,5,10] (l0.length + 1) (fun gg _ _ s10 wr=>∃ i : Int,s10 = .int .i64 i∧Aside0 (0 ≤ i∧i ≤ l0.length∧l0.length - i < gg∧w1.heap.size ≤ wr.heap.size∧Below w.heap.size w wr∧InvS (Kd.slice 5 (Kd.int .u8)) 22 w w.heap.size w1.heap.size A3 c3 l0 i wr))
  case atStart=>exact⟨0,rfl,⟨by omega,by omega,by omega,Nat.le_refl _,HB.out,I0.out⟩⟩
  case round =>
    obtain ⟨i,rfl,Z⟩:=hrel
    clear I0
    by_cases hlt : i < l0.length
    · have d1 : decide (i < (l0.length : Int)) = true:=decide_eq_true hlt
      obtain ⟨h0,hle,hgk,hcs,hBW,hS⟩:=Z.out
      rcases hS with ⟨h1,_⟩|⟨g,rfl,hC⟩
      · rw [h1] at hlt;simp at hlt;omega
      have hin : i.toNat < l0.length:=by omega
      have hx : l0[i.toNat]? = some (rd_L1 l0 i):=by unfold rd_L1;rw [List.getD_eq_getElem?_getD,List.getElem?_eq_getElem hin];rfl
      have HIC:=Aside0.mk hC
      obtain ⟨rows2,f,hl,hR,hM⟩:=hC
      obtain ⟨cx,hcl,hMc,hcc,_⟩:=Kd.R_elem hR [] i h0 hlt
      have hrow : rows2[i.toNat]? = some cx:=by
        rw [show cx = rows2.getD i.toNat [] from hMc.1,List.getD_eq_getElem?_getD,List.getElem?_eq_getElem (by omega)];rfl
      obtain ⟨A2,c2,rfl,hl2,hC2⟩:=(hM _ _ _ hx hrow).2 (by omega)
      have hx0 : wr.cell? ⟨g,i.toNat,none⟩ = some (.slice A2 (rd_L1 l0 i).length c2):=by
        have:=hcc 0 _ rfl
        simpa [Kd.raw,Kd.slice] using this
      have HC2:=Aside0.mk (And.intro (Kd.C_below hC2 hBW) (show(rd_L1 l0 i).length < 140737488355328 from HD.out _ (List.mem_of_getElem? hx)))
      have p1:=eq_true h0
      have p2:=eq_true hlt
      have KK:=Aside0.mk (And.intro hBW (And.intro hcs (And.intro hgk (And.intro h0 hlt))))
      clear hlt hrow hl2 hC2 hR hM hMc hl hx hcc hcl hBW hcs hgk hle h0 Z
      go_wp2_with (go_at_call 54;refine(bytes_Clone.calls A2 c2 (rd_L1 l0 i) _ (by repeat (first|exact HC2.out.1|(with_reducible refine Kd.C_alloc ?_ _)|(with_reducible refine Kd.C_drewN ?_ _)|(with_reducible refine Kd.C_drew ?_))) HC2.out.2).mono ?_;rintro e w2 ⟨v2,rfl,hR2,hb2⟩;have hbw : Below wr.heap.size wr w2:=below_then (by repeat (first|exact Below.refl _ _|apply pw_below_drewN|apply below_drew)) (by simp) hb2;obtain ⟨Av,cv,hve,_⟩:=Kd.R_reads hR2;subst hve;have hst:=InvL.step HIC.out (of_eq_true p1) (of_eq_true p2) KK.out.2.1 KK.out.1.size hbw (Kd.R_lower hR2 (by simp));have q0:=(hbw.cell (World.block_lt_of_cell? _ _ hx0)).trans hx0;obtain ⟨f0,hst2⟩:=hst;have HST:=Aside0.mk hst2;have HBW:=Aside0.mk hbw;clear hst2 hbw hR2 hb2)
      all_goals
        have h2:=of_eq_true p2
        have h1:=of_eq_true p1
        have hw : wrap64 (i + 1) = i + 1:=by have:=BIG.out;unfold wrap64;omega
        obtain ⟨hBW0,hcs,hgk,_,_⟩:=KK.out
        obtain ⟨gg,rfl⟩ : ∃ m,gk = m + 1:=⟨gk - 1,by omega⟩
        have hgB : w.heap.size ≤ g:=by
          obtain ⟨rows,f,_,hR,_⟩:=HIC.out
          obtain ⟨inner,ho⟩:=Kd.R_own hR
          exact own_base ho g rfl
        (try rw [hw])
        go_roundg gg
        case measure=>omega
        case rel =>
          have hsz:=HBW.out.size
          have hsz2:=HST.out.2.size
          exact⟨i + 1,rfl,⟨by omega,by omega,by omega,by omega,(hBW0.trans (HBW.out.mono hBW0.size)).grown HST.out.2 (by have:=hBW0.size;omega) (fun j hj=>by cases hj;omega),.inr ⟨g,rfl,HST.out.1⟩⟩⟩
    · have d1 : decide (i < (l0.length : Int)) = false:=decide_eq_false hlt
      obtain ⟨h0,hle,hgk,hcs,hBW,hS⟩:=Z.out
      have hF:=Aside0.mk (Kd.R_mono (ok':=fun _=>True) (Kd.S_R (hS.done (by omega))) (fun _ _=>trivial))
      have hBW2:=Aside0.mk hBW
      clear hS hBW hcs hgk hle h0 Z hlt
      go_wp2
      go_ret
      exact⟨_,rfl,hF.out,hBW2.out⟩
end Go.Proofs.Ytojjnifbnppliaa.T
end
section
namespace Go.Proofs.Ytojjnifbnppliaa.T
open Go.RowKit Go.Proofs.YtojjnifbnppliaaW.PrintWords Go.Proofs.YtojjnifbnppliaaW.PrintLast Go.Proofs.YtojjnifbnppliaaW.PrintMore
attribute [local go_sem] max2_int min2_int max_two min_two max_three min_three max_four min_four
set_option linter.unusedVariables false
set_option linter.unusedSimpArgs false
/-- A replica's state, as a value. -/
structure St where
  id : Int
  n : Int
  view : Int
  last : Int
  status : Int
  log : List (List Int)
  commit : Int
  mat : List Int
  marks : List Bool
  sent : Bool
  bals : List S69
  elapsed : Int
  timeout : Int
  draws : List Int
/-- Its lists are read. -/
def Rd (w : World) (s : St) (AL : Option Addr) (cL : Nat) (AM : Option Addr) (cM : Nat) (AK : Option Addr) (cK : Nat) (AB : Option Addr) (cB : Nat) (AD : Option Addr) (cD : Nat) : Prop :=
  (Kd.C (Kd.slice 5 (Kd.int .u8)) w AL s.log.length s.log∧s.log.length ≤ cL)∧(Kd.C (Kd.int .i64) w AM s.mat.length s.mat∧s.mat.length ≤ cM)∧(Kd.C Kd.bool w AK s.marks.length s.marks∧s.marks.length ≤ cK)∧(Kd.C k69 w AB s.bals.length s.bals∧s.bals.length ≤ cB)∧(Kd.C (Kd.int .i64) w AD s.draws.length s.draws∧s.draws.length ≤ cD)
theorem Rd.below {w W : World} {s : St} {AL AM AK AB AD : Option Addr} {cL cM cK cB cD : Nat} (h : Rd w s AL cL AM cM AK cK AB cB AD cD) (hb : Below w.heap.size w W) : Rd W s AL cL AM cM AK cK AB cB AD cD :=
  ⟨⟨Kd.C_below h.1.1 hb,h.1.2⟩,⟨Kd.C_below h.2.1.1 hb,h.2.1.2⟩,⟨Kd.C_below h.2.2.1.1 hb,h.2.2.1.2⟩,⟨Kd.C_below h.2.2.2.1.1 hb,h.2.2.2.1.2⟩,⟨Kd.C_below h.2.2.2.2.1 hb,h.2.2.2.2.2⟩⟩
def wi (a lo hi : Int) : Bool:=decide (lo ≤ a) && decide (a ≤ hi)
theorem wi_iff {a lo hi : Int} : wi a lo hi = true↔lo ≤ a∧a ≤ hi:=by simp [wi]
set_option maxHeartbeats 1000000 in
theorem within.calls (a lo hi : Int) (w : World) : Calls Try.prog 14 #[.int .i64 a,.int .i64 lo,.int .i64 hi] w fun e w'=>e = .returned (.bool (wi a lo hi))∧w' = w:=by
  by_cases h : lo ≤ a
  · have d1 : decide (lo ≤ a) = true:=decide_eq_true h
    clear h
    unfold wi
    rw [d1,Bool.true_and]
    go_enter Try.func14,Try.ntmps14
    go_wp2
    go_ret
    exact⟨rfl,rfl⟩
  · have d1 : decide (lo ≤ a) = false:=decide_eq_false h
    clear h
    unfold wi
    rw [d1,Bool.false_and]
    go_enter Try.func14,Try.ntmps14
    go_wp2
    go_ret
    exact⟨rfl,rfl⟩
def long (b : List Int) : Bool:=decide (256 < (b.length : Int))
set_option maxHeartbeats 1000000 in
theorem Long.calls (b : List Int) (A : Option Addr) (c : Nat) (w : World) : Calls Try.prog 57 #[.slice A b.length c] w fun e w'=>e = .returned (.bool (long b))∧w = w':=by
  go_enter Try.func57,Try.ntmps57
  go_wp2
  go_ret
  exact⟨rfl,rfl⟩
def idxP {α : Type} (p : α→Bool) (l : List α) : Int:=if l.findIdx p < l.length then(l.findIdx p : Int) else -1
theorem idxP_hit {α : Type} (p : α→Bool) (l : List α) (d : α) (i : Int) (h0 : 0 ≤ i) (h1 : i < l.length) (h : p (l.getD i.toNat d) = true) (hf : ∀ j : Nat,j < i→p (l.getD j d) = false) : idxP p l = i:=by
  have hn : i.toNat < l.length:=by omega
  have : l.findIdx p = i.toNat:=by
    rw [List.findIdx_eq hn]
    refine⟨by rw [List.getD_eq_getElem?_getD,List.getElem?_eq_getElem hn] at h;exact h,fun j hj=>?_⟩
    have:=hf j (by omega)
    rw [List.getD_eq_getElem?_getD,List.getElem?_eq_getElem (by omega)] at this
    simpa using this
  unfold idxP
  rw [this,if_pos hn]
  omega
theorem idxP_miss {α : Type} (p : α→Bool) (l : List α) (d : α) (hf : ∀ j : Nat,j < l.length→p (l.getD j d) = false) : idxP p l = -1:=by
  unfold idxP
  rw [if_neg]
  intro h
  have h1:=List.findIdx_getElem (p:=p) (xs:=l) (w:=h)
  have:=hf _ h
  rw [List.getD_eq_getElem?_getD,List.getElem?_eq_getElem h] at this
  simp at this
  rw [this] at h1
  exact absurd h1 (by simp)
theorem idxP_any {α : Type} (p : α→Bool) (l : List α) : decide (0 ≤ idxP p l) = l.any p:=by
  unfold idxP
  split
  · rename_i h
    rw [decide_eq_true (by omega)]
    exact(List.any_eq_true.2 ⟨_,List.getElem_mem h,List.findIdx_getElem⟩).symm
  · rename_i h
    rw [decide_eq_false (by omega)]
    have h2 : l.findIdx p = l.length:=by have:=List.findIdx_le_length (p:=p) (xs:=l);omega
    symm
    rw [List.any_eq_false]
    intro x hx
    simpa using List.findIdx_eq_length.1 h2 x hx
set_option maxHeartbeats 1000000 in
theorem IdxL.calls (A0 : Option Addr) (c0 : Nat) (l0 : List (List Int)) (p : (List Int)→Bool) (g : Nat) (lb : Array Value) (eg : ∀ args w,(callFunc g args).run Try.prog w = .ok (.enter g args) w) (w : World)
    (hr0 : Kd.C (Kd.slice 5 (Kd.int .u8)) w A0 l0.length l0)
    (hp : ∀ W (x : List Int) A c,Below w.heap.size w W→x ∈ l0→Kd.C (Kd.int .u8) W A x.length x→x.length ≤ c→Calls Try.prog g (#[.slice A x.length c] ++ lb) W fun e w'=>e = .returned (.bool (p x))∧Below w.heap.size w w') :
    Calls Try.prog 72 #[.slice A0 l0.length c0,.func (.func g) #[] lb] w fun e w'=>e = .returned (.int .i64 (idxP p l0))∧Below w.heap.size w w':=by
  have HR:=Aside0.mk hr0
  have hbig : l0.length ≤ 9223372036854775807:=hr0.2.1
  clear hr0
  go_enter Try.func72,Try.ntmps72
  go_wp2
  go_loopg [5,8] (l0.length + 1) (fun gg _ s8 wr=>∃ kk : Int,s8 = .int .i64 kk∧Aside0 (0 ≤ kk∧kk ≤ l0.length∧l0.length - kk < gg∧Below w.heap.size w wr∧(∀ j : Nat,j < kk→p (rd_L1 l0 j) = false)))
  case atStart=>exact⟨0,rfl,⟨by omega,by omega,by omega,Below.refl _ w,fun j hj=>by omega⟩⟩
  case round =>
    obtain ⟨kk,rfl,A⟩:=hrel
    by_cases hlt : kk < l0.length
    · have c2b0 : decide (kk < (l0.length : Int)) = true:=decide_eq_true hlt
      obtain ⟨ad,A2,c2,e,hx0,hl2,hC2⟩:=at_L1 HR.out kk A.out.1 hlt
      cases e
      have BW:=Aside0.mk A.out.2.2.2.1
      replace hx0:=(BW.out.cell (World.block_lt_of_cell? w _ hx0)).trans hx0
      have hmem : rd_L1 l0 kk ∈ l0:=by
        have hn : kk.toNat < l0.length:=by have:=A.out.1;omega
        unfold rd_L1;rw [List.getD_eq_getElem?_getD,List.getElem?_eq_getElem hn];exact List.getElem_mem hn
      have hcall:=hp wr (rd_L1 l0 kk) A2 c2 BW.out hmem (Kd.C_below hC2 BW.out) hl2
      have p1:=eq_true A.out.1
      have p2:=eq_true hlt
      clear hp hlt hC2 hl2 hmem
      cases hq : p (rd_L1 l0 kk) with
      | true =>
        rw [hq] at hcall
        have HQ:=Aside0.mk hq
        clear hq
        go_wp2_with (go_at_fn g;refine hcall.mono ?_;rintro e w' ⟨rfl,hb'⟩)
        go_ret
        refine⟨?_,hb'⟩
        rw [idxP_hit p l0 ([] : List Int) kk A.out.1 (of_eq_true p2) HQ.out A.out.2.2.2.2]
        rfl
      | false =>
        rw [hq] at hcall
        have HQ:=Aside0.mk hq
        clear hq
        go_wp2_with (go_at_fn g;refine hcall.mono ?_;rintro e w' ⟨rfl,hb'⟩)
        have hw : wrap64 (kk + 1) = kk + 1:=by
          have h1:=A.out.1
          have h2:=of_eq_true p2
          unfold wrap64
          omega
        have h2:=of_eq_true p2
        have hA:=A.out
        rw [hw]
        have hb2:=Aside0.mk hb'
        clear hb'
        obtain ⟨gg,rfl⟩ : ∃ m,gk = m + 1:=⟨gk - 1,by omega⟩
        go_roundg gg
        case measure=>omega
        case rel =>
          refine⟨kk + 1,rfl,⟨by omega,by omega,by omega,hb2.out,fun j hj=>?_⟩⟩
          by_cases e : (j : Int) = kk
          · rw [e];exact HQ.out
          · exact hA.2.2.2.2 j (by omega)
    · have c2b0 : decide (kk < (l0.length : Int)) = false:=decide_eq_false hlt
      go_wp2
      go_ret
      refine⟨?_,A.out.2.2.2.1⟩
      rw [idxP_miss p l0 ([] : List Int) (fun j hj=>A.out.2.2.2.2 j (by have:=A.out.2.1;omega))]
      rfl
set_option maxHeartbeats 1000000 in
theorem IdxW.calls (A0 : Option Addr) (c0 : Nat) (l0 : List (S69)) (p : (S69)→Bool) (g : Nat) (lb : Array Value) (eg : ∀ args w,(callFunc g args).run Try.prog w = .ok (.enter g args) w) (w : World)
    (hr0 : Kd.C k69 w A0 l0.length l0)
    (hp : ∀ W (x : S69) A c,Below w.heap.size w W→x ∈ l0→Kd.C (Kd.slice 5 (Kd.int .u8)) W A x.f2.length x.f2→x.f2.length ≤ c→Calls Try.prog g (#[.agg #[.bool x.f0,.int .i64 x.f1,.slice A x.f2.length c,.int .i64 x.f3]] ++ lb) W fun e w'=>e = .returned (.bool (p x))∧Below w.heap.size w w') :
    Calls Try.prog 59 #[.slice A0 l0.length c0,.func (.func g) #[] lb] w fun e w'=>e = .returned (.int .i64 (idxP p l0))∧Below w.heap.size w w':=by
  have hu69:=Try.underlying69
  have HR:=Aside0.mk hr0
  have hbig : l0.length ≤ 9223372036854775807:=hr0.2.1
  clear hr0
  go_enter Try.func59,Try.ntmps59
  go_wp2
  go_loopg [5,8] (l0.length + 1) (fun gg _ s8 wr=>∃ kk : Int,s8 = .int .i64 kk∧Aside0 (0 ≤ kk∧kk ≤ l0.length∧l0.length - kk < gg∧Below w.heap.size w wr∧(∀ j : Nat,j < kk→p (rd_T69 l0 j) = false)))
  case atStart=>exact⟨0,rfl,⟨by omega,by omega,by omega,Below.refl _ w,fun j hj=>by omega⟩⟩
  case round =>
    obtain ⟨kk,rfl,A⟩:=hrel
    by_cases hlt : kk < l0.length
    · have c2b0 : decide (kk < (l0.length : Int)) = true:=decide_eq_true hlt
      obtain ⟨ad,A2,c2,e,hx0,hx1,hx2,hx3,hl2,hC2⟩:=at_T69 HR.out kk A.out.1 hlt
      cases e
      have BW:=Aside0.mk A.out.2.2.2.1
      replace hx0:=(BW.out.cell (World.block_lt_of_cell? w _ hx0)).trans hx0
      replace hx1:=(BW.out.cell (World.block_lt_of_cell? w _ hx1)).trans hx1
      replace hx2:=(BW.out.cell (World.block_lt_of_cell? w _ hx2)).trans hx2
      replace hx3:=(BW.out.cell (World.block_lt_of_cell? w _ hx3)).trans hx3
      have hmem : rd_T69 l0 kk ∈ l0:=by
        have hn : kk.toNat < l0.length:=by have:=A.out.1;omega
        unfold rd_T69;rw [List.getD_eq_getElem?_getD,List.getElem?_eq_getElem hn];exact List.getElem_mem hn
      have hcall:=hp wr (rd_T69 l0 kk) A2 c2 BW.out hmem (Kd.C_below hC2 BW.out) hl2
      have p1:=eq_true A.out.1
      have p2:=eq_true hlt
      clear hp hlt hC2 hl2 hmem
      cases hq : p (rd_T69 l0 kk) with
      | true =>
        rw [hq] at hcall
        have HQ:=Aside0.mk hq
        clear hq
        go_wp2_with (go_at_fn g;refine hcall.mono ?_;rintro e w' ⟨rfl,hb'⟩)
        go_ret
        refine⟨?_,hb'⟩
        rw [idxP_hit p l0 z69 kk A.out.1 (of_eq_true p2) HQ.out A.out.2.2.2.2]
        rfl
      | false =>
        rw [hq] at hcall
        have HQ:=Aside0.mk hq
        clear hq
        go_wp2_with (go_at_fn g;refine hcall.mono ?_;rintro e w' ⟨rfl,hb'⟩)
        have hw : wrap64 (kk + 1) = kk + 1:=by
          have h1:=A.out.1
          have h2:=of_eq_true p2
          unfold wrap64
          omega
        have h2:=of_eq_true p2
        have hA:=A.out
        rw [hw]
        have hb2:=Aside0.mk hb'
        clear hb'
        obtain ⟨gg,rfl⟩ : ∃ m,gk = m + 1:=⟨gk - 1,by omega⟩
        go_roundg gg
        case measure=>omega
        case rel =>
          refine⟨kk + 1,rfl,⟨by omega,by omega,by omega,hb2.out,fun j hj=>?_⟩⟩
          by_cases e : (j : Int) = kk
          · rw [e];exact HQ.out
          · exact hA.2.2.2.2 j (by omega)
    · have c2b0 : decide (kk < (l0.length : Int)) = false:=decide_eq_false hlt
      go_wp2
      go_ret
      refine⟨?_,A.out.2.2.2.1⟩
      rw [idxP_miss p l0 z69 (fun j hj=>A.out.2.2.2.2 j (by have:=A.out.2.1;omega))]
      rfl
set_option maxHeartbeats 1000000 in
theorem IdxI.calls (A0 : Option Addr) (c0 : Nat) (l0 : List Int) (p : Int→Bool) (g : Nat) (lb : Array Value) (eg : ∀ args w,(callFunc g args).run Try.prog w = .ok (.enter g args) w) (w : World)
    (hr0 : Kd.C (Kd.int .i64) w A0 l0.length l0)
    (hp : ∀ W (x : Int),Below w.heap.size w W→x ∈ l0→Calls Try.prog g (#[.int .i64 x] ++ lb) W fun e w'=>e = .returned (.bool (p x))∧Below w.heap.size w w') :
    Calls Try.prog 58 #[.slice A0 l0.length c0,.func (.func g) #[] lb] w fun e w'=>e = .returned (.int .i64 (idxP p l0))∧Below w.heap.size w w':=by
  have HR:=Aside0.mk hr0
  have hbig : l0.length ≤ 9223372036854775807:=hr0.2.1
  clear hr0
  go_enter Try.func58,Try.ntmps58
  go_wp2
  go_loopg [5,8] (l0.length + 1) (fun gg _ s8 wr=>∃ kk : Int,s8 = .int .i64 kk∧Aside0 (0 ≤ kk∧kk ≤ l0.length∧l0.length - kk < gg∧Below w.heap.size w wr∧(∀ j : Nat,j < kk→p (rd l0 j) = false)))
  case atStart=>exact⟨0,rfl,⟨by omega,by omega,by omega,Below.refl _ w,fun j hj=>by omega⟩⟩
  case round =>
    obtain ⟨kk,rfl,A⟩:=hrel
    by_cases hlt : kk < l0.length
    · have c2b0 : decide (kk < (l0.length : Int)) = true:=decide_eq_true hlt
      obtain ⟨ad,e,hx0⟩:=Kd.at_int HR.out kk A.out.1 hlt
      cases e
      have BW:=Aside0.mk A.out.2.2.2.1
      replace hx0:=(BW.out.cell (World.block_lt_of_cell? w _ hx0)).trans hx0
      have hmem : rd l0 kk ∈ l0:=by
        have hn : kk.toNat < l0.length:=by have:=A.out.1;omega
        show l0.getD kk.toNat 0 ∈ l0;rw [List.getD_eq_getElem?_getD,List.getElem?_eq_getElem hn];exact List.getElem_mem hn
      have hcall:=hp wr (rd l0 kk) BW.out hmem
      have p1:=eq_true A.out.1
      have p2:=eq_true hlt
      clear hp hlt hmem
      cases hq : p (rd l0 kk) with
      | true =>
        rw [hq] at hcall
        have HQ:=Aside0.mk hq
        clear hq
        go_wp2_with (go_at_fn g;refine hcall.mono ?_;rintro e w' ⟨rfl,hb'⟩)
        go_ret
        refine⟨?_,hb'⟩
        rw [idxP_hit p l0 (0 : Int) kk A.out.1 (of_eq_true p2) HQ.out A.out.2.2.2.2]
        rfl
      | false =>
        rw [hq] at hcall
        have HQ:=Aside0.mk hq
        clear hq
        go_wp2_with (go_at_fn g;refine hcall.mono ?_;rintro e w' ⟨rfl,hb'⟩)
        have hw : wrap64 (kk + 1) = kk + 1:=by
          have h1:=A.out.1
          have h2:=of_eq_true p2
          unfold wrap64
          omega
        have h2:=of_eq_true p2
        have hA:=A.out
        rw [hw]
        have hb2:=Aside0.mk hb'
        clear hb'
        obtain ⟨gg,rfl⟩ : ∃ m,gk = m + 1:=⟨gk - 1,by omega⟩
        go_roundg gg
        case measure=>omega
        case rel =>
          refine⟨kk + 1,rfl,⟨by omega,by omega,by omega,hb2.out,fun j hj=>?_⟩⟩
          by_cases e : (j : Int) = kk
          · rw [e];exact HQ.out
          · exact hA.2.2.2.2 j (by omega)
    · have c2b0 : decide (kk < (l0.length : Int)) = false:=decide_eq_false hlt
      go_wp2
      go_ret
      refine⟨?_,A.out.2.2.2.1⟩
      rw [idxP_miss p l0 (0 : Int) (fun j hj=>A.out.2.2.2.2 j (by have:=A.out.2.1;omega))]
      rfl
set_option maxHeartbeats 1000000 in
theorem ContL.calls (A0 : Option Addr) (c0 : Nat) (l0 : List (List Int)) (w : World) (hr0 : Kd.C (Kd.slice 5 (Kd.int .u8)) w A0 l0.length l0) :
    Calls Try.prog 56 #[.slice A0 l0.length c0,.func (.func 57) #[] #[]] w fun e w'=>e = .returned (.bool (l0.any long))∧Below w.heap.size w w':=by
  have HR:=Aside0.mk hr0
  rw [← idxP_any]
  clear hr0
  go_enter Try.func56,Try.ntmps56
  go_wp2_with (first|(go_at_call 72;refine(IdxL.calls A0 c0 l0 long 57 #[] (enters_of Try.func57 (by kernel_rfl) rfl) _ HR.out (fun W x A c hB _ hC hl=>(Long.calls x A c W).mono fun e w' he=>⟨he.1,he.2 ▸ hB⟩)).mono ?_;rintro e w' ⟨rfl,hb'⟩))
  go_ret
  exact⟨rfl,hb'⟩
def mayLogV (l : List (List Int)) : Bool:=decide ((l.length : Int) ≤ 512) && !(l.any long)
theorem mayLogV_iff {l : List (List Int)} : mayLogV l = true↔l.length ≤ 512∧∀ x ∈ l,x.length ≤ 256:=by
  unfold mayLogV long
  simp
  exact and_congr (by omega) ⟨fun h x hx=>by have:=h x hx;omega,fun h x hx=>by have:=h x hx;omega⟩
set_option maxHeartbeats 1000000 in
theorem mayLog.calls (A0 : Option Addr) (c0 : Nat) (l0 : List (List Int)) (w : World) (hr0 : Kd.C (Kd.slice 5 (Kd.int .u8)) w A0 l0.length l0) :
    Calls Try.prog 34 #[.slice A0 l0.length c0] w fun e w'=>e = .returned (.bool (mayLogV l0))∧Below w.heap.size w w':=by
  have HR:=Aside0.mk hr0
  clear hr0
  by_cases h : (l0.length : Int) ≤ 512
  · have d1 : decide ((l0.length : Int) ≤ 512) = true:=decide_eq_true h
    clear h
    unfold mayLogV
    rw [d1,Bool.true_and]
    go_enter Try.func34,Try.ntmps34
    go_wp2_with (first|(go_at_call 56;refine(ContL.calls A0 c0 l0 _ HR.out).mono ?_;rintro e w' ⟨rfl,hb'⟩))
    go_ret
    exact⟨rfl,hb'⟩
  · have d1 : decide ((l0.length : Int) ≤ 512) = false:=decide_eq_false h
    clear h
    unfold mayLogV
    rw [d1,Bool.false_and]
    go_enter Try.func34,Try.ntmps34
    go_wp2
    go_ret
    exact⟨rfl,Below.refl _ _⟩
def badN (n : Int) : Bool:=!(wi n 0 512)
set_option maxHeartbeats 1000000 in
theorem BadN.calls (n : Int) (w : World) : Calls Try.prog 36 #[.int .i64 n] w fun e w'=>e = .returned (.bool (badN n))∧w = w':=by
  go_enter Try.func36,Try.ntmps36
  go_wp2_with (first|(go_at_call 14;refine(within.calls _ _ _ _).mono ?_;rintro e w' ⟨rfl,rfl⟩))
  go_ret
  exact⟨rfl,rfl⟩
set_option maxHeartbeats 1000000 in
theorem ContI.calls (A0 : Option Addr) (c0 : Nat) (l0 : List Int) (w : World) (hr0 : Kd.C (Kd.int .i64) w A0 l0.length l0) :
    Calls Try.prog 37 #[.slice A0 l0.length c0,.func (.func 36) #[] #[]] w fun e w'=>e = .returned (.bool (l0.any badN))∧Below w.heap.size w w':=by
  have HR:=Aside0.mk hr0
  rw [← idxP_any]
  clear hr0
  go_enter Try.func37,Try.ntmps37
  go_wp2_with (first|(go_at_call 58;refine(IdxI.calls A0 c0 l0 badN 36 #[] (enters_of Try.func36 (by kernel_rfl) rfl) _ HR.out (fun W x hB _=>(BadN.calls x W).mono fun e w' he=>⟨he.1,he.2 ▸ hB⟩)).mono ?_;rintro e w' ⟨rfl,hb'⟩))
  go_ret
  exact⟨rfl,hb'⟩
def mayV (b : S69) : Bool:=if b.f0 = true then mayLogV b.f2 && (wi b.f1 0 1099511627776 && wi b.f3 0 b.f2.length) else(b.f1 == 0 && ((b.f2.length : Int) == 0 && b.f3 == 0))
set_option maxHeartbeats 2000000 in
theorem may.calls (b : S69) (A : Option Addr) (c : Nat) (w : World) (hr : Kd.C (Kd.slice 5 (Kd.int .u8)) w A b.f2.length b.f2) :
    Calls Try.prog 40 #[.agg #[.bool b.f0,.int .i64 b.f1,.slice A b.f2.length c,.int .i64 b.f3]] w fun e w'=>e = .returned (.bool (mayV b))∧Below w.heap.size w w':=by
  have hu:=Try.underlying69
  have HR:=Aside0.mk hr
  have HB:=Aside0.mk (below_alloc (Below.refl w.heap.size w) (.cells #[.bool b.f0,.int .i64 b.f1,.slice A b.f2.length c,.int .i64 b.f3] 69))
  have hk:=heap_alloc_new w (.cells #[.bool b.f0,.int .i64 b.f1,.slice A b.f2.length c,.int .i64 b.f3] 69)
  have HK:=Aside0.mk hk
  clear hr hk
  obtain ⟨b0,b1,b2,b3⟩:=b
  dsimp only at *
  cases b0 with
  | false =>
    have e : mayV ⟨false,b1,b2,b3⟩ = (b1 == 0 && ((b2.length : Int) == 0 && b3 == 0)):=rfl
    rw [e]
    by_cases h1 : b1 = 0
    · have d1 : (b1 == 0) = true:=beq_iff_eq.mpr h1
      by_cases h2 : (b2.length : Int) = 0
      · have d2 : ((b2.length : Int) == 0) = true:=beq_iff_eq.mpr h2
        clear h1 h2 e
        rw [d1,d2,Bool.true_and,Bool.true_and]
        go_enter Try.func40,Try.ntmps40
        go_wp2
        go_ret
        exact⟨rfl,HB.out⟩
      · have d2 : ((b2.length : Int) == 0) = false:=beq_eq_false_iff_ne.mpr h2
        clear h1 h2 e
        rw [d1,d2,Bool.true_and,Bool.false_and]
        go_enter Try.func40,Try.ntmps40
        go_wp2
        go_ret
        exact⟨rfl,HB.out⟩
    · have d1 : (b1 == 0) = false:=beq_eq_false_iff_ne.mpr h1
      clear h1 e
      rw [d1,Bool.false_and]
      go_enter Try.func40,Try.ntmps40
      go_wp2
      go_ret
      exact⟨rfl,HB.out⟩
  | true =>
    have e : mayV ⟨true,b1,b2,b3⟩ = (mayLogV b2 && (wi b1 0 1099511627776 && wi b3 0 b2.length)):=rfl
    rw [e]
    clear e
    cases d1 : mayLogV b2 with
    | false =>
      rw [Bool.false_and]
      go_enter Try.func40,Try.ntmps40
      go_wp2_with (first|(go_at_call 34;refine(mayLog.calls A c b2 _ (Kd.C_below HR.out HB.out)).mono ?_;rw [d1];rintro e w1 ⟨rfl,hb1⟩;have HB1:=Aside0.mk hb1;clear hb1))
      go_ret
      exact⟨rfl,HB.out.trans (HB1.out.mono HB.out.size)⟩
    | true =>
      cases d2 : wi b1 0 1099511627776 with
      | false =>
        rw [Bool.true_and,Bool.false_and]
        go_enter Try.func40,Try.ntmps40
        go_wp2_with (first|(go_at_call 34;refine(mayLog.calls A c b2 _ (Kd.C_below HR.out HB.out)).mono ?_;rw [d1];rintro e w1 ⟨rfl,hb1⟩;have HB1:=Aside0.mk hb1;have x1:=(blk_cell (blk_below HK.out hb1) 1).trans rfl;clear hb1)|(go_at_call 14;refine(within.calls _ _ _ _).mono ?_;rw [d2];rintro e w' ⟨rfl,rfl⟩))
        go_ret
        exact⟨rfl,HB.out.trans (HB1.out.mono HB.out.size)⟩
      | true =>
        rw [Bool.true_and,Bool.true_and]
        go_enter Try.func40,Try.ntmps40
        go_wp2_with (first|(go_at_call 34;refine(mayLog.calls A c b2 _ (Kd.C_below HR.out HB.out)).mono ?_;rw [d1];rintro e w1 ⟨rfl,hb1⟩;have HB1:=Aside0.mk hb1;have x1:=(blk_cell (blk_below HK.out hb1) 1).trans rfl;have x2:=(blk_cell (blk_below HK.out hb1) 2).trans rfl;have x3:=(blk_cell (blk_below HK.out hb1) 3).trans rfl;clear hb1)|(go_at_call 14;refine(within.calls _ _ _ _).mono ?_;(try rw [d2]);rintro e w' ⟨rfl,rfl⟩))
        go_ret
        exact⟨rfl,HB.out.trans (HB1.out.mono HB.out.size)⟩
def mayNot (b : S69) : Bool:=!(mayV b)
set_option maxHeartbeats 1000000 in
theorem MayNot.calls (b : S69) (A : Option Addr) (c : Nat) (w : World) (hr : Kd.C (Kd.slice 5 (Kd.int .u8)) w A b.f2.length b.f2) :
    Calls Try.prog 39 #[.agg #[.bool b.f0,.int .i64 b.f1,.slice A b.f2.length c,.int .i64 b.f3]] w fun e w'=>e = .returned (.bool (mayNot b))∧Below w.heap.size w w':=by
  have hu:=Try.underlying69
  have HR:=Aside0.mk hr
  have HB:=Aside0.mk (below_alloc (Below.refl w.heap.size w) (.cells #[.bool b.f0,.int .i64 b.f1,.slice A b.f2.length c,.int .i64 b.f3] 69))
  clear hr
  go_enter Try.func39,Try.ntmps39
  go_wp2_with (first|(go_at_call 40;refine(may.calls b A c _ (Kd.C_below HR.out HB.out)).mono ?_;rintro e w1 ⟨rfl,hb1⟩;have HB1:=Aside0.mk hb1;clear hb1))
  go_ret
  exact⟨rfl,HB.out.trans (HB1.out.mono HB.out.size)⟩
set_option maxHeartbeats 1000000 in
theorem ContB.calls (A0 : Option Addr) (c0 : Nat) (l0 : List S69) (w : World) (hr0 : Kd.C k69 w A0 l0.length l0) :
    Calls Try.prog 38 #[.slice A0 l0.length c0,.func (.func 39) #[] #[]] w fun e w'=>e = .returned (.bool (l0.any mayNot))∧Below w.heap.size w w':=by
  have HR:=Aside0.mk hr0
  rw [← idxP_any]
  clear hr0
  go_enter Try.func38,Try.ntmps38
  go_wp2_with (first|(go_at_call 59;refine(IdxW.calls A0 c0 l0 mayNot 39 #[] (enters_of Try.func39 (by kernel_rfl) rfl) _ HR.out (fun W x A c hB _ hC hl=>(MayNot.calls x A c W hC).mono fun e w' he=>⟨he.1,hB.trans (he.2.mono hB.size)⟩)).mono ?_;rintro e w' ⟨rfl,hb'⟩))
  go_ret
  exact⟨rfl,hb'⟩
def primaryV (id n view : Int) : Bool:=view.tmod n == id
set_option maxHeartbeats 1000000 in
theorem primary.calls (b : Nat) (id n view : Int) (hn : n ≠ 0) (w : World) (x0 : w.cell? ⟨b,0,none⟩ = some (.int .i64 id)) (x1 : w.cell? ⟨b,1,none⟩ = some (.int .i64 n)) (x2 : w.cell? ⟨b,2,none⟩ = some (.int .i64 view)) :
    Calls Try.prog 33 #[.pointer (some ⟨b,0,none⟩)] w fun e w'=>e = .returned (.bool (primaryV id n view))∧Drawn0 w w':=by
  have c2b0 : (n == 0) = false:=beq_eq_false_iff_ne.mpr hn
  have c2b1 : (n != 0) = true:=bne_iff_ne.mpr hn
  go_enter Try.func33,Try.ntmps33
  go_wp2
  repeat (go_quiet (fail);try go_wp2)
  go_ret
  exact⟨by rfl,by repeat (first|exact Drawn0.refl _|apply Drawn0.step)⟩
def leadsV (id n view status : Int) : Bool:=status == 0 && primaryV id n view
set_option maxHeartbeats 1000000 in
theorem leads.calls (b : Nat) (id n view status : Int) (hn : n ≠ 0) (w : World) (x0 : w.cell? ⟨b,0,none⟩ = some (.int .i64 id)) (x1 : w.cell? ⟨b,1,none⟩ = some (.int .i64 n)) (x2 : w.cell? ⟨b,2,none⟩ = some (.int .i64 view)) (x4 : w.cell? ⟨b,4,none⟩ = some (.int .i64 status)) :
    Calls Try.prog 16 #[.pointer (some ⟨b,0,none⟩)] w fun e w'=>e = .returned (.bool (leadsV id n view status))∧Drawn0 w w':=by
  by_cases h : status = 0
  · have d1 : (status == 0) = true:=beq_iff_eq.mpr h
    unfold leadsV
    rw [d1,Bool.true_and]
    clear h
    go_enter Try.func16,Try.ntmps16
    go_wp2_with (first|(go_at_call 33;refine(primary.calls b id n view hn _ x0 x1 x2).mono ?_;rintro e w' ⟨rfl,hd⟩))
    go_ret
    exact⟨rfl,hd⟩
  · have d1 : (status == 0) = false:=beq_eq_false_iff_ne.mpr h
    unfold leadsV
    rw [d1,Bool.false_and]
    clear h
    go_enter Try.func16,Try.ntmps16
    go_wp2
    go_ret
    exact⟨rfl,Drawn0.refl _⟩
end Go.Proofs.Ytojjnifbnppliaa.T
end
section
namespace Go.Proofs.Ytojjnifbnppliaa.T
open Go.RowKit Go.Proofs.YtojjnifbnppliaaW.PrintWords Go.Proofs.YtojjnifbnppliaaW.PrintLast Go.Proofs.YtojjnifbnppliaaW.PrintMore
attribute [local go_sem] max2_int min2_int max_two min_two max_three min_three max_four min_four
set_option linter.unusedVariables false
set_option linter.unusedSimpArgs false
/-- All streams, and all blocks but those of S. -/
structure Keeps (w w' : World) (S : Nat→Prop) : Prop where
  os : w'.os = w.os
  tape : w'.tape = w.tape
  output : w'.output = w.output
  size : w.heap.size ≤ w'.heap.size
  block : ∀ k,k < w.heap.size→¬ S k→w'.heap[k]? = w.heap[k]?
section
variable {w w' w1 w2 : World} {S S' : Nat→Prop}
theorem Keeps.refl (w : World) (S : Nat→Prop) : Keeps w w S:=⟨rfl,rfl,rfl,Nat.le_refl _,fun _ _ _=>rfl⟩
theorem Keeps.of_below {n : Nat} (h : Below n w w') (hs : ∀ k,k < w.heap.size→¬ S k→k < n) : Keeps w w' S:=⟨h.os,h.tape,h.output,h.size,fun k hk hn=>h.block k (hs k hk hn)⟩
theorem Keeps.of_belows (h : Below w.heap.size w w') (S : Nat→Prop) : Keeps w w' S:=Keeps.of_below h (fun _ hk _=>hk)
theorem Keeps.mono (h : Keeps w w' S) (hs : ∀ k,S k→S' k) : Keeps w w' S':=⟨h.os,h.tape,h.output,h.size,fun k hk hn=>h.block k hk (fun h2=>hn (hs k h2))⟩
theorem Keeps.trans' (h : Keeps w w1 S) (k : Keeps w1 w2 S') (hs : ∀ i,S' i→S i∨w.heap.size ≤ i) : Keeps w w2 S :=
  ⟨k.os.trans h.os,k.tape.trans h.tape,k.output.trans h.output,Nat.le_trans h.size k.size,fun i hi hn=>(k.block i (Nat.lt_of_lt_of_le hi h.size) (fun h2=>(hs i h2).elim hn (fun h3=>by omega))).trans (h.block i hi hn)⟩
theorem Keeps.trans (h : Keeps w w1 S) (k : Keeps w1 w2 S) : Keeps w w2 S:=h.trans' k (fun _ h=>.inl h)
theorem Keeps.below (h : Keeps w w1 S) (k : Below w1.heap.size w1 w2) : Keeps w w2 S:=h.trans (Keeps.of_belows k S)
theorem Keeps.alloc (h : Keeps w w1 S) (o : Obj) : Keeps w (w1.alloc o) S:=h.below (below_alloc (Below.refl _ _) o)
theorem Keeps.drew (h : Keeps w w1 S) : Keeps w w1.drew S:=h.below (below_drew (Below.refl _ _))
theorem Keeps.drewN (h : Keeps w w1 S) (m : Nat) : Keeps w (w1.drewN m) S:=h.below (pw_below_drewN (Below.refl _ _) m)
theorem Keeps.setCell (h : Keeps w w1 S) {p : Addr} (hp : S p.block∨w.heap.size ≤ p.block) (u : Value) : Keeps w (w1.setCell p u) S :=
  h.trans' (S':=fun k=>k = p.block) ⟨rfl,rfl,rfl,by simp [World.setCell],fun k _ hk=>Below.heap_setCell w1 p u k hk⟩ (fun i hi=>by rw [hi];exact hp)
theorem Keeps.grown (h : Keeps w w1 S) {row : Option Nat} (hg : w1.grownBy w2 row) (hr : ∀ k,row = some k→S k∨w.heap.size ≤ k) : Keeps w w2 S :=
  h.trans' (S':=fun k=>row = some k) ⟨hg.os,hg.tape,hg.output,hg.size,fun k hk hn=>hg.block k hk (fun e=>hn e.symm)⟩ hr
theorem Keeps.set_ {b : Nat} (h : Keeps w w1 (fun k=>k = b)) (j : Nat) (u : Value) : Keeps w (w1.setCell ⟨b,j,none⟩ u) (fun k=>k = b):=h.setCell (p:=⟨b,j,none⟩) (.inl rfl) u
/-- Below: S lies above. -/
theorem Keeps.to_below {n : Nat} (h : Keeps w w' S) (hn : n ≤ w.heap.size) (hs : ∀ k,S k→n ≤ k) : Below n w w':=⟨h.os,h.tape,h.output,h.size,fun k hk=>h.block k (by omega) (fun h2=>by have:=hs k h2;omega)⟩
theorem Below.keeps {n : Nat} {w0 : World} (h : Below n w0 w) (k : Keeps w w' S) (hn : n ≤ w.heap.size) (hs : ∀ k,S k→n ≤ k) : Below n w0 w':=h.trans (k.to_below hn hs)
theorem blk_keeps {g : Nat} {o : Obj} (hb : w.heap[g]? = some o) (h : Keeps w w' S) (hn : ¬ S g) : w'.heap[g]? = some o:=(h.block g (blk_lt hb) hn).trans hb
theorem Kd.R_keeps {α : Type} {d : Kd α} {e base : Nat} {ok : Nat→Prop} {v : Value} {xs : List α} (h : d.R e w base ok v xs) (hk : Keeps w w' S) (hne : ∀ k,ok k→¬ S k) : d.R e w' base ok v xs:=Kd.R_step h (fun k ho hlt=>hk.block k hlt (hne k ho))
end
end Go.Proofs.Ytojjnifbnppliaa.T
end
section
namespace Go.Proofs.Ytojjnifbnppliaa.T
open Go.RowKit Go.Proofs.YtojjnifbnppliaaW.PrintWords Go.Proofs.YtojjnifbnppliaaW.PrintLast Go.Proofs.YtojjnifbnppliaaW.PrintMore
attribute [local go_sem] max2_int min2_int max_two min_two max_three min_three max_four min_four
set_option linter.unusedVariables false
set_option linter.unusedSimpArgs false
/-- A message, as a value. -/
structure Ms where
  kind : Int
  fro : Int
  dst : Int
  view : Int
  last : Int
  prev : Int
  log : List (List Int)
  commit : Int
  mat : Int
def kMs : Kd Ms:=Kd.iso (Kd.pair (Kd.int .i64) (Kd.pair (Kd.int .i64) (Kd.pair (Kd.int .i64) (Kd.pair (Kd.int .i64) (Kd.pair (Kd.int .i64) (Kd.pair (Kd.int .i64) (Kd.pair (Kd.slice 22 (Kd.slice 5 (Kd.int .u8))) (Kd.pair (Kd.int .i64) (Kd.int .i64))))))))) (fun x : Ms=>(x.kind,x.fro,x.dst,x.view,x.last,x.prev,x.log,x.commit,x.mat))
set_option maxHeartbeats 1000000 in
theorem fail_ok.calls (p : Value) (x : Int) (w : World) : Calls Try.prog 44 #[p,.bool false,.int .i64 x] w fun e w'=>e = .returned (.tuple #[])∧w' = w:=by
  go_enter Try.func44,Try.ntmps44
  go_wp2
  go_end0
  exact⟨rfl,rfl⟩
set_option maxHeartbeats 1000000 in
theorem fail_bad.calls (p : Value) (x : Int) (w : World) : Calls Try.prog 44 #[p,.bool true,.int .i64 x] w fun e w'=>e = .panicked [{ v:=.iface 30 (.int .i64 x),recovered:=false }]∧w' = w:=by
  have hpn : ∀ (t : TypeId) (v : Value) (w : World),(Instr.panic (.iface t v)).run Try.prog w = .halt (.panic (.iface t v)) w:=fun _ _ _=>rfl
  go_enter Try.func44,Try.ntmps44
  go_wp2
  exact⟨rfl,⟨rfl,rfl⟩⟩
def mostV (n k : Int) : Bool:=decide (n / 2 < k)
set_option maxHeartbeats 1000000 in
theorem most.calls (b : Nat) (n k : Int) (hn : 1 ≤ n∧n ≤ 9) (w : World) (x1 : w.cell? ⟨b,1,none⟩ = some (.int .i64 n)) :
    Calls Try.prog 69 #[.pointer (some ⟨b,0,none⟩),.int .i64 k] w fun e w'=>e = .returned (.bool (mostV n k))∧w' = w:=by
  go_enter Try.func69,Try.ntmps69
  go_wp2
  go_ret
  exact⟨rfl,rfl⟩
def hereV (status view v : Int) : Bool:=status == 0 && view == v
set_option maxHeartbeats 1000000 in
theorem here.calls (b : Nat) (status view : Int) (x : Ms) (v6 : Value) (w : World) (x2 : w.cell? ⟨b,2,none⟩ = some (.int .i64 view)) (x4 : w.cell? ⟨b,4,none⟩ = some (.int .i64 status)) (A : Option Addr) (c : Nat) :
    Calls Try.prog 64 #[.pointer (some ⟨b,0,none⟩),.agg #[.int .i64 x.kind,.int .i64 x.fro,.int .i64 x.dst,.int .i64 x.view,.int .i64 x.last,.int .i64 x.prev,.slice A x.log.length c,.int .i64 x.commit,.int .i64 x.mat]] w fun e w'=>e = .returned (.bool (hereV status view x.view))∧Below w.heap.size w w':=by
  have hu:=Try.underlying37
  have hlt : b < w.heap.size:=World.block_lt_of_cell? _ _ x2
  have hne : ¬ (b = w.heap.size):=by omega
  by_cases h : status = 0
  · have d1 : (status == 0) = true:=beq_iff_eq.mpr h
    unfold hereV
    rw [d1,Bool.true_and]
    clear h
    go_enter Try.func64,Try.ntmps64
    go_wp2
    repeat (go_quiet (fail);try go_wp2)
    go_ret
    exact⟨rfl,by repeat (first|exact below_alloc (Below.refl _ _) _|apply pw_below_drewN|apply below_drew)⟩
  · have d1 : (status == 0) = false:=beq_eq_false_iff_ne.mpr h
    unfold hereV
    rw [d1,Bool.false_and]
    clear h
    go_enter Try.func64,Try.ntmps64
    go_wp2
    repeat (go_quiet (fail);try go_wp2)
    go_ret
    exact⟨rfl,by repeat (first|exact below_alloc (Below.refl _ _) _|apply pw_below_drewN|apply below_drew)⟩
def cnt {α : Type} (p : α→Bool) (l : List α) : Int:=((l.filter p).length : Int)
theorem cnt_le {α : Type} (p : α→Bool) (l : List α) : 0 ≤ cnt p l∧cnt p l ≤ l.length:=⟨by unfold cnt;omega,by unfold cnt;have:=List.length_filter_le p l;omega⟩
theorem cnt_take {α : Type} (p : α→Bool) (l : List α) (i : Nat) (hi : i < l.length) : cnt p (l.take (i + 1)) = cnt p (l.take i) + (if p l[i] = true then 1 else 0):=by
  rw [List.take_add_one,List.getElem?_eq_getElem hi]
  unfold cnt
  rw [List.filter_append,List.length_append]
  simp only [Option.toList_some,List.filter_cons,List.filter_nil]
  split <;> simp
set_option maxHeartbeats 2000000 in
theorem CountI.calls (A0 : Option Addr) (c0 : Nat) (l0 : List Int) (p : Int→Bool) (g : Nat) (lb : Array Value) (eg : ∀ args w,(callFunc g args).run Try.prog w = .ok (.enter g args) w) (w : World) (hr0 : Kd.C (Kd.int .i64) w A0 l0.length l0)
    (hp : ∀ (x : Int),Calls Try.prog g (#[.int .i64 x] ++ lb) w fun e w'=>e = .returned (.bool (p x))∧w' = w) :
    Calls Try.prog 70 #[.slice A0 l0.length c0,.func (.func g) #[] lb] w fun e w'=>e = .returned (.int .i64 (cnt p l0))∧w' = w:=by
  have HR:=Aside0.mk hr0
  have hbig : l0.length ≤ 9223372036854775807:=hr0.2.1
  clear hr0
  go_enter Try.func70,Try.ntmps70
  go_wp2
  go_loopg [5,7,10] (l0.length + 1) (fun gg s5 _ s10 wr=>∃ kk : Int,s10 = .int .i64 kk∧s5 = .int .i64 (cnt p (l0.take kk.toNat))∧wr = w∧Aside0 (0 ≤ kk∧kk ≤ l0.length∧l0.length - kk < gg))
  case atStart=>exact⟨0,rfl,by simp [cnt],rfl,⟨by omega,by omega,by omega⟩⟩
  case round =>
    obtain ⟨kk,rfl,rfl,rfl,A⟩:=hrel
    by_cases hlt : kk < l0.length
    · have c2b0 : decide (kk < (l0.length : Int)) = true:=decide_eq_true hlt
      obtain ⟨ad,e,hx0⟩:=Kd.at_int HR.out kk A.out.1 hlt
      cases e
      have hcall:=hp (rd l0 kk)
      have p1:=eq_true A.out.1
      have p2:=eq_true hlt
      have hn : kk.toNat < l0.length:=by have:=A.out.1;omega
      have hct:=cnt_take p l0 kk.toNat hn
      have hle:=(cnt_le p (l0.take kk.toNat))
      have hle2 : (l0.take kk.toNat).length < l0.length:=by rw [List.length_take];omega
      have hrd : rd l0 kk = l0[kk.toNat]:=by show l0.getD kk.toNat 0 = _;rw [List.getD_eq_getElem?_getD,List.getElem?_eq_getElem hn];rfl
      rw [← hrd] at hct
      have hk1 : (kk + 1).toNat = kk.toNat + 1:=by have:=A.out.1;omega
      generalize hcc : cnt p (l0.take kk.toNat) = cc at *
      have hwc : wrap64 (cc + 1) = cc + 1:=by unfold wrap64;omega
      have HCT:=Aside0.mk (And.intro hct hk1)
      clear hle hle2 hct hk1 hn hrd hlt hcc
      cases hq : p (rd l0 kk) with
      | true =>
        rw [hq] at hcall
        have HQ:=Aside0.mk hq
        clear hq hp
        go_wp2_with (go_at_fn g;refine hcall.mono ?_;rintro e w' ⟨rfl,rfl⟩)
        have hw : wrap64 (kk + 1) = kk + 1:=by
          have h1:=A.out.1
          have h2:=of_eq_true p2
          unfold wrap64
          omega
        have h2:=of_eq_true p2
        have hA:=A.out
        rw [hw]
        obtain ⟨gg,rfl⟩ : ∃ m,gk = m + 1:=⟨gk - 1,by omega⟩
        go_roundg gg
        case measure=>omega
        case rel=>exact⟨kk + 1,rfl,by rw [HCT.out.2,HCT.out.1,HQ.out,if_pos rfl];first|rfl|rw [hwc],rfl,⟨by omega,by omega,by omega⟩⟩
      | false =>
        rw [hq] at hcall
        have HQ:=Aside0.mk hq
        clear hq hp
        go_wp2_with (go_at_fn g;refine hcall.mono ?_;rintro e w' ⟨rfl,rfl⟩)
        have hw : wrap64 (kk + 1) = kk + 1:=by
          have h1:=A.out.1
          have h2:=of_eq_true p2
          unfold wrap64
          omega
        have h2:=of_eq_true p2
        have hA:=A.out
        rw [hw]
        obtain ⟨gg,rfl⟩ : ∃ m,gk = m + 1:=⟨gk - 1,by omega⟩
        go_roundg gg
        case measure=>omega
        case rel=>exact⟨kk + 1,rfl,by rw [HCT.out.2,HCT.out.1,HQ.out];simp,rfl,⟨by omega,by omega,by omega⟩⟩
    · have c2b0 : decide (kk < (l0.length : Int)) = false:=decide_eq_false hlt
      have hfull : l0.take kk.toNat = l0:=List.take_of_length_le (by have:=A.out.1;omega)
      rw [hfull]
      go_wp2
      go_ret
      exact⟨rfl,rfl⟩
def geK (k : Int) (n : Int) : Bool:=decide (k ≤ n)
set_option maxHeartbeats 1000000 in
theorem GeK.calls (x k : Int) (g : Nat) (w : World) (hk : w.heap[g]? = some (.cells #[.int .i64 k] 3 (0,0))) : Calls Try.prog 71 #[.int .i64 x,.pointer (some ⟨g,0,none⟩)] w fun e w'=>e = .returned (.bool (geK k x))∧w' = w:=by
  have x0 : w.cell? ⟨g,0,none⟩ = some (.int .i64 k):=(blk_cell hk 0).trans rfl
  clear hk
  go_enter Try.func71,Try.ntmps71
  go_wp2
  go_ret
  exact⟨rfl,rfl⟩
/-- How far a majority is: one step after the other. -/
def agreeF (n : Int) (mat : List Int) (L : Int) : Nat→Int→Int
  | 0,c=>c
  | f + 1,c=>if c + 1 ≤ L∧mostV n (cnt (geK (c + 1)) mat) = true then agreeF n mat L f (c + 1) else c
def agreeV (n : Int) (mat : List Int) (L : Nat) (c : Int) : Int:=agreeF n mat L (L + 1) c
set_option maxHeartbeats 8000000 in
set_option maxRecDepth 100000 in
theorem agree.calls (b t : Nat) (cs : Array Value) (n c : Int) (AL : Option Addr) (cL : Nat) (L : List (List Int)) (AM : Option Addr) (cM : Nat) (mat : List Int) (w : World) (hb : w.heap[b]? = some (.cells cs t (0,0))) (e1 : cs[1]? = some (.int .i64 n)) (e5 : cs[5]? = some (.slice AL L.length cL)) (e6 : cs[6]? = some (.int .i64 c)) (e7 : cs[7]? = some (.slice AM mat.length cM)) (hn : 1 ≤ n∧n ≤ 9) (hc : 0 ≤ c∧c ≤ L.length) (hL : L.length ≤ 1000000)
    (hM : ∀ W,Keeps w W (fun k=>k = b)→Kd.C (Kd.int .i64) W AM mat.length mat) :
    Calls Try.prog 55 #[.pointer (some ⟨b,0,none⟩)] w fun e w'=>e = .returned (.tuple #[])∧w'.heap[b]? = some (.cells (cs.setIfInBounds 6 (.int .i64 (agreeV n mat L.length c))) t (0,0))∧Keeps w w' (fun k=>k = b):=by
  have hu3:=Try.underlying61
  have hmf : ∀ (fn : Fn) (first cap : Array Value) (w : World),(Instr.makeFunc fn first cap).run Try.prog w = .ok (.func fn first cap) w:=fun _ _ _ _=>rfl
  have x6 : w.cell? ⟨b,6,none⟩ = some (.int .i64 c):=(blk_cell hb 6).trans e6
  have hw1 : wrap64 (c + 1) = c + 1:=by unfold wrap64;omega
  have hlt : b < w.heap.size:=blk_lt hb
  have HQ:=Aside0.mk (And.intro hb (And.intro e1 (And.intro e5 (And.intro e6 (And.intro e7 (And.intro hn (And.intro hc (And.intro hL hlt))))))))
  have HM:=Aside0.mk hM
  clear hb e1 e5 e6 e7 hn hc hL hM
  go_enter Try.func55,Try.ntmps55
  go_wp2
  have hst : (w.alloc (.cells #[.int .i64 (c + 1)] 3)).heap[w.heap.size]? = some (.cells #[.int .i64 (c + 1)] 3 (0,0)):=heap_alloc_new w _
  have HST:=Aside0.mk (And.intro hst (blk_alloc HQ.out.1 (.cells #[.int .i64 (c + 1)] 3)))
  have HKS:=Aside0.mk (Keeps.alloc (Keeps.refl w (fun k=>k = b)) (.cells #[.int .i64 (c + 1)] 3))
  clear hst x6 hw1
  go_loopg [2] (L.length + 1) (fun gg s2 wr=>∃ (d : Int) (g : Nat),s2 = .pointer (some ⟨g,0,none⟩)∧Aside0 (c ≤ d∧d ≤ L.length∧L.length - d < gg∧agreeF n mat L.length gg d = agreeV n mat L.length c∧wr.heap[b]? = some (.cells (cs.setIfInBounds 6 (.int .i64 d)) t (0,0))∧wr.heap[g]? = some (.cells #[.int .i64 (d + 1)] 3 (0,0))∧w.heap.size ≤ g∧Keeps w wr (fun k=>k = b)))
  case atStart =>
    refine⟨c,w.heap.size,rfl,⟨Int.le_refl _,HQ.out.2.2.2.2.2.2.1.2,by have:=HQ.out.2.2.2.2.2.2.1.1;omega,rfl,?_,HST.out.1,Nat.le_refl _,HKS.out⟩⟩
    have h6 : cs.setIfInBounds 6 (.int .i64 c) = cs:=by
      apply Array.ext_getElem?
      intro j
      by_cases hj : j = 6
      · subst hj
        rw [Array.getElem?_setIfInBounds_self,if_pos (Array.getElem?_eq_some_iff.1 HQ.out.2.2.2.1).1]
        exact HQ.out.2.2.2.1.symm
      · rw [Array.getElem?_setIfInBounds_ne (by omega)]
    rw [h6]
    exact HST.out.2
  case round =>
    obtain ⟨d,g,rfl,Z⟩:=hrel
    clear HST HKS
    obtain ⟨gg,rfl⟩ : ∃ m,gk = m + 1:=⟨gk - 1,by have:=Z.out;omega⟩
    obtain ⟨z1,z2,z3,z4,z5,z6,z7,z8⟩:=Z.out
    have hne : ∀ i : Nat,i ≠ 6→(cs.setIfInBounds 6 (.int .i64 d))[i]? = cs[i]?:=fun i hi=>Array.getElem?_setIfInBounds_ne (by omega)
    have y1 : wr.cell? ⟨b,1,none⟩ = some (.int .i64 n):=(blk_cell z5 1).trans ((hne 1 (by decide)).trans HQ.out.2.1)
    have y5 : wr.cell? ⟨b,5,none⟩ = some (.slice AL L.length cL):=(blk_cell z5 5).trans ((hne 5 (by decide)).trans HQ.out.2.2.1)
    have y7 : wr.cell? ⟨b,7,none⟩ = some (.slice AM mat.length cM):=(blk_cell z5 7).trans ((hne 7 (by decide)).trans HQ.out.2.2.2.2.1)
    have y6 : wr.cell? ⟨b,6,none⟩ = some (.int .i64 d):=(blk_cell z5 6).trans (by rw [Array.getElem?_setIfInBounds_self,if_pos (Array.getElem?_eq_some_iff.1 HQ.out.2.2.2.1).1])
    have f6:=blk_frozen z5 6
    have yg : wr.cell? ⟨g,0,none⟩ = some (.int .i64 (d + 1)):=(blk_cell z6 0).trans rfl
    have hnm:=HQ.out.2.2.2.2.2.1
    have hgb : ¬ (b = g):=fun e=>by have:=HQ.out.2.2.2.2.2.2.2.2;omega
    have hgb' : ¬ (g = b):=fun e=>by have:=HQ.out.2.2.2.2.2.2.2.2;omega
    have hw2 : wrap64 (d + 1 + 1) = d + 1 + 1:=by have:=HQ.out.2.2.2.2.2.2.2.1;have:=HQ.out.2.2.2.2.2.2.1.1;unfold wrap64;omega
    have HC:=Aside0.mk (HM.out wr z8)
    have KG:=Aside0.mk z6
    by_cases h1 : d + 1 ≤ (L.length : Int)
    · have d1 : decide (d + 1 ≤ (L.length : Int)) = true:=decide_eq_true h1
      cases h2 : mostV n (cnt (geK (d + 1)) mat) with
      | true =>
        have e4 : agreeF n mat L.length gg (d + 1) = agreeV n mat L.length c:=by rw [← z4];show _ = agreeF n mat L.length (gg + 1) d;conv=>rhs;unfold agreeF;rw [if_pos ⟨h1,h2⟩]
        have ZZ:=Aside0.mk (And.intro z1 (And.intro h1 (And.intro z3 (And.intro e4 (And.intro z5 (And.intro z6 (And.intro z7 z8)))))))
        clear z1 z2 z3 z4 z5 z6 z7 z8 h1 Z e4 hne
        go_upto_region 1 with fail
        go_quiet (first|(go_at_call 70;refine(CountI.calls AM cM mat (geK (d + 1)) 71 #[.pointer (some ⟨g,0,none⟩)] (enters_of Try.func71 (by kernel_rfl) rfl) _ (by repeat (first|exact HC.out|(with_reducible refine Kd.C_drewN ?_ _)|(with_reducible refine Kd.C_drew ?_))) (fun x=>GeK.calls x (d + 1) g _ (by repeat (first|exact KG.out|(with_reducible refine blk_drewN ?_ _)|(with_reducible refine blk_drew ?_))))).mono ?_;rintro e w' ⟨rfl,rfl⟩;(try first|exact⟨rfl,_,rfl⟩))|(go_at_call 69;refine(most.calls b n _ hnm _ (by first|exact y1|(simp;exact y1))).mono ?_;rw [h2];rintro e w' ⟨rfl,rfl⟩;(try first|exact⟨rfl,_,rfl⟩)))
        go_wp2
        obtain ⟨z1,z2,z3,z4,z5,z6,z7,z8⟩:=ZZ.out
        go_roundg gg
        case measure=>omega
        case rel =>
          refine⟨d + 1,wr.heap.size,rfl,⟨by omega,z2,by omega,z4,?_,?_,Nat.le_trans (Nat.le_refl _) z8.size,?_⟩⟩
          · (with_reducible repeat (first|refine blk_drewN ?_ _|refine blk_drew ?_|refine blk_alloc ?_ _))
            have h:=blk_set z5 6 (.int .i64 (d + 1))
            rw [Array.setIfInBounds_setIfInBounds] at h
            exact h
          · (with_reducible repeat (first|refine blk_drewN ?_ _|refine blk_drew ?_))
            have h:=heap_alloc_new ((wr.drewN nq).setCell ⟨b,6,none⟩ (.int .i64 (d + 1))) (.cells #[.int .i64 (d + 1 + 1)] 3)
            simpa using h
          · (with_reducible repeat (first|apply Keeps.drewN|apply Keeps.drew))
            exact Keeps.alloc (Keeps.set_ (Keeps.drewN z8 _) 6 _) _
      | false =>
        have e4 : d = agreeV n mat L.length c:=by rw [← z4];show _ = agreeF n mat L.length (gg + 1) d;unfold agreeF;rw [if_neg (fun h=>by rw [h2] at h;exact absurd h.2 (by simp))]
        have ZZ:=Aside0.mk (And.intro z5 z8)
        have E4:=Aside0.mk e4
        clear z1 z2 z3 z4 z5 z6 z7 z8 Z hne e4
        go_upto_region 1 with fail
        go_quiet (first|(go_at_call 70;refine(CountI.calls AM cM mat (geK (d + 1)) 71 #[.pointer (some ⟨g,0,none⟩)] (enters_of Try.func71 (by kernel_rfl) rfl) _ (by repeat (first|exact HC.out|(with_reducible refine Kd.C_drewN ?_ _)|(with_reducible refine Kd.C_drew ?_))) (fun x=>GeK.calls x (d + 1) g _ (by repeat (first|exact KG.out|(with_reducible refine blk_drewN ?_ _)|(with_reducible refine blk_drew ?_))))).mono ?_;rintro e w' ⟨rfl,rfl⟩;(try first|exact⟨rfl,_,rfl⟩))|(go_at_call 69;refine(most.calls b n _ hnm _ (by first|exact y1|(simp;exact y1))).mono ?_;rw [h2];rintro e w' ⟨rfl,rfl⟩;(try first|exact⟨rfl,_,rfl⟩)))
        go_wp2
        go_end0
        obtain ⟨z5,z8⟩:=ZZ.out
        rw [← E4.out]
        refine⟨rfl,?_,?_⟩
        · (with_reducible repeat (first|refine blk_drewN ?_ _|refine blk_drew ?_|refine blk_alloc ?_ _))
          exact z5
        · (with_reducible repeat (first|apply Keeps.drewN|apply Keeps.drew))
          exact z8
    · have d1 : decide (d + 1 ≤ (L.length : Int)) = false:=decide_eq_false h1
      have e4 : d = agreeV n mat L.length c:=by rw [← z4];show _ = agreeF n mat L.length (gg + 1) d;unfold agreeF;rw [if_neg (fun h=>h1 h.1)]
      have ZZ:=Aside0.mk (And.intro z5 z8)
      have E4:=Aside0.mk e4
      clear z1 z2 z3 z4 z5 z6 z7 z8 Z hne e4 h1
      go_upto_region 1 with fail
      go_quiet (fail)
      all_goals
        go_wp2
        go_end0
        obtain ⟨z5,z8⟩:=ZZ.out
        rw [← E4.out]
        refine⟨rfl,?_,?_⟩
        · (with_reducible repeat (first|refine blk_drewN ?_ _|refine blk_drew ?_|refine blk_alloc ?_ _))
          exact z5
        · (with_reducible repeat (first|apply Keeps.drewN|apply Keeps.drew))
          exact z8
end Go.Proofs.Ytojjnifbnppliaa.T
end
section
namespace Go.Proofs.Ytojjnifbnppliaa.T
open Go.RowKit Go.Proofs.YtojjnifbnppliaaW.PrintWords Go.Proofs.YtojjnifbnppliaaW.PrintLast Go.Proofs.YtojjnifbnppliaaW.PrintMore
attribute [local go_sem] max2_int min2_int max_two min_two max_three min_three max_four min_four
set_option linter.unusedVariables false
set_option linter.unusedSimpArgs false
/-- The machine lies at block b; its rows lie in P, its draws in gd; they are s and out. -/
def Mac (w : World) (b gd : Nat) (P : Nat→Prop) (s : St) (out : List Ms) : Prop:=gd < w.heap.size∧∃ (AL : Option Addr) (cL : Nat) (AM : Option Addr) (cM : Nat) (AK : Option Addr) (cK : Nat) (AB : Option Addr) (cB : Nat) (AD : Option Addr) (cD : Nat) (AO : Option Addr) (cO : Nat),w.heap[b]? = some (.cells #[.int .i64 s.id,.int .i64 s.n,.int .i64 s.view,.int .i64 s.last,.int .i64 s.status,.slice AL s.log.length cL,.int .i64 s.commit,.slice AM s.mat.length cM,.slice AK s.marks.length cK,.bool s.sent,.slice AB s.bals.length cB,.int .i64 s.elapsed,.int .i64 s.timeout,.slice AD s.draws.length cD,.slice AO out.length cO] 61 (0,0)) ∧
  (Kd.slice 5 (Kd.int .u8)).R 22 w 0 P (.slice AL s.log.length cL) s.log∧(Kd.int .i64).R 3 w 0 P (.slice AM s.mat.length cM) s.mat∧Kd.bool.R 4 w 0 P (.slice AK s.marks.length cK) s.marks∧k69.R 69 w 0 P (.slice AB s.bals.length cB) s.bals∧kMs.R 37 w 0 P (.slice AO out.length cO) out∧s.draws.length ≤ cD∧Kd.F (Kd.int .i64) w (fun k=>k = gd) AD s.draws.length s.draws
section
variable {w w1 : World} {b gd : Nat} {P P' : Nat→Prop} {s : St} {out : List Ms}
theorem Mac.step (h : Mac w b gd P s out) (hs : w.heap.size ≤ w1.heap.size) (hm : ∀ k,(P k∨k = b∨k = gd)→k < w.heap.size→w1.heap[k]? = w.heap[k]?) : Mac w1 b gd P s out:=by
  obtain ⟨hg,AL,cL,AM,cM,AK,cK,AB,cB,AD,cD,AO,cO,hb,h1,h2,h3,h4,h5,h6,h7⟩:=h
  exact⟨Nat.lt_of_lt_of_le hg hs,AL,cL,AM,cM,AK,cK,AB,cB,AD,cD,AO,cO,(hm b (.inr (.inl rfl)) (blk_lt hb)).trans hb,Kd.R_step h1 (fun k hk hl=>hm k (.inl hk) hl),Kd.R_step h2 (fun k hk hl=>hm k (.inl hk) hl),Kd.R_step h3 (fun k hk hl=>hm k (.inl hk) hl),Kd.R_step h4 (fun k hk hl=>hm k (.inl hk) hl),Kd.R_step h5 (fun k hk hl=>hm k (.inl hk) hl),h6,Kd.F_step h7 (fun k hk hl=>hm k (.inr (.inr hk)) hl)⟩
theorem Mac.below (h : Mac w b gd P s out) (hb : Below w.heap.size w w1) : Mac w1 b gd P s out:=h.step hb.size (fun k _ hk=>hb.block k hk)
theorem Mac.keeps {S : Nat→Prop} (h : Mac w b gd P s out) (hk : Keeps w w1 S) (hS : ∀ k,S k→¬ P k∧k ≠ b∧k ≠ gd) : Mac w1 b gd P s out:=h.step hk.size (fun k hk1 hlt=>hk.block k hlt (fun h2=>by
  obtain ⟨n1,n2,n3⟩:=hS k h2
  rcases hk1 with h|h|h
  · exact n1 h
  · exact n2 h
  · exact n3 h))
theorem Mac.mono (h : Mac w b gd P s out) (hp : ∀ k,P k→P' k) : Mac w b gd P' s out:=by
  obtain ⟨hg,AL,cL,AM,cM,AK,cK,AB,cB,AD,cD,AO,cO,hb,h1,h2,h3,h4,h5,h6,h7⟩:=h
  exact⟨hg,AL,cL,AM,cM,AK,cK,AB,cB,AD,cD,AO,cO,hb,Kd.R_mono h1 hp,Kd.R_mono h2 hp,Kd.R_mono h3 hp,Kd.R_mono h4 hp,Kd.R_mono h5 hp,h6,h7⟩
theorem Mac.bound (h : Mac w b gd P s out) : Mac w b gd (fun k=>P k∧k < w.heap.size) s out:=by
  obtain ⟨hg,AL,cL,AM,cM,AK,cK,AB,cB,AD,cD,AO,cO,hb,h1,h2,h3,h4,h5,h6,h7⟩:=h
  exact⟨hg,AL,cL,AM,cM,AK,cK,AB,cB,AD,cD,AO,cO,hb,Kd.R_mono (Kd.R_bound h1) (fun _ hk=>⟨hk.1,hk.2.2.1⟩),Kd.R_mono (Kd.R_bound h2) (fun _ hk=>⟨hk.1,hk.2.2.1⟩),Kd.R_mono (Kd.R_bound h3) (fun _ hk=>⟨hk.1,hk.2.2.1⟩),Kd.R_mono (Kd.R_bound h4) (fun _ hk=>⟨hk.1,hk.2.2.1⟩),Kd.R_mono (Kd.R_bound h5) (fun _ hk=>⟨hk.1,hk.2.2.1⟩),h6,h7⟩
/-- A box of the call's own behind it. -/
theorem Mac.box (h : Mac w b gd P s out) (o : Obj) : Mac (w.alloc o) b gd (fun k=>P k∧k ≠ w.heap.size) s out:=(h.bound.mono (P':=fun k=>P k∧k ≠ w.heap.size) (fun k hk=>⟨hk.1,by have:=hk.2;omega⟩)).below (below_alloc (Below.refl _ _) o)
end
end Go.Proofs.Ytojjnifbnppliaa.T
end
