/- What the law's copies are. What the law holds while it calls Step. VrAnswers: the walk. VrAnswers: the walk in the row's form, and its plain side. This text proves the row of the statement VrAnswers: each message that is told comes from the replica, in its own view, to another one; of an elder view nothing follows: the law answers true for every input, and its arguments read as they did. -/
import Derived.Below
import Derived.ChangeOld
import Derived.Deep.DeepCutAuto
import Derived.OpenShut
import Derived.ProofKit
import Derived.ShutString
import Derived.SizedLaws
import Derived.WalkKit
import Derived.Test.YtojjnifbnppliaaQ00
import Derived.Test.YtojjnifbnppliaaQ11
import Derived.Test.YtojjnifbnppliaaQ12
import Derived.Test.YtojjnifbnppliaaQ13
import Derived.Test.YtojjnifbnppliaaRows
section
namespace Go.Proofs.Ytojjnifbnppliaa.T
open Go.RowKit Go.Proofs.YtojjnifbnppliaaW.PrintWords Go.Proofs.YtojjnifbnppliaaW.PrintLast Go.Proofs.YtojjnifbnppliaaW.PrintMore
attribute [local go_sem] max2_int min2_int max_two min_two max_three min_three max_four min_four
set_option linter.unusedVariables false
set_option linter.unusedSimpArgs false
theorem copyb (l : List Int) (h : l.length < 140737488355328) : undercroftplain_CopyBytes.f l = some l:=by
  unfold undercroftplain_CopyBytes.f
  rw [if_pos (by simpa using h),List.nil_append]
theorem copyi (l : List Int) (h : l.length < 17592186044416) : undercroftplain_CopyInts.f l = some l:=by
  unfold undercroftplain_CopyInts.f
  rw [if_pos (by simpa using h),List.nil_append]
theorem copybo (l : List Bool) (h : l.length < 140737488355328) : undercroftplain_CopyBools.f l = some l:=by
  unfold undercroftplain_CopyBools.f
  rw [if_pos (by simpa using h),List.nil_append]
theorem copyl0 (l : List (List Int)) (hl : l.length ≤ 5864062014634) (hx : ∀ x ∈ l,x.length < 140737488355328) : ∀ (m i k : Nat),i + m = l.length→m < k→undercroftplain_CopyLists.l0 k l (l.take i) i = some l
  | m,i,0,_,h=>by omega
  | 0,i,k + 1,e,_=>by
    rw [undercroftplain_CopyLists.l0,if_neg (by omega),List.take_of_length_le (by omega)]
  | m + 1,i,k + 1,e,h=>by
    have hi : i < l.length:=by omega
    have hrd : rd_L1 l (i : Int) = l[i]:=by
      unfold rd_L1
      rw [Int.toNat_natCast,List.getD_eq_getElem?_getD,List.getElem?_eq_getElem hi]
      rfl
    have hw : wrap64 ((i : Int) + 1) = ((i + 1 : Nat) : Int):=by unfold wrap64;omega
    rw [undercroftplain_CopyLists.l0,if_pos (by omega),if_pos (by omega),hrd]
    refine Option.bind_eq_some_iff.mpr ⟨l[i],copyb _ (hx _ (List.getElem_mem hi)),?_⟩
    rw [if_pos (by rw [List.length_take];omega),hw,← List.take_succ_eq_append_getElem hi]
    exact copyl0 l hl hx m (i + 1) k (by omega) (by omega)
theorem copyl (l : List (List Int)) (hl : l.length ≤ 5864062014634) (hx : ∀ x ∈ l,x.length < 140737488355328) (k : Nat) (hk : l.length < k) : undercroftplain_CopyLists.f k l = some l:=by
  unfold undercroftplain_CopyLists.f
  exact copyl0 l hl hx l.length 0 k (by omega) hk
theorem of_l0 (a0 a1 a2 a3 a4 : Int) (l5 : List (List Int)) (a6 : Int) (l7 : List Int) (l8 : List Bool) (a9 : Bool) (l : List S68) (a11 a12 : Int) (l13 : List Int) (K : Nat) (hl : l.length ≤ 2932031007402) (hx : ∀ y ∈ l,y.f2.length ≤ 5864062014634∧y.f2.length < K∧∀ x ∈ y.f2,x.length < 140737488355328) : ∀ (m i k : Nat),i + m = l.length→m + K < k→undercroftlaw19_Of.l0 k i a0 a1 a2 a3 a4 l5 a6 l7 l8 a9 l a11 a12 l13 a0 a1 a2 a3 a4 l5 a6 l7 l8 a9 ((l.take i).map ofB) a11 a12 l13 = some (a0,a1,a2,a3,a4,l5,a6,l7,l8,a9,l.map ofB,a11,a12,l13)
  | m,i,0,_,h=>by omega
  | 0,i,k + 1,e,_=>by
    rw [undercroftlaw19_Of.l0,if_neg (by omega),List.take_of_length_le (by omega)]
  | m + 1,i,k + 1,e,h=>by
    have hi : i < l.length:=by omega
    have hrd : rd_T68 l (i : Int) = l[i]:=by
      unfold rd_T68
      rw [Int.toNat_natCast,List.getD_eq_getElem?_getD,List.getElem?_eq_getElem hi]
      rfl
    have hw : wrap64 ((i : Int) + 1) = ((i + 1 : Nat) : Int):=by unfold wrap64;omega
    have hxi:=hx _ (List.getElem_mem hi)
    rw [undercroftlaw19_Of.l0,if_pos (by omega),if_pos (by omega),hrd]
    refine Option.bind_eq_some_iff.mpr ⟨l[i].f2,copyl _ hxi.1 hxi.2.2 k (by omega),?_⟩
    have e2 : (l.take i).map ofB ++ [(⟨l[i].f0,l[i].f1,l[i].f2,l[i].f3⟩ : S69)] = (l.take (i + 1)).map ofB:=by
      rw [List.take_succ_eq_append_getElem hi,List.map_append]
      rfl
    rw [if_pos (by rw [List.length_map,List.length_take];omega),hw,e2]
    exact of_l0 a0 a1 a2 a3 a4 l5 a6 l7 l8 a9 l a11 a12 l13 K hl hx m (i + 1) k (by omega) (by omega)
theorem of_f (a0 a1 a2 a3 a4 : Int) (l5 : List (List Int)) (a6 : Int) (l7 : List Int) (l8 : List Bool) (a9 : Bool) (l : List S68) (a11 a12 : Int) (l13 : List Int) (K : Nat) (hl : l.length ≤ 2932031007402) (hx : ∀ y ∈ l,y.f2.length ≤ 5864062014634∧y.f2.length < K∧∀ x ∈ y.f2,x.length < 140737488355328) (h5 : l5.length ≤ 5864062014634) (hx5 : ∀ x ∈ l5,x.length < 140737488355328) (h7 : l7.length < 17592186044416) (h8 : l8.length < 140737488355328) (h13 : l13.length < 17592186044416) (k : Nat) (hk : l.length + K < k) (hk5 : l5.length < k) : undercroftlaw19_Of.f k a0 a1 a2 a3 a4 l5 a6 l7 l8 a9 l a11 a12 l13 = some (a0,a1,a2,a3,a4,l5,a6,l7,l8,a9,l.map ofB,a11,a12,l13):=by
  unfold undercroftlaw19_Of.f
  refine Option.bind_eq_some_iff.mpr ⟨l5,copyl _ h5 hx5 k hk5,?_⟩
  refine Option.bind_eq_some_iff.mpr ⟨l7,copyi _ h7,?_⟩
  refine Option.bind_eq_some_iff.mpr ⟨l8,copybo _ h8,?_⟩
  refine Option.bind_eq_some_iff.mpr ⟨l13,copyi _ h13,?_⟩
  exact of_l0 a0 a1 a2 a3 a4 l5 a6 l7 l8 a9 l a11 a12 l13 K hl hx l.length 0 k (by omega) hk
theorem ev_f (a0 a1 a2 a3 a4 a5 a6 : Int) (l7 : List (List Int)) (a8 a9 : Int) (l10 : List Int) (h7 : l7.length ≤ 5864062014634) (hx7 : ∀ x ∈ l7,x.length < 140737488355328) (h10 : l10.length < 140737488355328) (k : Nat) (hk : l7.length < k) : undercroftlaw19_OfEvent.f k a0 a1 a2 a3 a4 a5 a6 l7 a8 a9 l10 = some (a0,a1,a2,a3,a4,a5,a6,l7,a8,a9,l10):=by
  unfold undercroftlaw19_OfEvent.f undercroftlaw19_OfMsg.f
  refine Option.bind_eq_some_iff.mpr ⟨(a1,a2,a3,a4,a5,a6,l7,a8,a9),?_,?_⟩
  · exact Option.bind_eq_some_iff.mpr ⟨l7,copyl _ h7 hx7 k hk,rfl⟩
  · exact Option.bind_eq_some_iff.mpr ⟨l10,copyb _ h10,rfl⟩
end Go.Proofs.Ytojjnifbnppliaa.T
end
section
namespace Go.Proofs.Ytojjnifbnppliaa.T
open Go.RowKit Go.Proofs.YtojjnifbnppliaaW.PrintWords Go.Proofs.YtojjnifbnppliaaW.PrintLast Go.Proofs.YtojjnifbnppliaaW.PrintMore
attribute [local go_sem] max2_int min2_int max_two min_two max_three min_three max_four min_four
set_option linter.unusedVariables false
set_option linter.unusedSimpArgs false
/-- What a call of Step gives. -/
def Rv2 (e : Int) (CS : Array Value) (mv : Value) : Value:=.tuple #[.agg CS,mv,.int .i64 e]
theorem Rv2.inj {e : Int} {C1 C2 : Array Value} {m1 m2 : Value} (h : Rv2 e C1 m1 = Rv2 e C2 m2) : C1 = C2∧m1 = m2:=by
  unfold Rv2 at h
  injection h with h
  have:=congrArg Array.toList h
  simp at this
  exact⟨this.1,this.2⟩
structure Stay2 (T : Array Value→Value→World→(Nat→Prop)→Prop) : Prop where
  go : ∀ CS mv w w1 S S',T CS mv w S→Keeps w w1 S→(∀ i,S' i→S i∨w.heap.size ≤ i)→T CS mv w1 S'
def GL (W0 : World) (e : Int) (T : Array Value→Value→World→(Nat→Prop)→Prop) (l : Nat→Bool) (u : Nat→Value) (wx : World) : Prop :=
  Below W0.heap.size W0 wx ∧
  (l 9 = true→∃ g,u 5 = .pointer (some ⟨g,0,none⟩)∧W0.heap.size ≤ g∧g < wx.heap.size∧(l 10 = false→wx.heap[g]? = some (.cells #[.int .i64 0,.int .i64 0,.int .i64 0,.int .i64 0,.int .i64 0,.slice none 0 0,.int .i64 0,.slice none 0 0,.slice none 0 0,.bool false,.slice none 0 0,.int .i64 0,.int .i64 0,.slice none 0 0] 29 (0,0)))∧(l 10 = true→∃ CS mv,u 16 = Rv2 e CS mv∧wx.heap[g]? = some (.cells CS 29 (0,0)))) ∧
  (l 4 = true→∃ CS mv,CS.size = 14∧CS.all (·.oneCell') = true∧u 16 = Rv2 e CS mv∧T CS mv wx (fun k=>k < W0.heap.size∨(l 9 = true∧u 5 = .pointer (some ⟨k,0,none⟩))))
section
variable {W0 wx : World} {e : Int} {T : Array Value→Value→World→(Nat→Prop)→Prop} {l : Nat→Bool} {u : Nat→Value}
theorem GL.upd {i : Nat} {n : Option Nat} {v : Value} (h6 : 4 ≠ i) (h11 : 9 ≠ i) (h12 : 10 ≠ i) (m5 : n ≠ some 5) (m36 : n ≠ some 16) (h : GL W0 e T l u wx) : GL W0 e T (fun j=>l j || j == i) (updO u n v) wx:=by
  have e5 : updO u n v 5 = u 5:=by
    cases n with
    | none=>rfl
    | some n=>exact upd_ne (fun e=>m5 (by rw [e]))
  have e36 : updO u n v 16 = u 16:=by
    cases n with
    | none=>rfl
    | some n=>exact upd_ne (fun e=>m36 (by rw [e]))
  unfold GL at h ⊢
  simp only [or_ne h6,or_ne h11,or_ne h12,e5,e36]
  exact h
theorem GL.call (hT : Stay2 T) {CS : Array Value} {mv : Value} {w2 : World} (h : GL W0 e T l u wx) (hl12 : l 10 = false) (hs : CS.size = 14) (h1 : CS.all (·.oneCell') = true) (hb : Below wx.heap.size wx w2) (ht : T CS mv w2 (fun k=>k < wx.heap.size)) : GL W0 e T (fun j=>l j || j == 4) (updO u (some 16) (Rv2 e CS mv)) w2:=by
  obtain ⟨hB,hA,_⟩:=h
  have e5 : updO u (some 16) (Rv2 e CS mv) 5 = u 5:=upd_ne (by decide)
  have e36 : updO u (some 16) (Rv2 e CS mv) 16 = Rv2 e CS mv:=upd_at
  unfold GL
  simp only [or_ne (show(9 : Nat) ≠ 4 by decide),or_ne (show(10 : Nat) ≠ 4 by decide),or_at,e5,e36]
  refine⟨hB.trans (hb.mono hB.size),fun h11=>?_,fun _=>⟨CS,mv,hs,h1,rfl,?_⟩⟩
  · obtain ⟨g,g1,g2,g3,g4,_⟩:=hA h11
    exact⟨g,g1,g2,Nat.lt_of_lt_of_le g3 hb.size,fun h=>(hb.block g g3).trans (g4 h),fun h=>absurd (hl12.symm.trans h) (by simp)⟩
  · refine hT.go _ _ _ _ _ _ ht (Keeps.refl _ _) (fun i hi=>.inl ?_)
    rcases hi with hi|⟨h11,hi⟩
    · exact Nat.lt_of_lt_of_le hi hB.size
    · obtain ⟨g,g1,g2,g3,_⟩:=hA h11
      rw [g1] at hi
      injection hi with hi
      injection hi with hi
      injection hi with hi
      show i < wx.heap.size
      rw [← hi];exact g3
theorem GL.alloc (hT : Stay2 T) (h : GL W0 e T l u wx) (hl11 : l 9 = false) (hl12 : l 10 = false) : GL W0 e T (fun j=>l j || j == 9) (updO u (some 5) (.pointer (some ⟨wx.heap.size,0,none⟩))) (wx.alloc (.cells #[.int .i64 0,.int .i64 0,.int .i64 0,.int .i64 0,.int .i64 0,.slice none 0 0,.int .i64 0,.slice none 0 0,.slice none 0 0,.bool false,.slice none 0 0,.int .i64 0,.int .i64 0,.slice none 0 0] 29)):=by
  obtain ⟨hB,_,hC⟩:=h
  have e5 : updO u (some 5) (.pointer (some ⟨wx.heap.size,0,none⟩)) 5 = .pointer (some ⟨wx.heap.size,0,none⟩):=upd_at
  have e36 : updO u (some 5) (.pointer (some ⟨wx.heap.size,0,none⟩)) 16 = u 16:=upd_ne (by decide)
  unfold GL
  simp only [or_ne (show(4 : Nat) ≠ 9 by decide),or_ne (show(10 : Nat) ≠ 9 by decide),or_at,e5,e36]
  refine⟨below_alloc hB _,fun _=>⟨_,rfl,hB.size,by simp,fun _=>heap_alloc_new _ _,fun h=>absurd (hl12.symm.trans h) (by simp)⟩,fun h6=>?_⟩
  obtain ⟨CS,mv,c1,c2,c3,c4⟩:=hC h6
  refine⟨CS,mv,c1,c2,c3,hT.go _ _ _ _ _ _ c4 (Keeps.alloc (Keeps.refl _ _) _) (fun i hi=>?_)⟩
  rcases hi with hi|⟨_,hi⟩
  · exact .inl (.inl hi)
  · injection hi with hi
    injection hi with hi
    injection hi with hi
    exact .inr (by rw [← hi];exact Nat.le_refl _)
theorem GL.store (hT : Stay2 T) {g : Nat} {CS : Array Value} {mv : Value} (h : GL W0 e T l u wx) (hl11 : l 9 = true) (hl6 : l 4 = true) (hl12 : l 10 = false) (hg : u 5 = .pointer (some ⟨g,0,none⟩)) (h36 : u 16 = Rv2 e CS mv) : GL W0 e T (fun j=>l j || j == 10) u (wx.setRow g CS):=by
  obtain ⟨hB,hA,hC⟩:=h
  obtain ⟨g',g1,g2,g3,g4,_⟩:=hA hl11
  have hgg : g' = g:=by
    rw [hg] at g1
    injection g1 with g1
    injection g1 with g1
    injection g1 with g1
    exact g1.symm
  subst hgg
  unfold GL
  simp only [or_ne (show(4 : Nat) ≠ 10 by decide),or_ne (show(9 : Nat) ≠ 10 by decide),or_at]
  refine⟨below_row hB g2 _,fun _=>⟨g',hg,g2,by simpa using g3,fun h=>absurd h (by simp),fun _=>⟨CS,mv,h36,setRow_heap _ _ _ _ _ _ (g4 hl12)⟩⟩,fun _=>?_⟩
  obtain ⟨CS',mv',c1,c2,c3,c4⟩:=hC hl6
  exact⟨CS',mv',c1,c2,c3,hT.go _ _ _ _ _ _ c4 (Keeps.row (g:=g') (Keeps.refl _ _) (.inr ⟨hl11,hg⟩) _) (fun i hi=>.inl hi)⟩
/-- A call ahead of Step. -/
theorem GL.more {i : Nat} {n : Option Nat} {v : Value} {w2 : World} (h6 : 4 ≠ i) (h11 : 9 ≠ i) (h12 : 10 ≠ i) (m5 : n ≠ some 5) (m36 : n ≠ some 16) (h : GL W0 e T l u wx) (hl4 : l 4 = false) (hl10 : l 10 = false) (hb : Below wx.heap.size wx w2) : GL W0 e T (fun j=>l j || j == i) (updO u n v) w2:=by
  refine GL.upd h6 h11 h12 m5 m36 ?_
  obtain ⟨hB,hA,hC⟩:=h
  refine⟨hB.trans (hb.mono hB.size),fun h11=>?_,fun h=>absurd (hl4.symm.trans h) (by simp)⟩
  obtain ⟨g,g1,g2,g3,g4,_⟩:=hA h11
  exact⟨g,g1,g2,Nat.lt_of_lt_of_le g3 hb.size,fun h=>(hb.block g g3).trans (g4 h),fun h=>absurd (hl10.symm.trans h) (by simp)⟩
end
/-- What the copies hold, ahead of Step. -/
def GP (s : St) (k : Int) (x : Ms) (data : List Int) (l : Nat→Bool) (u : Nat→Value) (wx : World) : Prop:=(l 1 = true→l 4 = false→∃ (AL : Option Addr) (cL : Nat) (AM : Option Addr) (cM : Nat) (AK : Option Addr) (cK : Nat) (AB : Option Addr) (cB : Nat) (AD : Option Addr) (cD : Nat),u 13 = .agg #[.int .i64 s.id,.int .i64 s.n,.int .i64 s.view,.int .i64 s.last,.int .i64 s.status,.slice AL s.log.length cL,.int .i64 s.commit,.slice AM s.mat.length cM,.slice AK s.marks.length cK,.bool s.sent,.slice AB s.bals.length cB,.int .i64 s.elapsed,.int .i64 s.timeout,.slice AD s.draws.length cD]∧Rd wx s AL cL AM cM AK cK AB cB AD cD)∧(l 3 = true→l 4 = false→∃ (AX : Option Addr) (cX : Nat) (A : Option Addr) (c : Nat),u 15 = .agg #[.int .i64 k,.int .i64 x.kind,.int .i64 x.fro,.int .i64 x.dst,.int .i64 x.view,.int .i64 x.last,.int .i64 x.prev,.slice AX x.log.length cX,.int .i64 x.commit,.int .i64 x.mat,.slice A data.length c]∧Kd.C (Kd.slice 5 (Kd.int .u8)) wx AX x.log.length x.log∧x.log.length ≤ cX∧Kd.C (Kd.int .u8) wx A data.length data)
/-- What Step gives. -/
def LT (r : Option Int) (s : St) (out : List Ms) (CS : Array Value) (mv : Value) (w : World) (S : Nat→Prop) : Prop:=match r with
  | some _=>CS = #[.int .i64 0,.int .i64 0,.int .i64 0,.int .i64 0,.int .i64 0,.slice none 0 0,.int .i64 0,.slice none 0 0,.slice none 0 0,.bool false,.slice none 0 0,.int .i64 0,.int .i64 0,.slice none 0 0]∧mv = .slice none 0 0
  | none=>∃ (AL : Option Addr) (cL : Nat) (AM : Option Addr) (cM : Nat) (AK : Option Addr) (cK : Nat) (AB : Option Addr) (cB : Nat) (AD : Option Addr) (cD : Nat) (AO : Option Addr) (cO : Nat),CS = #[.int .i64 s.id,.int .i64 s.n,.int .i64 s.view,.int .i64 s.last,.int .i64 s.status,.slice AL s.log.length cL,.int .i64 s.commit,.slice AM s.mat.length cM,.slice AK s.marks.length cK,.bool s.sent,.slice AB s.bals.length cB,.int .i64 s.elapsed,.int .i64 s.timeout,.slice AD s.draws.length cD]∧mv = .slice AO out.length cO∧∀ W,Keeps w W S→Rd W s AL cL AM cM AK cK AB cB AD cD∧kMs.C W AO out.length out
theorem LT.stays (r : Option Int) (s : St) (out : List Ms) : Stay2 (LT r s out):=⟨fun CS mv w w1 S S' h hk hs=>by
  cases r with
  | some _=>exact h
  | none =>
    obtain ⟨AL,cL,AM,cM,AK,cK,AB,cB,AD,cD,AO,cO,h1,h2,h3⟩:=h
    exact⟨AL,cL,AM,cM,AK,cK,AB,cB,AD,cD,AO,cO,h1,h2,fun W hk2=>h3 W (hk.trans' hk2 hs)⟩⟩
def codeOf (r : Option Int) : Int:=match r with
  | some c=>c
  | none=>0
theorem StepRes_to {w0 : World} {r : Option Int} {s : St} {out : List Ms} {e : Ending} {w : World} (h : StepRes w0 r s out e w) : Below w0.heap.size w0 w∧∃ CS mv,e = .returned (Rv2 (codeOf r) CS mv)∧CS.size = 14∧CS.all (·.oneCell') = true∧LT r s out CS mv w (fun k=>k < w0.heap.size):=by
  obtain ⟨hB,h⟩:=h
  refine⟨hB,?_⟩
  cases r with
  | some c=>exact⟨_,_,h,by kernel_rfl,by kernel_rfl,rfl,rfl⟩
  | none =>
    obtain ⟨AL,cL,AM,cM,AK,cK,AB,cB,AD,cD,AO,cO,h1,h2⟩:=h
    exact⟨_,_,h1,rfl,by kernel_rfl,AL,cL,AM,cM,AK,cK,AB,cB,AD,cD,AO,cO,rfl,rfl,h2⟩
section
variable {s : St} {k : Int} {x : Ms} {data : List Int} {l : Nat→Bool} {u : Nat→Value} {wx w2 : World}
theorem GP.upd {i : Nat} {n : Option Nat} {v : Value} (h1 : 1 ≠ i) (h3 : 3 ≠ i) (m13 : n ≠ some 13) (m15 : n ≠ some 15) (h : GP s k x data l u wx) (hb : Below wx.heap.size wx w2) : GP s k x data (fun j=>l j || j == i) (updO u n v) w2:=by
  have e13 : updO u n v 13 = u 13:=by
    cases n with
    | none=>rfl
    | some n=>exact upd_ne (fun e=>m13 (by rw [e]))
  have e15 : updO u n v 15 = u 15:=by
    cases n with
    | none=>rfl
    | some n=>exact upd_ne (fun e=>m15 (by rw [e]))
  unfold GP at h ⊢
  simp only [or_ne h1,or_ne h3,e13,e15]
  refine⟨fun q1 q4=>?_,fun q3 q4=>?_⟩
  · have q4' : l 4 = false:=(Bool.or_eq_false_iff.mp q4).1
    obtain ⟨AL,cL,AM,cM,AK,cK,AB,cB,AD,cD,a1,a2⟩:=h.1 q1 q4'
    exact⟨AL,cL,AM,cM,AK,cK,AB,cB,AD,cD,a1,a2.below hb⟩
  · have q4' : l 4 = false:=(Bool.or_eq_false_iff.mp q4).1
    obtain ⟨AX,cX,A,c,a1,a2,a3,a4⟩:=h.2 q3 q4'
    exact⟨AX,cX,A,c,a1,Kd.C_below a2 hb,a3,Kd.C_below a4 hb⟩
theorem GP.same {i : Nat} {n : Option Nat} {v : Value} (h1 : 1 ≠ i) (h3 : 3 ≠ i) (m13 : n ≠ some 13) (m15 : n ≠ some 15) (h : GP s k x data l u wx) : GP s k x data (fun j=>l j || j == i) (updO u n v) wx:=h.upd h1 h3 m13 m15 (Below.refl _ _)
/-- Behind Step nothing is held. -/
theorem GP.past {i : Nat} {u' : Nat→Value} (h4 : l 4 = true) : GP s k x data (fun j=>l j || j == i) u' w2:=by
  unfold GP
  refine⟨fun _ q=>?_,fun _ q=>?_⟩
  · have q' : (l 4 || 4 == i) = false:=q
    rw [h4] at q'
    cases q'
  · have q' : (l 4 || 4 == i) = false:=q
    rw [h4] at q'
    cases q'
theorem GP.step {u' : Nat→Value} : GP s k x data (fun j=>l j || j == 4) u' w2:=by
  unfold GP
  refine⟨fun _ q=>?_,fun _ q=>?_⟩
  · simp at q
  · simp at q
theorem GP.of (AL : Option Addr) (cL : Nat) (AM : Option Addr) (cM : Nat) (AK : Option Addr) (cK : Nat) (AB : Option Addr) (cB : Nat) (AD : Option Addr) (cD : Nat) (h : GP s k x data l u wx) (hl3 : l 3 = false) (hr : Rd w2 s AL cL AM cM AK cK AB cB AD cD) : GP s k x data (fun j=>l j || j == 1) (updO u (some 13) (.agg #[.int .i64 s.id,.int .i64 s.n,.int .i64 s.view,.int .i64 s.last,.int .i64 s.status,.slice AL s.log.length cL,.int .i64 s.commit,.slice AM s.mat.length cM,.slice AK s.marks.length cK,.bool s.sent,.slice AB s.bals.length cB,.int .i64 s.elapsed,.int .i64 s.timeout,.slice AD s.draws.length cD])) w2:=by
  unfold GP
  refine⟨fun _ _=>⟨AL,cL,AM,cM,AK,cK,AB,cB,AD,cD,upd_at,hr⟩,fun q _=>?_⟩
  simp [hl3] at q
theorem GP.ev (AX : Option Addr) (cX : Nat) (A : Option Addr) (c : Nat) (h : GP s k x data l u wx) (hb : Below wx.heap.size wx w2) (h1 : Kd.C (Kd.slice 5 (Kd.int .u8)) w2 AX x.log.length x.log) (h2 : x.log.length ≤ cX) (h3 : Kd.C (Kd.int .u8) w2 A data.length data) : GP s k x data (fun j=>l j || j == 3) (updO u (some 15) (.agg #[.int .i64 k,.int .i64 x.kind,.int .i64 x.fro,.int .i64 x.dst,.int .i64 x.view,.int .i64 x.last,.int .i64 x.prev,.slice AX x.log.length cX,.int .i64 x.commit,.int .i64 x.mat,.slice A data.length c])) w2:=by
  have e13 : updO u (some 15) (.agg #[.int .i64 k,.int .i64 x.kind,.int .i64 x.fro,.int .i64 x.dst,.int .i64 x.view,.int .i64 x.last,.int .i64 x.prev,.slice AX x.log.length cX,.int .i64 x.commit,.int .i64 x.mat,.slice A data.length c]) 13 = u 13:=upd_ne (by decide)
  unfold GP at h ⊢
  refine⟨fun q1 q4=>?_,fun _ _=>⟨AX,cX,A,c,upd_at,h1,h2,h3⟩⟩
  have q4' : l 4 = false:=(Bool.or_eq_false_iff.mp q4).1
  have q1' : l 1 = true:=by simpa using q1
  obtain ⟨AL,cL,AM,cM,AK,cK,AB,cB,AD,cD,a1,a2⟩:=h.1 q1' q4'
  exact⟨AL,cL,AM,cM,AK,cK,AB,cB,AD,cD,e13.trans a1,a2.below hb⟩
end
def zMs : Ms:={ kind:=0,fro:=0,dst:=0,view:=0,last:=0,prev:=0,log:=[],commit:=0,mat:=0 }
theorem kMs_open {w : World} {x : Ms} {cs : List Value} (h : kMs.K w x cs) : ∃ (A : Option Addr) (c : Nat),cs = [.int .i64 x.kind,.int .i64 x.fro,.int .i64 x.dst,.int .i64 x.view,.int .i64 x.last,.int .i64 x.prev,.slice A x.log.length c,.int .i64 x.commit,.int .i64 x.mat]:=by
  obtain ⟨_,_,rfl,rfl,⟨_,_,rfl,rfl,⟨_,_,rfl,rfl,⟨_,_,rfl,rfl,⟨_,_,rfl,rfl,⟨_,_,rfl,rfl,⟨_,_,rfl,⟨A,c,rfl,_,_⟩,⟨_,_,rfl,rfl,rfl⟩⟩⟩⟩⟩⟩⟩⟩:=h
  exact⟨A,c,rfl⟩
theorem at_Ms {w : World} {A : Option Addr} {n : Nat} {xs : List Ms} (h : Kd.C kMs w A n xs) (i : Int) (h0 : 0 ≤ i) (h1 : i < n) : ∃ ad,A = some ad∧w.cell? (ad.add (i.toNat * 9)) = some (.int .i64 (xs.getD i.toNat zMs).kind)∧w.cell? ⟨(ad.add (i.toNat * 9)).block,(ad.add (i.toNat * 9)).off + 1,none⟩ = some (.int .i64 (xs.getD i.toNat zMs).fro)∧w.cell? ⟨(ad.add (i.toNat * 9)).block,(ad.add (i.toNat * 9)).off + 2,none⟩ = some (.int .i64 (xs.getD i.toNat zMs).dst)∧w.cell? ⟨(ad.add (i.toNat * 9)).block,(ad.add (i.toNat * 9)).off + 3,none⟩ = some (.int .i64 (xs.getD i.toNat zMs).view):=by
  obtain ⟨ad,c,e,_,hK,hc0⟩:=Kd.C_get h zMs i h0 h1
  have hc : ∀ j u,c[j]? = some u→w.cell? (ad.add (i.toNat * 9 + j)) = some u:=hc0
  obtain ⟨A2,c2,rfl⟩:=kMs_open hK
  exact⟨ad,e,hc 0 _ rfl,by rw [← add_field _ _ 1 (by omega)];exact hc 1 _ rfl,by rw [← add_field _ _ 2 (by omega)];exact hc 2 _ rfl,by rw [← add_field _ _ 3 (by omega)];exact hc 3 _ rfl⟩
end Go.Proofs.Ytojjnifbnppliaa.T
end
section
namespace Go.Proofs.Ytojjnifbnppliaa.T
open Go.RowKit Go.Proofs.YtojjnifbnppliaaW.PrintWords Go.Proofs.YtojjnifbnppliaaW.PrintLast Go.Proofs.YtojjnifbnppliaaW.PrintMore
attribute [local go_sem] max2_int min2_int max_two min_two max_three min_three max_four min_four
set_option linter.unusedVariables false
set_option linter.unusedSimpArgs false
set_option maxHeartbeats 16000000 in
set_option maxRecDepth 100000 in
theorem VrAnswers.calls (s : St) (bl : List S68) (hbl : s.bals = bl.map ofB) (AL : Option Addr) (cL : Nat) (AM : Option Addr) (cM : Nat) (AK : Option Addr) (cK : Nat) (AB : Option Addr) (cB : Nat) (AD : Option Addr) (cD : Nat) (k : Int) (x : Ms) (AX : Option Addr) (cX : Nat) (A : Option Addr) (c : Nat) (data : List Int) (kf : Nat) (w : World) (h5 : Kd.C (Kd.slice 5 (Kd.int .u8)) w AL s.log.length s.log) (g5 : s.log.length ≤ cL) (h7 : Kd.C (Kd.int .i64) w AM s.mat.length s.mat) (g7 : s.mat.length ≤ cM) (h8 : Kd.C Kd.bool w AK s.marks.length s.marks) (g8 : s.marks.length ≤ cK) (h10 : Kd.C k68 w AB bl.length bl) (g10 : bl.length ≤ cB) (h13 : Kd.C (Kd.int .i64) w AD s.draws.length s.draws) (g13 : s.draws.length ≤ cD) (hX : Kd.C (Kd.slice 5 (Kd.int .u8)) w AX x.log.length x.log) (gX : x.log.length ≤ cX) (hA : Kd.C (Kd.int .u8) w A data.length data) (gA : data.length ≤ c)
    (hOf : undercroftlaw19_Of.f kf s.id s.n s.view s.last s.status s.log s.commit s.mat s.marks s.sent bl s.elapsed s.timeout s.draws = some (s.id,s.n,s.view,s.last,s.status,s.log,s.commit,s.mat,s.marks,s.sent,bl.map ofB,s.elapsed,s.timeout,s.draws)) (hEv : undercroftlaw19_OfEvent.f kf k x.kind x.fro x.dst x.view x.last x.prev x.log x.commit x.mat data = some (k,x.kind,x.fro,x.dst,x.view,x.last,x.prev,x.log,x.commit,x.mat,data)) :
    Calls Try.prog 4 #[.agg #[.int .i64 s.id,.int .i64 s.n,.int .i64 s.view,.int .i64 s.last,.int .i64 s.status,.slice AL s.log.length cL,.int .i64 s.commit,.slice AM s.mat.length cM,.slice AK s.marks.length cK,.bool s.sent,.slice AB bl.length cB,.int .i64 s.elapsed,.int .i64 s.timeout,.slice AD s.draws.length cD],.agg #[.int .i64 k,.int .i64 x.kind,.int .i64 x.fro,.int .i64 x.dst,.int .i64 x.view,.int .i64 x.last,.int .i64 x.prev,.slice AX x.log.length cX,.int .i64 x.commit,.int .i64 x.mat,.slice A data.length c]] w fun e w'=>e = .returned (.bool true)∧Below w.heap.size w w':=by
  have hu44:=Try.underlying44
  have hu47:=Try.underlying47
  have hu45:=Try.underlying45
  have hu29:=Try.underlying29
  have hu33:=Try.underlying33
  have hu37:=Try.underlying37
  have HBW:=Aside0.mk (show Below w.heap.size w ((w.alloc (.cells #[.int .i64 s.id,.int .i64 s.n,.int .i64 s.view,.int .i64 s.last,.int .i64 s.status,.slice AL s.log.length cL,.int .i64 s.commit,.slice AM s.mat.length cM,.slice AK s.marks.length cK,.bool s.sent,.slice AB bl.length cB,.int .i64 s.elapsed,.int .i64 s.timeout,.slice AD s.draws.length cD] 44)).alloc (.cells #[.int .i64 k,.int .i64 x.kind,.int .i64 x.fro,.int .i64 x.dst,.int .i64 x.view,.int .i64 x.last,.int .i64 x.prev,.slice AX x.log.length cX,.int .i64 x.commit,.int .i64 x.mat,.slice A data.length c] 47)) from below_alloc (below_alloc (Below.refl _ _) _) _)
  have HK:=Aside0.mk (show((w.alloc (.cells #[.int .i64 s.id,.int .i64 s.n,.int .i64 s.view,.int .i64 s.last,.int .i64 s.status,.slice AL s.log.length cL,.int .i64 s.commit,.slice AM s.mat.length cM,.slice AK s.marks.length cK,.bool s.sent,.slice AB bl.length cB,.int .i64 s.elapsed,.int .i64 s.timeout,.slice AD s.draws.length cD] 44)).alloc (.cells #[.int .i64 k,.int .i64 x.kind,.int .i64 x.fro,.int .i64 x.dst,.int .i64 x.view,.int .i64 x.last,.int .i64 x.prev,.slice AX x.log.length cX,.int .i64 x.commit,.int .i64 x.mat,.slice A data.length c] 47)).heap[w.heap.size]? = some (.cells #[.int .i64 s.id,.int .i64 s.n,.int .i64 s.view,.int .i64 s.last,.int .i64 s.status,.slice AL s.log.length cL,.int .i64 s.commit,.slice AM s.mat.length cM,.slice AK s.marks.length cK,.bool s.sent,.slice AB bl.length cB,.int .i64 s.elapsed,.int .i64 s.timeout,.slice AD s.draws.length cD] 44 (0,0))∧((w.alloc (.cells #[.int .i64 s.id,.int .i64 s.n,.int .i64 s.view,.int .i64 s.last,.int .i64 s.status,.slice AL s.log.length cL,.int .i64 s.commit,.slice AM s.mat.length cM,.slice AK s.marks.length cK,.bool s.sent,.slice AB bl.length cB,.int .i64 s.elapsed,.int .i64 s.timeout,.slice AD s.draws.length cD] 44)).alloc (.cells #[.int .i64 k,.int .i64 x.kind,.int .i64 x.fro,.int .i64 x.dst,.int .i64 x.view,.int .i64 x.last,.int .i64 x.prev,.slice AX x.log.length cX,.int .i64 x.commit,.int .i64 x.mat,.slice A data.length c] 47)).heap[w.heap.size + 1]? = some (.cells #[.int .i64 k,.int .i64 x.kind,.int .i64 x.fro,.int .i64 x.dst,.int .i64 x.view,.int .i64 x.last,.int .i64 x.prev,.slice AX x.log.length cX,.int .i64 x.commit,.int .i64 x.mat,.slice A data.length c] 47 (0,0)) from⟨blk_alloc (heap_alloc_new w _) _,by have:=heap_alloc_new (w.alloc (.cells #[.int .i64 s.id,.int .i64 s.n,.int .i64 s.view,.int .i64 s.last,.int .i64 s.status,.slice AL s.log.length cL,.int .i64 s.commit,.slice AM s.mat.length cM,.slice AK s.marks.length cK,.bool s.sent,.slice AB bl.length cB,.int .i64 s.elapsed,.int .i64 s.timeout,.slice AD s.draws.length cD] 44)) (.cells #[.int .i64 k,.int .i64 x.kind,.int .i64 x.fro,.int .i64 x.dst,.int .i64 x.view,.int .i64 x.last,.int .i64 x.prev,.slice AX x.log.length cX,.int .i64 x.commit,.int .i64 x.mat,.slice A data.length c] 47);simpa using this⟩)
  have HA:=Aside0.mk (And.intro h5 (And.intro h7 (And.intro h8 (And.intro h10 (And.intro h13 (And.intro hX hA))))))
  have HG:=Aside0.mk (And.intro g5 (And.intro g7 (And.intro g8 (And.intro g10 (And.intro g13 (And.intro gX gA))))))
  have HO:=Aside0.mk (And.intro hOf (And.intro hEv hbl))
  clear h5 h7 h8 h10 h13 hX hA g5 g7 g8 g10 g13 gX gA hOf hEv hbl
  go_enter Try.func4,Try.ntmps4
  go_upto_region 3 with (go_at_call 6;refine(alive.calls _).mono ?_;rintro e w1 ⟨rfl,hb1⟩;have HB1:=Aside0.mk hb1;clear hb1)
  have HW:=Aside0.mk (show Below w.heap.size w w1∧w1.heap[w.heap.size]? = some (.cells #[.int .i64 s.id,.int .i64 s.n,.int .i64 s.view,.int .i64 s.last,.int .i64 s.status,.slice AL s.log.length cL,.int .i64 s.commit,.slice AM s.mat.length cM,.slice AK s.marks.length cK,.bool s.sent,.slice AB bl.length cB,.int .i64 s.elapsed,.int .i64 s.timeout,.slice AD s.draws.length cD] 44 (0,0))∧w1.heap[w.heap.size + 1]? = some (.cells #[.int .i64 k,.int .i64 x.kind,.int .i64 x.fro,.int .i64 x.dst,.int .i64 x.view,.int .i64 x.last,.int .i64 x.prev,.slice AX x.log.length cX,.int .i64 x.commit,.int .i64 x.mat,.slice A data.length c] 47 (0,0)) from⟨HBW.out.trans (HB1.out.mono HBW.out.size),blk_below HK.out.1 HB1.out,blk_below HK.out.2 HB1.out⟩)
  clear HBW HK HB1
  obtain ⟨R,hR⟩ : ∃ R,stepF s k x data = R:=⟨_,rfl⟩
  have HR:=Aside0.mk hR
  have HGD:=Aside0.mk (show GoodR s R from by rw [← hR];exact stepF_good)
  clear hR
  refine region_tab1 (fun u=>⟨#[.agg #[.int .i64 s.id,.int .i64 s.n,.int .i64 s.view,.int .i64 s.last,.int .i64 s.status,.slice AL s.log.length cL,.int .i64 s.commit,.slice AM s.mat.length cM,.slice AK s.marks.length cK,.bool s.sent,.slice AB bl.length cB,.int .i64 s.elapsed,.int .i64 s.timeout,.slice AD s.draws.length cD],.agg #[.int .i64 k,.int .i64 x.kind,.int .i64 x.fro,.int .i64 x.dst,.int .i64 x.view,.int .i64 x.last,.int .i64 x.prev,.slice AX x.log.length cX,.int .i64 x.commit,.int .i64 x.mat,.slice A data.length c],.pointer (some ⟨w.heap.size,0,none⟩),.pointer (some ⟨w.heap.size + 1,0,none⟩),.bool false,u 5,u 6,u 7,undef,.bool true,.bool false,u 11,u 12,u 13,u 14,u 15,u 16,u 17,u 18,u 19,undef,undef,undef,undef,undef,undef,undef,undef,undef,undef,undef,undef,undef,undef,undef,undef,undef,undef,undef,undef,undef,undef,undef,undef,undef,undef,undef,undef,undef,undef,undef,undef,undef,undef,undef,undef,undef,undef,undef,undef,undef,undef,undef,undef,undef,undef,undef,undef,undef,undef,undef,undef,undef,undef,undef,undef,undef,undef,undef,undef,undef,undef,undef,undef,undef,undef,undef,undef,undef,undef,undef,undef,undef,undef,undef,undef,undef,undef,undef,undef,undef,undef,undef,undef,undef,undef,undef,undef,undef,undef,undef,undef,undef,undef],[]⟩) (fun n=>match n with|5=>undef|6=>undef|7=>undef|11=>undef|12=>undef|13=>undef|14=>undef|15=>undef|16=>undef|17=>undef|18=>undef|19=>undef|_=>undef) 4 16 (fun j a v=>match j with|0=>v = .agg #[.int .i64 s.id,.int .i64 s.n,.int .i64 s.view,.int .i64 s.last,.int .i64 s.status,.slice AL s.log.length cL,.int .i64 s.commit,.slice AM s.mat.length cM,.slice AK s.marks.length cK,.bool s.sent,.slice AB bl.length cB,.int .i64 s.elapsed,.int .i64 s.timeout,.slice AD s.draws.length cD]|2=>v = .agg #[.int .i64 k,.int .i64 x.kind,.int .i64 x.fro,.int .i64 x.dst,.int .i64 x.view,.int .i64 x.last,.int .i64 x.prev,.slice AX x.log.length cX,.int .i64 x.commit,.int .i64 x.mat,.slice A data.length c]|5=>v = a|6=>∀ CS mv,a = Rv2 (codeOf (errO R)) CS mv→v = .agg CS|7=>∀ CS mv,a = Rv2 (codeOf (errO R)) CS mv→v = mv|8=>v = .int .i64 (codeOf (errO R))|11=>∀ CS mv,a = Rv2 (codeOf (errO R)) CS mv→v = mv|12=>v = .int .i64 (codeOf (errO R))|_=>True) (fun l u wx=>GL w1 (codeOf (errO R)) (LT (errO R) (resS s R) (resM R)) l u wx∧GP s k x data l u wx) (by first|rfl|kernel_rfl) (by kernel_rfl) (by kernel_rfl) (by first|rfl|kernel_rfl) rfl ?tg0 ?tput ?tg ?thk ?tstep ?tdone
  case tg0 =>
    exact⟨⟨below_drew (Below.refl _ _),fun h=>absurd h (by simp),fun h=>absurd h (by simp)⟩,fun h=>absurd h (by simp),fun h=>absurd h (by simp)⟩
  case tput =>
    intro i o ho u v
    rcases i with _|_|_|_|_|_|_|_|_|_|_|_|_|i
    all_goals first|(obtain rfl:=Option.some.inj (show some _ = some o from ho);rfl)|exact absurd ho (by simp)
  case tg =>
    intro i o ho
    rcases i with _|_|_|_|_|_|_|_|_|_|_|_|_|i
    all_goals first|(obtain rfl:=Option.some.inj (show some _ = some o from ho);rfl)|exact absurd ho (by simp)
  case thk =>
    intro l hx j hj hjk hlj hlk a b v
    rcases j with _|_|_|_|_|_|_|_|_|_|_|_|_|j
    · exact id
    · exact id
    · exact id
    · exact id
    · exact id
    · exact absurd ((hx 5 _ rfl hlj 4 (by decide)).symm.trans hlk) (by simp)
    · exact absurd ((hx 5 _ rfl (hx 6 _ rfl hlj 5 (by decide)) 4 (by decide)).symm.trans hlk) (by simp)
    · exact absurd ((hx 5 _ rfl (hx 7 _ rfl hlj 5 (by decide)) 4 (by decide)).symm.trans hlk) (by simp)
    · exact id
    · exact id
    · exact id
    · exact absurd ((hx 5 _ rfl (hx 7 _ rfl (hx 11 _ rfl hlj 7 (by decide)) 5 (by decide)) 4 (by decide)).symm.trans hlk) (by simp)
    · exact id
    · exact id
  case tstep =>
    intro l u wx i o hx hG hF ho hl hn
    rcases i with _|_|_|_|_|_|_|_|_|_|_|_|_|i
    · obtain rfl:=Option.some.inj (show some _ = some o from ho)
      have kx:=blk_below HW.out.2.1 hG.1.1
      have a0 : wx.cell? ⟨w.heap.size,0,none⟩ = some (.int .i64 s.id):=(blk_cell kx 0).trans rfl
      have a1 : wx.cell? ⟨w.heap.size,1,none⟩ = some (.int .i64 s.n):=(blk_cell kx 1).trans rfl
      have a2 : wx.cell? ⟨w.heap.size,2,none⟩ = some (.int .i64 s.view):=(blk_cell kx 2).trans rfl
      have a3 : wx.cell? ⟨w.heap.size,3,none⟩ = some (.int .i64 s.last):=(blk_cell kx 3).trans rfl
      have a4 : wx.cell? ⟨w.heap.size,4,none⟩ = some (.int .i64 s.status):=(blk_cell kx 4).trans rfl
      have a5 : wx.cell? ⟨w.heap.size,5,none⟩ = some (.slice AL s.log.length cL):=(blk_cell kx 5).trans rfl
      have a6 : wx.cell? ⟨w.heap.size,6,none⟩ = some (.int .i64 s.commit):=(blk_cell kx 6).trans rfl
      have a7 : wx.cell? ⟨w.heap.size,7,none⟩ = some (.slice AM s.mat.length cM):=(blk_cell kx 7).trans rfl
      have a8 : wx.cell? ⟨w.heap.size,8,none⟩ = some (.slice AK s.marks.length cK):=(blk_cell kx 8).trans rfl
      have a9 : wx.cell? ⟨w.heap.size,9,none⟩ = some (.bool s.sent):=(blk_cell kx 9).trans rfl
      have a10 : wx.cell? ⟨w.heap.size,10,none⟩ = some (.slice AB bl.length cB):=(blk_cell kx 10).trans rfl
      have a11 : wx.cell? ⟨w.heap.size,11,none⟩ = some (.int .i64 s.elapsed):=(blk_cell kx 11).trans rfl
      have a12 : wx.cell? ⟨w.heap.size,12,none⟩ = some (.int .i64 s.timeout):=(blk_cell kx 12).trans rfl
      have a13 : wx.cell? ⟨w.heap.size,13,none⟩ = some (.slice AD s.draws.length cD):=(blk_cell kx 13).trans rfl
      refine wv_ (v:=.agg #[.int .i64 s.id,.int .i64 s.n,.int .i64 s.view,.int .i64 s.last,.int .i64 s.status,.slice AL s.log.length cL,.int .i64 s.commit,.slice AM s.mat.length cM,.slice AK s.marks.length cK,.bool s.sent,.slice AB bl.length cB,.int .i64 s.elapsed,.int .i64 s.timeout,.slice AD s.draws.length cD]) (by go_simp;with_reducible rfl) ?_
      exact⟨_,rfl,rfl,⟨GL.upd (by decide) (by decide) (by decide) (by decide) (by decide) hG.1,GP.same (by decide) (by decide) (by decide) (by decide) hG.2⟩⟩
    · obtain rfl:=Option.some.inj (show some _ = some o from ho)
      have e12 : u 12 = _:=hF 0 (by decide) (hn 0 (by decide)) 12 rfl
      have h3 : l 3 = false:=Bool.eq_false_iff.2 (fun h=>nomatch (hx 3 _ rfl h 1 (by decide)).symm.trans hl)
      have h4 : l 4 = false:=Bool.eq_false_iff.2 (fun h=>nomatch (hx 4 _ rfl h 1 (by decide)).symm.trans hl)
      have h6 : l 5 = false:=Bool.eq_false_iff.2 (fun h=>nomatch (hx 5 _ rfl h 4 (by decide)).symm.trans h4)
      have h66 : l 6 = false:=Bool.eq_false_iff.2 (fun h=>nomatch (hx 6 _ rfl h 5 (by decide)).symm.trans h6)
      have h10 : l 10 = false:=Bool.eq_false_iff.2 (fun h=>nomatch (hx 10 _ rfl h 6 (by decide)).symm.trans h66)
      have hBx:=HW.out.1.trans (hG.1.1.mono HW.out.1.size)
      refine wc_ Try.func10 (by kernel_rfl) rfl #[.agg #[.int .i64 s.id,.int .i64 s.n,.int .i64 s.view,.int .i64 s.last,.int .i64 s.status,.slice AL s.log.length cL,.int .i64 s.commit,.slice AM s.mat.length cM,.slice AK s.marks.length cK,.bool s.sent,.slice AB bl.length cB,.int .i64 s.elapsed,.int .i64 s.timeout,.slice AD s.draws.length cD]] rfl (by simp only [List.map_toArray,List.map_cons,List.map_nil,Act.eval];rw [← e12];rfl) ?_
      refine(undercroftlaw19_Of.calls kf s.id s.n s.view s.last s.status AL cL s.log s.commit AM cM s.mat AK cK s.marks s.sent AB cB bl s.elapsed s.timeout AD cD s.draws _ _ _ _ _ _ _ _ _ _ _ _ _ _ wx (Kd.C_below HA.out.1 hBx) HG.out.1 (Kd.C_below HA.out.2.1 hBx) HG.out.2.1 (Kd.C_below HA.out.2.2.1 hBx) HG.out.2.2.1 (Kd.C_below HA.out.2.2.2.1 hBx) HG.out.2.2.2.1 (Kd.C_below HA.out.2.2.2.2.1 hBx) HG.out.2.2.2.2.1 HO.out.1).mono ?_
      rintro e w2 ⟨v5,v7,v8,v10,v13,rfl,r5,r7,r8,r10,r13,hb2⟩
      obtain ⟨BL,dL,rfl⟩:=Kd.S_slice r5
      obtain ⟨BM,dM,rfl⟩:=Kd.R_slice r7
      obtain ⟨BK,dK,rfl⟩:=Kd.R_slice r8
      obtain ⟨BB,dB,rfl⟩:=Kd.R_slice r10
      obtain ⟨BD,dD,rfl⟩:=Kd.R_slice r13
      have hRd : Rd w2 s BL dL BM dM BK dK BB dB BD dD:=by
        refine⟨⟨(Kd.S_reads' r5).2.2,(Kd.S_reads' r5).2.1⟩,⟨(Kd.R_reads' r7).2.2,(Kd.R_reads' r7).2.1⟩,⟨(Kd.R_reads' r8).2.2,(Kd.R_reads' r8).2.1⟩,?_,⟨(Kd.R_reads' r13).2.2,(Kd.R_reads' r13).2.1⟩⟩
        rw [HO.out.2.2]
        exact⟨(Kd.R_reads' r10).2.2,(Kd.R_reads' r10).2.1⟩
      have hval : (.agg #[.int .i64 s.id,.int .i64 s.n,.int .i64 s.view,.int .i64 s.last,.int .i64 s.status,.slice BL s.log.length dL,.int .i64 s.commit,.slice BM s.mat.length dM,.slice BK s.marks.length dK,.bool s.sent,.slice BB (bl.map ofB).length dB,.int .i64 s.elapsed,.int .i64 s.timeout,.slice BD s.draws.length dD] : Value) = .agg #[.int .i64 s.id,.int .i64 s.n,.int .i64 s.view,.int .i64 s.last,.int .i64 s.status,.slice BL s.log.length dL,.int .i64 s.commit,.slice BM s.mat.length dM,.slice BK s.marks.length dK,.bool s.sent,.slice BB s.bals.length dB,.int .i64 s.elapsed,.int .i64 s.timeout,.slice BD s.draws.length dD]:=by rw [HO.out.2.2]
      rw [hval]
      exact⟨_,rfl,_,rfl,trivial,GL.more (by decide) (by decide) (by decide) (by decide) (by decide) hG.1 h4 h10 hb2,GP.of BL dL BM dM BK dK BB dB BD dD hG.2 h3 hRd⟩
    · obtain rfl:=Option.some.inj (show some _ = some o from ho)
      have kx:=blk_below HW.out.2.2 hG.1.1
      have a0 : wx.cell? ⟨w.heap.size + 1,0,none⟩ = some (.int .i64 k):=(blk_cell kx 0).trans rfl
      have a1 : wx.cell? ⟨w.heap.size + 1,1,none⟩ = some (.int .i64 x.kind):=(blk_cell kx 1).trans rfl
      have a2 : wx.cell? ⟨w.heap.size + 1,2,none⟩ = some (.int .i64 x.fro):=(blk_cell kx 2).trans rfl
      have a3 : wx.cell? ⟨w.heap.size + 1,3,none⟩ = some (.int .i64 x.dst):=(blk_cell kx 3).trans rfl
      have a4 : wx.cell? ⟨w.heap.size + 1,4,none⟩ = some (.int .i64 x.view):=(blk_cell kx 4).trans rfl
      have a5 : wx.cell? ⟨w.heap.size + 1,5,none⟩ = some (.int .i64 x.last):=(blk_cell kx 5).trans rfl
      have a6 : wx.cell? ⟨w.heap.size + 1,6,none⟩ = some (.int .i64 x.prev):=(blk_cell kx 6).trans rfl
      have a7 : wx.cell? ⟨w.heap.size + 1,7,none⟩ = some (.slice AX x.log.length cX):=(blk_cell kx 7).trans rfl
      have a8 : wx.cell? ⟨w.heap.size + 1,8,none⟩ = some (.int .i64 x.commit):=(blk_cell kx 8).trans rfl
      have a9 : wx.cell? ⟨w.heap.size + 1,9,none⟩ = some (.int .i64 x.mat):=(blk_cell kx 9).trans rfl
      have a10 : wx.cell? ⟨w.heap.size + 1,10,none⟩ = some (.slice A data.length c):=(blk_cell kx 10).trans rfl
      refine wv_ (v:=.agg #[.int .i64 k,.int .i64 x.kind,.int .i64 x.fro,.int .i64 x.dst,.int .i64 x.view,.int .i64 x.last,.int .i64 x.prev,.slice AX x.log.length cX,.int .i64 x.commit,.int .i64 x.mat,.slice A data.length c]) (by go_simp;with_reducible rfl) ?_
      exact⟨_,rfl,rfl,⟨GL.upd (by decide) (by decide) (by decide) (by decide) (by decide) hG.1,GP.same (by decide) (by decide) (by decide) (by decide) hG.2⟩⟩
    · obtain rfl:=Option.some.inj (show some _ = some o from ho)
      have e14 : u 14 = _:=hF 2 (by decide) (hn 2 (by decide)) 14 rfl
      have h4 : l 4 = false:=Bool.eq_false_iff.2 (fun h=>nomatch (hx 4 _ rfl h 3 (by decide)).symm.trans hl)
      have h6 : l 5 = false:=Bool.eq_false_iff.2 (fun h=>nomatch (hx 5 _ rfl h 4 (by decide)).symm.trans h4)
      have h66 : l 6 = false:=Bool.eq_false_iff.2 (fun h=>nomatch (hx 6 _ rfl h 5 (by decide)).symm.trans h6)
      have h10 : l 10 = false:=Bool.eq_false_iff.2 (fun h=>nomatch (hx 10 _ rfl h 6 (by decide)).symm.trans h66)
      have hBx:=HW.out.1.trans (hG.1.1.mono HW.out.1.size)
      refine wc_ Try.func11 (by kernel_rfl) rfl #[.agg #[.int .i64 k,.int .i64 x.kind,.int .i64 x.fro,.int .i64 x.dst,.int .i64 x.view,.int .i64 x.last,.int .i64 x.prev,.slice AX x.log.length cX,.int .i64 x.commit,.int .i64 x.mat,.slice A data.length c]] rfl (by simp only [List.map_toArray,List.map_cons,List.map_nil,Act.eval];rw [← e14];rfl) ?_
      refine(undercroftlaw19_OfEvent.calls kf k x.kind x.fro x.dst x.view x.last x.prev AX cX x.log x.commit x.mat A c data _ _ _ _ _ _ _ _ _ _ _ wx (Kd.C_below HA.out.2.2.2.2.2.1 hBx) HG.out.2.2.2.2.2.1 (Kd.C_below HA.out.2.2.2.2.2.2 hBx) HG.out.2.2.2.2.2.2 HO.out.2.1).mono ?_
      rintro e w2 ⟨v7,v10,rfl,r7,r10,hb2⟩
      obtain ⟨BX,dX,rfl⟩:=Kd.S_slice r7
      obtain ⟨BA,dA,rfl⟩:=Kd.R_slice r10
      exact⟨_,rfl,_,rfl,trivial,GL.more (by decide) (by decide) (by decide) (by decide) (by decide) hG.1 h4 h10 hb2,GP.ev BX dX BA dA hG.2 hb2 (Kd.S_reads' r7).2.2 (Kd.S_reads' r7).2.1 (Kd.R_reads' r10).2.2⟩
    · obtain rfl:=Option.some.inj (show some _ = some o from ho)
      obtain ⟨BL,dL,BM,dM,BK,dK,BB,dB,BD,dD,e13,hrd⟩:=hG.2.1 (hn 1 (by decide)) hl
      obtain ⟨BX,dX,BA,dA,e15,c1,c2,c3⟩:=hG.2.2 (hn 3 (by decide)) hl
      have h6 : l 5 = false:=Bool.eq_false_iff.2 (fun h=>nomatch (hx 5 _ rfl h 4 (by decide)).symm.trans hl)
      have h66 : l 6 = false:=Bool.eq_false_iff.2 (fun h=>nomatch (hx 6 _ rfl h 5 (by decide)).symm.trans h6)
      have h10 : l 10 = false:=Bool.eq_false_iff.2 (fun h=>nomatch (hx 10 _ rfl h 6 (by decide)).symm.trans h66)
      refine wc_ Try.func8 (by kernel_rfl) rfl #[.agg #[.int .i64 s.id,.int .i64 s.n,.int .i64 s.view,.int .i64 s.last,.int .i64 s.status,.slice BL s.log.length dL,.int .i64 s.commit,.slice BM s.mat.length dM,.slice BK s.marks.length dK,.bool s.sent,.slice BB s.bals.length dB,.int .i64 s.elapsed,.int .i64 s.timeout,.slice BD s.draws.length dD],.agg #[.int .i64 k,.int .i64 x.kind,.int .i64 x.fro,.int .i64 x.dst,.int .i64 x.view,.int .i64 x.last,.int .i64 x.prev,.slice BX x.log.length dX,.int .i64 x.commit,.int .i64 x.mat,.slice BA data.length dA]] rfl (by simp only [List.map_toArray,List.map_cons,List.map_nil,Act.eval];rw [← e13,← e15];rfl) ?_
      refine(Step.calls s BL dL BM dM BK dK BB dB BD dD x BX dX BA dA data k wx hrd c1 c2 c3).mono ?_
      rw [HR.out]
      intro e w2 hs
      obtain ⟨hb2,CS,mv,rfl,q1,q2,q3⟩:=StepRes_to hs
      exact⟨_,rfl,_,rfl,trivial,GL.call (LT.stays _ _ _) hG.1 h10 q1 q2 hb2 q3,GP.step⟩
    · obtain rfl:=Option.some.inj (show some _ = some o from ho)
      refine wv_ (v:=u 16) (by go_simp;with_reducible rfl) ?_
      exact⟨_,rfl,(upd_ne (by decide)).symm,⟨GL.upd (by decide) (by decide) (by decide) (by decide) (by decide) hG.1,GP.same (by decide) (by decide) (by decide) (by decide) hG.2⟩⟩
    · obtain rfl:=Option.some.inj (show some _ = some o from ho)
      obtain ⟨CS,mv,cc1,cc2,cc3,_⟩:=hG.1.2.2 (hx 5 _ rfl (hn 5 (by decide)) 4 (by decide))
      have e11 : u 11 = .tuple #[.agg CS,mv,.int .i64 (codeOf (errO R))]:=(hF 5 (by decide) (hn 5 (by decide)) 11 rfl).trans cc3
      refine wv_ (v:=.agg CS) (by go_simp;with_reducible rfl) ?_
      exact⟨_,rfl,(fun CS' mv' h=>by have h2 : Rv2 (codeOf (errO R)) CS mv = Rv2 (codeOf (errO R)) CS' mv':=cc3.symm.trans ((upd_ne (by decide)).symm.trans h);rw [(Rv2.inj h2).1]),⟨GL.upd (by decide) (by decide) (by decide) (by decide) (by decide) hG.1,GP.same (by decide) (by decide) (by decide) (by decide) hG.2⟩⟩
    · obtain rfl:=Option.some.inj (show some _ = some o from ho)
      obtain ⟨CS,mv,cc1,cc2,cc3,_⟩:=hG.1.2.2 (hx 5 _ rfl (hn 5 (by decide)) 4 (by decide))
      have e11 : u 11 = .tuple #[.agg CS,mv,.int .i64 (codeOf (errO R))]:=(hF 5 (by decide) (hn 5 (by decide)) 11 rfl).trans cc3
      refine wv_ (v:=mv) (by go_simp;with_reducible rfl) ?_
      exact⟨_,rfl,(fun CS' mv' h=>by have h2 : Rv2 (codeOf (errO R)) CS mv = Rv2 (codeOf (errO R)) CS' mv':=cc3.symm.trans ((upd_ne (by decide)).symm.trans h);rw [(Rv2.inj h2).2]),⟨GL.upd (by decide) (by decide) (by decide) (by decide) (by decide) hG.1,GP.same (by decide) (by decide) (by decide) (by decide) hG.2⟩⟩
    · obtain rfl:=Option.some.inj (show some _ = some o from ho)
      obtain ⟨CS,mv,cc1,cc2,cc3,_⟩:=hG.1.2.2 (hx 5 _ rfl (hn 5 (by decide)) 4 (by decide))
      have e11 : u 11 = .tuple #[.agg CS,mv,.int .i64 (codeOf (errO R))]:=(hF 5 (by decide) (hn 5 (by decide)) 11 rfl).trans cc3
      refine wv_ (v:=.int .i64 (codeOf (errO R))) (by go_simp;with_reducible rfl) ?_
      exact⟨_,rfl,rfl,⟨GL.upd (by decide) (by decide) (by decide) (by decide) (by decide) hG.1,GP.same (by decide) (by decide) (by decide) (by decide) hG.2⟩⟩
    · obtain rfl:=Option.some.inj (show some _ = some o from ho)
      have h10 : l 10 = false:=Bool.eq_false_iff.2 (fun h=>nomatch (hx 10 _ rfl h 9 (by decide)).symm.trans hl)
      refine wv_ (v:=.pointer (some ⟨wx.heap.size,0,none⟩)) (w1:=wx.alloc (.cells #[.int .i64 0,.int .i64 0,.int .i64 0,.int .i64 0,.int .i64 0,.slice none 0 0,.int .i64 0,.slice none 0 0,.slice none 0 0,.bool false,.slice none 0 0,.int .i64 0,.int .i64 0,.slice none 0 0] 29)) (by first|(go_simp;done)|(go_simp;with_reducible rfl)) ?_
      exact⟨_,rfl,trivial,GL.alloc (LT.stays _ _ _) hG.1 hl h10,GP.upd (by decide) (by decide) (by decide) (by decide) hG.2 (below_alloc (Below.refl _ _) _)⟩
    · obtain rfl:=Option.some.inj (show some _ = some o from ho)
      have h9:=hn 9 (by decide)
      have h6:=hn 6 (by decide)
      have h5:=hx 6 _ rfl h6 5 (by decide)
      have h4:=hx 5 _ rfl h5 4 (by decide)
      obtain ⟨CS,mv,cc1,cc2,cc3,_⟩:=hG.1.2.2 h4
      obtain ⟨g,g1,g2,g3',g4,_⟩:=hG.1.2.1 h9
      have e17 : u 17 = .agg CS:=hF 6 (by decide) h6 17 rfl CS mv cc3
      refine wp_store_row 29 (.tmp 5) (.tmp 17) rfl g CS g1 e17 29 _ (g4 hl) (by rw [cc1];kernel_rfl) cc1.symm cc2 ?_
      exact⟨undef,rfl,trivial,GL.store (LT.stays _ _ _) hG.1 h9 h4 hl g1 cc3,GP.past h4⟩
    · obtain rfl:=Option.some.inj (show some _ = some o from ho)
      obtain ⟨CS,mv,cc1,cc2,cc3,_⟩:=hG.1.2.2 (hx 5 _ rfl (hx 7 _ rfl (hn 7 (by decide)) 5 (by decide)) 4 (by decide))
      have e18 : u 18 = mv:=hF 7 (by decide) (hn 7 (by decide)) 18 rfl CS mv cc3
      refine wv_ (v:=mv) (by go_simp;with_reducible rfl) ?_
      exact⟨_,rfl,(fun CS' mv' h=>by have h2 : Rv2 (codeOf (errO R)) CS mv = Rv2 (codeOf (errO R)) CS' mv':=cc3.symm.trans ((upd_ne (by decide)).symm.trans h);rw [(Rv2.inj h2).2]),⟨GL.upd (by decide) (by decide) (by decide) (by decide) (by decide) hG.1,GP.same (by decide) (by decide) (by decide) (by decide) hG.2⟩⟩
    · obtain rfl:=Option.some.inj (show some _ = some o from ho)
      have e19 : u 19 = _:=hF 8 (by decide) (hn 8 (by decide)) 19 rfl
      refine wv_ (v:=.int .i64 (codeOf (errO R))) (by go_simp;with_reducible rfl) ?_
      exact⟨_,rfl,rfl,⟨GL.upd (by decide) (by decide) (by decide) (by decide) (by decide) hG.1,GP.same (by decide) (by decide) (by decide) (by decide) hG.2⟩⟩
    · exact absurd ho (by simp)
  case tdone =>
    intro l u wx hall hG hF
    dsimp only
    obtain ⟨CS,mv,cc1,cc2,cc3,cc4⟩:=hG.1.2.2 (hall 4 (by decide))
    obtain ⟨g,g1,g2,g3',_,g5⟩:=hG.1.2.1 (hall 9 (by decide))
    obtain ⟨CS',mv',q1,q2⟩:=g5 (hall 10 (by decide))
    obtain ⟨rfl,rfl⟩:=Rv2.inj (cc3.symm.trans q1)
    have f6 : u 6 = mv:=hF 11 (by decide) 6 rfl CS mv cc3
    have f7 : u 7 = .int .i64 (codeOf (errO R)):=hF 12 (by decide) 7 rfl
    have hB1:=hG.1.1
    have HX:=Aside0.mk (show Below w.heap.size w wx∧wx.heap[w.heap.size]? = some (.cells #[.int .i64 s.id,.int .i64 s.n,.int .i64 s.view,.int .i64 s.last,.int .i64 s.status,.slice AL s.log.length cL,.int .i64 s.commit,.slice AM s.mat.length cM,.slice AK s.marks.length cK,.bool s.sent,.slice AB bl.length cB,.int .i64 s.elapsed,.int .i64 s.timeout,.slice AD s.draws.length cD] 44 (0,0))∧wx.heap[w.heap.size + 1]? = some (.cells #[.int .i64 k,.int .i64 x.kind,.int .i64 x.fro,.int .i64 x.dst,.int .i64 x.view,.int .i64 x.last,.int .i64 x.prev,.slice AX x.log.length cX,.int .i64 x.commit,.int .i64 x.mat,.slice A data.length c] 47 (0,0))∧wx.heap[g]? = some (.cells CS 29 (0,0)) from⟨HW.out.1.trans (hB1.mono HW.out.1.size),blk_below HW.out.2.1 hB1,blk_below HW.out.2.2 hB1,q2⟩)
    have HT:=Aside0.mk ((LT.stays _ _ _).go _ _ _ _ _ (fun _=>False) cc4 (Keeps.refl _ _) (fun i hi=>hi.elim))
    rw [g1,f6,f7]
    clear hG hF hall hB1 q1 q2 g1 g2 g3' g5 cc1 cc2 cc3 cc4 f6 f7 HW
    cases R with
    | error code =>
      have hz : code ≠ 0:=HGD.out
      have b0 : (code != 0) = true:=bne_iff_ne.mpr hz
      have b1 : (code == 0) = false:=beq_eq_false_iff_ne.mpr hz
      obtain ⟨hcs,hmv⟩:=HT.out
      have HV:=Aside0.mk hcs
      rw [hmv,show codeOf (errO (Except.error code)) = code from rfl]
      clear hz hcs hmv HT
      go_wp2_with (go_at_call 9;refine(Num.calls _ _).mono ?_;rintro e w' ⟨rfl,hw'⟩;have hw':=hw'.symm;subst hw')
      go_ret
      exact⟨rfl,HX.out.1⟩
    | ok y =>
      obtain ⟨BL,dL,BM,dM,BK,dK,BB,dB,BD,dD,AO,cO,hcs,hmv,hrd⟩:=HT.out
      obtain ⟨s',out⟩:=y
      have hmv2 : mv = .slice AO out.length cO:=hmv
      rw [hmv2,show codeOf (errO (Except.ok (s',out))) = 0 from rfl]
      clear hmv2
      have kg:=HX.out.2.2.2
      rw [hcs] at kg
      have KG:=Aside0.mk (show wx.heap[g]? = some (.cells #[.int .i64 s'.id,.int .i64 s'.n,.int .i64 s'.view,.int .i64 s'.last,.int .i64 s'.status,.slice BL s'.log.length dL,.int .i64 s'.commit,.slice BM s'.mat.length dM,.slice BK s'.marks.length dK,.bool s'.sent,.slice BB s'.bals.length dB,.int .i64 s'.elapsed,.int .i64 s'.timeout,.slice BD s'.draws.length dD] 29 (0,0)) from kg)
      have HRD:=Aside0.mk (show(∀ W,Keeps wx W (fun _=>False)→Rd W s' BL dL BM dM BK dK BB dB BD dD∧kMs.C W AO out.length out) from hrd)
      have HGG:=Aside0.mk (show s'.n = s.n∧s'.id = s.id∧∀ m ∈ out,Told s' m from HGD.out)
      have HBG:=Aside0.mk (show out.length ≤ 9223372036854775807 from(hrd wx (Keeps.refl _ _)).2.2.1)
      clear hcs hmv hrd kg HT HGD
      go_upto_region 6 with (go_at_call 9;refine(Num.calls _ _).mono ?_;rintro e w' ⟨rfl,hw'⟩;have hw':=hw'.symm;subst hw')
      go_wp2_with fail
      go_loopg [8] (out.length + 1) (fun gg s8 wr=>∃ kk : Nat,s8 = .int .i64 (kk : Int)∧Aside0 (kk ≤ out.length∧out.length - kk < gg∧Below wx.heap.size wx wr))
      case atStart=>exact⟨0,rfl,⟨Nat.zero_le _,by omega,Below.refl _ _⟩⟩
      case round =>
        obtain ⟨kk,rfl,Z⟩:=hrel
        have hkw:=Keeps.of_belows Z.out.2.2 (fun _=>False)
        have HRW:=Aside0.mk (HRD.out wr hkw)
        clear hkw
        have kgw:=blk_below KG.out Z.out.2.2
        have z0 : wr.cell? ⟨g,0,none⟩ = some (.int .i64 s'.id):=(blk_cell kgw 0).trans rfl
        have z1 : wr.cell? ⟨g,1,none⟩ = some (.int .i64 s'.n):=(blk_cell kgw 1).trans rfl
        have z2 : wr.cell? ⟨g,2,none⟩ = some (.int .i64 s'.view):=(blk_cell kgw 2).trans rfl
        have KGW:=Aside0.mk kgw
        clear kgw
        by_cases hlt : kk < out.length
        · have c1 : decide ((kk : Int) < (out.length : Int)) = true:=decide_eq_true (by omega)
          obtain ⟨ad,e,m0,m1,m2,m3⟩:=at_Ms HRW.out.2 (kk : Int) (by omega) (by omega)
          cases e
          rw [Int.toNat_natCast] at m0 m1 m2 m3
          have hmem : out.getD kk zMs ∈ out:=by
            rw [List.getD_eq_getElem?_getD,List.getElem?_eq_getElem hlt]
            exact List.getElem_mem hlt
          obtain ⟨t1,t2,t3,t4,t5,t6,t7⟩:=HGG.out.2.2 _ hmem
          generalize out.getD kk zMs = ms at *
          rw [t1] at m1
          rw [t2] at m3
          have p1 : (0 ≤ (kk : Int)) = True:=eq_true (by omega)
          have p2 : ((kk : Int) < (out.length : Int)) = True:=eq_true (by omega)
          have d2 : (ms.dst == s'.id) = false:=beq_eq_false_iff_ne.mpr t5
          have d3 : decide (ms.dst < 0) = false:=decide_eq_false (by omega)
          have d4 : decide (s'.n ≤ ms.dst) = false:=decide_eq_false (by omega)
          have d5 : decide (ms.kind < 1) = false:=decide_eq_false (by omega)
          have d6 : decide (7 < ms.kind) = false:=decide_eq_false (by omega)
          have hw : wrap64 ((kk : Int) + 1) = ((kk + 1 : Nat) : Int):=by have:=HBG.out;unfold wrap64;omega
          clear t1 t2 t3 t4 t5 t6 t7 hmem
          go_upto_region 9 with (fail)
          go_quiet (fail)
          go_wp2
          rw [hw]
          obtain ⟨gg,rfl⟩ : ∃ m,gk = m + 1:=⟨gk - 1,by have:=Z.out;omega⟩
          have hZ:=Z.out
          go_roundg gg
          case measure=>omega
          case rel=>exact⟨kk + 1,rfl,⟨by omega,by omega,pw_below_drewN hZ.2.2 _⟩⟩
        · have c1 : decide ((kk : Int) < (out.length : Int)) = false:=decide_eq_false (by omega)
          have c1n : decide (kk < out.length) = false:=decide_eq_false hlt
          have k44:=blk_below HX.out.2.1 Z.out.2.2
          have k47:=blk_below HX.out.2.2.1 Z.out.2.2
          have y0 : wr.cell? ⟨w.heap.size + 1,0,none⟩ = some (.int .i64 k):=(blk_cell k47 0).trans rfl
          have y4 : wr.cell? ⟨w.heap.size + 1,4,none⟩ = some (.int .i64 x.view):=(blk_cell k47 4).trans rfl
          have a2 : wr.cell? ⟨w.heap.size,2,none⟩ = some (.int .i64 s.view):=(blk_cell k44 2).trans rfl
          have HBR:=Aside0.mk (HX.out.1.trans (Z.out.2.2.mono HX.out.1.size))
          have K44:=Aside0.mk k44
          clear k44 k47
          by_cases hk2 : k = 2
          · have b1 : (k == 2) = true:=beq_iff_eq.mpr hk2
            by_cases hv : x.view < s.view
            · have b2 : decide (x.view < s.view) = true:=decide_eq_true hv
              subst hk2
              have ho:=stepF_old hv HR.out
              injection ho with ho1 ho2
              have ho1:=ho1.symm
              subst ho1
              subst ho2
              clear hv b1
              go_upto_region 12 with (fail)
              have z3 : wr.cell? ⟨g,3,none⟩ = some (.int .i64 s.last):=(blk_cell KGW.out 3).trans rfl
              have z4 : wr.cell? ⟨g,4,none⟩ = some (.int .i64 s.status):=(blk_cell KGW.out 4).trans rfl
              have z5 : wr.cell? ⟨g,5,none⟩ = some (.slice BL s.log.length dL):=(blk_cell KGW.out 5).trans rfl
              have z6 : wr.cell? ⟨g,6,none⟩ = some (.int .i64 s.commit):=(blk_cell KGW.out 6).trans rfl
              have z7 : wr.cell? ⟨g,7,none⟩ = some (.slice BM s.mat.length dM):=(blk_cell KGW.out 7).trans rfl
              have z8 : wr.cell? ⟨g,8,none⟩ = some (.slice BK s.marks.length dK):=(blk_cell KGW.out 8).trans rfl
              have z9 : wr.cell? ⟨g,9,none⟩ = some (.bool s.sent):=(blk_cell KGW.out 9).trans rfl
              have z10 : wr.cell? ⟨g,10,none⟩ = some (.slice BB s.bals.length dB):=(blk_cell KGW.out 10).trans rfl
              have z11 : wr.cell? ⟨g,11,none⟩ = some (.int .i64 s.elapsed):=(blk_cell KGW.out 11).trans rfl
              have z12 : wr.cell? ⟨g,12,none⟩ = some (.int .i64 s.timeout):=(blk_cell KGW.out 12).trans rfl
              have z13 : wr.cell? ⟨g,13,none⟩ = some (.slice BD s.draws.length dD):=(blk_cell KGW.out 13).trans rfl
              have a0 : wr.cell? ⟨w.heap.size,0,none⟩ = some (.int .i64 s.id):=(blk_cell K44.out 0).trans rfl
              have a1 : wr.cell? ⟨w.heap.size,1,none⟩ = some (.int .i64 s.n):=(blk_cell K44.out 1).trans rfl
              have a3 : wr.cell? ⟨w.heap.size,3,none⟩ = some (.int .i64 s.last):=(blk_cell K44.out 3).trans rfl
              have a4 : wr.cell? ⟨w.heap.size,4,none⟩ = some (.int .i64 s.status):=(blk_cell K44.out 4).trans rfl
              have a5 : wr.cell? ⟨w.heap.size,5,none⟩ = some (.slice AL s.log.length cL):=(blk_cell K44.out 5).trans rfl
              have a6 : wr.cell? ⟨w.heap.size,6,none⟩ = some (.int .i64 s.commit):=(blk_cell K44.out 6).trans rfl
              have a7 : wr.cell? ⟨w.heap.size,7,none⟩ = some (.slice AM s.mat.length cM):=(blk_cell K44.out 7).trans rfl
              have a8 : wr.cell? ⟨w.heap.size,8,none⟩ = some (.slice AK s.marks.length cK):=(blk_cell K44.out 8).trans rfl
              have a9 : wr.cell? ⟨w.heap.size,9,none⟩ = some (.bool s.sent):=(blk_cell K44.out 9).trans rfl
              have a10 : wr.cell? ⟨w.heap.size,10,none⟩ = some (.slice AB bl.length cB):=(blk_cell K44.out 10).trans rfl
              have a11 : wr.cell? ⟨w.heap.size,11,none⟩ = some (.int .i64 s.elapsed):=(blk_cell K44.out 11).trans rfl
              have a12 : wr.cell? ⟨w.heap.size,12,none⟩ = some (.int .i64 s.timeout):=(blk_cell K44.out 12).trans rfl
              have a13 : wr.cell? ⟨w.heap.size,13,none⟩ = some (.slice AD s.draws.length cD):=(blk_cell K44.out 13).trans rfl
              go_wp2_with (go_at_call 12;refine(Alike.calls s bl HO.out.2.2 BL dL BM dM BK dK BB dB BD dD AL cL AM cM AK cK AB cB AD cD _ HRW.out.1 (Kd.C_below HA.out.1 HBR.out) (Kd.C_below HA.out.2.1 HBR.out) (Kd.C_below HA.out.2.2.1 HBR.out) (Kd.C_below HA.out.2.2.2.1 HBR.out) (Kd.C_below HA.out.2.2.2.2.1 HBR.out)).mono ?_;rintro e w2 ⟨rfl,hb2⟩;have HB2:=Aside0.mk hb2;clear hb2)
              go_ret
              exact⟨rfl,HBR.out.trans (HB2.out.mono HBR.out.size)⟩
            · have b2 : decide (x.view < s.view) = false:=decide_eq_false hv
              go_wp2
              go_ret
              exact⟨rfl,HBR.out⟩
          · have b1 : (k == 2) = false:=beq_eq_false_iff_ne.mpr hk2
            go_wp2
            go_ret
            exact⟨rfl,HBR.out⟩
end Go.Proofs.Ytojjnifbnppliaa.T
end
section
namespace Go.Proofs.Ytojjnifbnppliaa.T
open Go.RowKit Go.Proofs.YtojjnifbnppliaaW.PrintWords Go.Proofs.YtojjnifbnppliaaW.PrintLast Go.Proofs.YtojjnifbnppliaaW.PrintMore
attribute [local go_sem] max2_int min2_int max_two min_two max_three min_three max_four min_four
set_option linter.unusedVariables false
set_option linter.unusedSimpArgs false
open Go.Proofs.YtojjnifbnppliaaW.Fit
abbrev SR:=Int × Int × Int × Int × Int × List (List Int) × Int × List Int × List Bool × Bool × List S68 × Int × Int × List Int
def kSR : Kd SR:=Kd.iso (Kd.pair (Kd.int .i64) (Kd.pair (Kd.int .i64) (Kd.pair (Kd.int .i64) (Kd.pair (Kd.int .i64) (Kd.pair (Kd.int .i64) (Kd.pair (Kd.slice 22 (Kd.slice 5 (Kd.int .u8))) (Kd.pair (Kd.int .i64) (Kd.pair (Kd.slice 3 (Kd.int .i64)) (Kd.pair (Kd.slice 4 Kd.bool) (Kd.pair Kd.bool (Kd.pair (Kd.slice 68 k68) (Kd.pair (Kd.int .i64) (Kd.pair (Kd.int .i64) (Kd.slice 3 (Kd.int .i64))))))))))))))) (fun x=>x)
def stOf (x : SR) : St:={ id:=x.1,n:=x.2.1,view:=x.2.2.1,last:=x.2.2.2.1,status:=x.2.2.2.2.1,log:=x.2.2.2.2.2.1,commit:=x.2.2.2.2.2.2.1,mat:=x.2.2.2.2.2.2.2.1,marks:=x.2.2.2.2.2.2.2.2.1,sent:=x.2.2.2.2.2.2.2.2.2.1,bals:=(x.2.2.2.2.2.2.2.2.2.2.1).map ofB,elapsed:=x.2.2.2.2.2.2.2.2.2.2.2.1,timeout:=x.2.2.2.2.2.2.2.2.2.2.2.2.1,draws:=x.2.2.2.2.2.2.2.2.2.2.2.2.2 }
theorem kSR_open {w : World} {x : SR} {cs : List Value} (h : kSR.K w x cs) : ∃ A5 c5 A7 c7 A8 c8 A10 c10 A13 c13,cs = [.int .i64 x.1,.int .i64 x.2.1,.int .i64 x.2.2.1,.int .i64 x.2.2.2.1,.int .i64 x.2.2.2.2.1,.slice A5 x.2.2.2.2.2.1.length c5,.int .i64 x.2.2.2.2.2.2.1,.slice A7 x.2.2.2.2.2.2.2.1.length c7,.slice A8 x.2.2.2.2.2.2.2.2.1.length c8,.bool x.2.2.2.2.2.2.2.2.2.1,.slice A10 x.2.2.2.2.2.2.2.2.2.2.1.length c10,.int .i64 x.2.2.2.2.2.2.2.2.2.2.2.1,.int .i64 x.2.2.2.2.2.2.2.2.2.2.2.2.1,.slice A13 x.2.2.2.2.2.2.2.2.2.2.2.2.2.length c13]∧x.2.2.2.2.2.1.length ≤ c5∧Kd.C (Kd.slice 5 (Kd.int .u8)) w A5 x.2.2.2.2.2.1.length x.2.2.2.2.2.1∧x.2.2.2.2.2.2.2.1.length ≤ c7∧Kd.C (Kd.int .i64) w A7 x.2.2.2.2.2.2.2.1.length x.2.2.2.2.2.2.2.1∧x.2.2.2.2.2.2.2.2.1.length ≤ c8∧Kd.C (Kd.bool) w A8 x.2.2.2.2.2.2.2.2.1.length x.2.2.2.2.2.2.2.2.1∧x.2.2.2.2.2.2.2.2.2.2.1.length ≤ c10∧Kd.C (k68) w A10 x.2.2.2.2.2.2.2.2.2.2.1.length x.2.2.2.2.2.2.2.2.2.2.1∧x.2.2.2.2.2.2.2.2.2.2.2.2.2.length ≤ c13∧Kd.C (Kd.int .i64) w A13 x.2.2.2.2.2.2.2.2.2.2.2.2.2.length x.2.2.2.2.2.2.2.2.2.2.2.2.2:=by
  obtain ⟨_,_,rfl,rfl,⟨_,_,rfl,rfl,⟨_,_,rfl,rfl,⟨_,_,rfl,rfl,⟨_,_,rfl,rfl,⟨_,_,rfl,⟨A5,c5,rfl,l5,g5⟩,⟨_,_,rfl,rfl,⟨_,_,rfl,⟨A7,c7,rfl,l7,g7⟩,⟨_,_,rfl,⟨A8,c8,rfl,l8,g8⟩,⟨_,_,rfl,rfl,⟨_,_,rfl,⟨A10,c10,rfl,l10,g10⟩,⟨_,_,rfl,rfl,⟨_,_,rfl,rfl,⟨A13,c13,rfl,l13,g13⟩⟩⟩⟩⟩⟩⟩⟩⟩⟩⟩⟩⟩⟩:=h
  exact⟨A5,c5,A7,c7,A8,c8,A10,c10,A13,c13,rfl,l5,g5,l7,g7,l8,g8,l10,g10,l13,g13⟩
theorem kMs_open2 {w : World} {x : Ms} {cs : List Value} (h : kMs.K w x cs) : ∃ (A : Option Addr) (c : Nat),cs = [.int .i64 x.kind,.int .i64 x.fro,.int .i64 x.dst,.int .i64 x.view,.int .i64 x.last,.int .i64 x.prev,.slice A x.log.length c,.int .i64 x.commit,.int .i64 x.mat]∧x.log.length ≤ c∧Kd.C (Kd.slice 5 (Kd.int .u8)) w A x.log.length x.log:=by
  obtain ⟨_,_,rfl,rfl,⟨_,_,rfl,rfl,⟨_,_,rfl,rfl,⟨_,_,rfl,rfl,⟨_,_,rfl,rfl,⟨_,_,rfl,rfl,⟨_,_,rfl,⟨A,c,rfl,l,g⟩,⟨_,_,rfl,rfl,rfl⟩⟩⟩⟩⟩⟩⟩⟩:=h
  exact⟨A,c,rfl,l,g⟩
abbrev EV:=Int × Ms × List Int
def kEV : Kd EV:=Kd.iso (Kd.pair (Kd.int .i64) (Kd.pair kMs (Kd.slice 5 (Kd.int .u8)))) (fun x=>x)
theorem kEV_open {w : World} {x : EV} {cs : List Value} (h : kEV.K w x cs) : ∃ AX cX A c,cs = [.int .i64 x.1,.int .i64 x.2.1.kind,.int .i64 x.2.1.fro,.int .i64 x.2.1.dst,.int .i64 x.2.1.view,.int .i64 x.2.1.last,.int .i64 x.2.1.prev,.slice AX x.2.1.log.length cX,.int .i64 x.2.1.commit,.int .i64 x.2.1.mat,.slice A x.2.2.length c]∧x.2.1.log.length ≤ cX∧Kd.C (Kd.slice 5 (Kd.int .u8)) w AX x.2.1.log.length x.2.1.log∧x.2.2.length ≤ c∧Kd.C (Kd.int .u8) w A x.2.2.length x.2.2:=by
  obtain ⟨_,_,rfl,rfl,⟨_,_,rfl,hm,⟨A,c,rfl,l,g⟩⟩⟩:=h
  obtain ⟨AX,cX,rfl,lx,gx⟩:=kMs_open2 hm
  exact⟨AX,cX,A,c,rfl,lx,gx,l,g⟩
def SzL (l : List (List Int)) : Prop:=l.length ≤ 5864062014634∧∀ x ∈ l,x.length < 140737488355328
def SzSR (x : SR) : Prop:=SzL (x.2.2.2.2.2.1)∧(x.2.2.2.2.2.2.2.1).length < 17592186044416∧(x.2.2.2.2.2.2.2.2.1).length < 140737488355328∧((x.2.2.2.2.2.2.2.2.2.2.1).length ≤ 2932031007402∧∀ y ∈ x.2.2.2.2.2.2.2.2.2.2.1,SzL y.f2)∧(x.2.2.2.2.2.2.2.2.2.2.2.2.2).length < 17592186044416
def SzEV (x : EV) : Prop:=SzL x.2.1.log∧x.2.2.length < 140737488355328
theorem fits68 : ∃ ok : S68→Prop,Go.Proofs.YtojjnifbnppliaaW.Fit.Fits Try.prog 68 k68 ok∧∀ x,ok x→SzL x.f2:=by
  refine⟨_,fits_struct (f:=fun x : S68=>(x.f0,x.f1,x.f2,x.f3)) (fun y=>⟨y.1,y.2.1,y.2.2.1,y.2.2.2⟩) (fun _=>rfl) Try.underlying68 (by kernel_rfl) (fitsFs_cons rfl (fits_bool Try.underlying4 (by kernel_rfl)) (fitsFs_cons rfl (fits_int Try.underlying3 (by kernel_rfl)) (fitsFs_cons rfl (fits_slice (B:=24) Try.underlying25 (by kernel_rfl) (fits_slice (B:=1) Try.underlying22 (by kernel_rfl) (fits_int Try.underlying5 (by kernel_rfl)) (by kernel_rfl)) (by kernel_rfl)) (fitsFs_one rfl (fits_int Try.underlying3 (by kernel_rfl)))))),fun x h=>?_⟩
  obtain ⟨_,_,h2,_⟩:=h
  exact⟨by have:=h2.2.1;(try simp only at this);omega,fun y hy=>by have:=(h2.1 y hy).2.1;omega⟩
theorem fits45 : ∃ ok : Ms→Prop,Go.Proofs.YtojjnifbnppliaaW.Fit.Fits Try.prog 45 kMs ok∧∀ x,ok x→SzL x.log:=by
  refine⟨_,fits_struct (f:=fun x : Ms=>(x.kind,x.fro,x.dst,x.view,x.last,x.prev,x.log,x.commit,x.mat)) (fun y=>{ kind:=y.1,fro:=y.2.1,dst:=y.2.2.1,view:=y.2.2.2.1,last:=y.2.2.2.2.1,prev:=y.2.2.2.2.2.1,log:=y.2.2.2.2.2.2.1,commit:=y.2.2.2.2.2.2.2.1,mat:=y.2.2.2.2.2.2.2.2 }) (fun _=>rfl) Try.underlying45 (by kernel_rfl) (fitsFs_cons rfl (fits_int Try.underlying3 (by kernel_rfl)) (fitsFs_cons rfl (fits_int Try.underlying3 (by kernel_rfl)) (fitsFs_cons rfl (fits_int Try.underlying3 (by kernel_rfl)) (fitsFs_cons rfl (fits_int Try.underlying3 (by kernel_rfl)) (fitsFs_cons rfl (fits_int Try.underlying3 (by kernel_rfl)) (fitsFs_cons rfl (fits_int Try.underlying3 (by kernel_rfl)) (fitsFs_cons rfl (fits_slice (B:=24) Try.underlying25 (by kernel_rfl) (fits_slice (B:=1) Try.underlying22 (by kernel_rfl) (fits_int Try.underlying5 (by kernel_rfl)) (by kernel_rfl)) (by kernel_rfl)) (fitsFs_cons rfl (fits_int Try.underlying3 (by kernel_rfl)) (fitsFs_one rfl (fits_int Try.underlying3 (by kernel_rfl))))))))))),fun x h=>?_⟩
  obtain ⟨_,_,_,_,_,_,h2,_⟩:=h
  exact⟨by have:=h2.2.1;(try simp only at this);omega,fun y hy=>by have:=(h2.1 y hy).2.1;omega⟩
theorem fits47 : ∃ ok : EV→Prop,Go.Proofs.YtojjnifbnppliaaW.Fit.Fits Try.prog 47 kEV ok∧∀ x,ok x→SzEV x:=by
  refine⟨_,fits_struct (f:=fun x : EV=>x) (fun y=>y) (fun _=>rfl) Try.underlying47 (by kernel_rfl) (fitsFs_cons rfl (fits_int Try.underlying3 (by kernel_rfl)) (fitsFs_cons rfl fits45.choose_spec.1 (fitsFs_one rfl (fits_slice (B:=1) Try.underlying22 (by kernel_rfl) (fits_int Try.underlying5 (by kernel_rfl)) (by kernel_rfl))))),fun x h=>?_⟩
  obtain ⟨_,h1,h2⟩:=h
  exact⟨fits45.choose_spec.2 _ h1,by have:=h2.2.1;(try simp only at this);omega⟩
theorem fits44 : ∃ ok : SR→Prop,Go.Proofs.YtojjnifbnppliaaW.Fit.Fits Try.prog 44 kSR ok∧∀ x,ok x→SzSR x:=by
  refine⟨_,fits_struct (f:=fun x : SR=>x) (fun y=>y) (fun _=>rfl) Try.underlying44 (by kernel_rfl) (fitsFs_cons rfl (fits_int Try.underlying3 (by kernel_rfl)) (fitsFs_cons rfl (fits_int Try.underlying3 (by kernel_rfl)) (fitsFs_cons rfl (fits_int Try.underlying3 (by kernel_rfl)) (fitsFs_cons rfl (fits_int Try.underlying3 (by kernel_rfl)) (fitsFs_cons rfl (fits_int Try.underlying3 (by kernel_rfl)) (fitsFs_cons rfl (fits_slice (B:=24) Try.underlying25 (by kernel_rfl) (fits_slice (B:=1) Try.underlying22 (by kernel_rfl) (fits_int Try.underlying5 (by kernel_rfl)) (by kernel_rfl)) (by kernel_rfl)) (fitsFs_cons rfl (fits_int Try.underlying3 (by kernel_rfl)) (fitsFs_cons rfl (fits_slice (B:=8) Try.underlying23 (by kernel_rfl) (fits_int Try.underlying3 (by kernel_rfl)) (by kernel_rfl)) (fitsFs_cons rfl (fits_slice (B:=1) Try.underlying26 (by kernel_rfl) (fits_bool Try.underlying4 (by kernel_rfl)) (by kernel_rfl)) (fitsFs_cons rfl (fits_bool Try.underlying4 (by kernel_rfl)) (fitsFs_cons rfl (fits_slice (B:=48) Try.underlying42 (by kernel_rfl) fits68.choose_spec.1 (by kernel_rfl)) (fitsFs_cons rfl (fits_int Try.underlying3 (by kernel_rfl)) (fitsFs_cons rfl (fits_int Try.underlying3 (by kernel_rfl)) (fitsFs_one rfl (fits_slice (B:=8) Try.underlying23 (by kernel_rfl) (fits_int Try.underlying3 (by kernel_rfl)) (by kernel_rfl)))))))))))))))),fun x h=>?_⟩
  obtain ⟨_,_,_,_,_,h5,_,h7,h8,_,h10,_,_,h13⟩:=h
  exact⟨⟨by have:=h5.2.1;(try simp only at this);omega,fun y hy=>by have:=(h5.1 y hy).2.1;omega⟩,by have:=h7.2.1;(try simp only at this);omega,by have:=h8.2.1;(try simp only at this);omega,⟨by have:=h10.2.1;(try simp only at this);omega,fun y hy=>fits68.choose_spec.2 _ (h10.1 y hy)⟩,by have:=h13.2.1;(try simp only at this);omega⟩
theorem VrAnswersL.calls (A5 : Option Addr) (c5 : Nat) (A7 : Option Addr) (c7 : Nat) (A8 : Option Addr) (c8 : Nat) (A10 : Option Addr) (c10 : Nat) (A13 : Option Addr) (c13 : Nat) (x : SR) (AX : Option Addr) (cX : Nat) (A : Option Addr) (c : Nat) (y : EV) (r : Bool) (w : World) (h5 : Kd.C (Kd.slice 5 (Kd.int .u8)) w A5 (x.2.2.2.2.2.1).length (x.2.2.2.2.2.1)) (g5 : (x.2.2.2.2.2.1).length ≤ c5) (h7 : Kd.C (Kd.int .i64) w A7 (x.2.2.2.2.2.2.2.1).length (x.2.2.2.2.2.2.2.1)) (g7 : (x.2.2.2.2.2.2.2.1).length ≤ c7) (h8 : Kd.C (Kd.bool) w A8 (x.2.2.2.2.2.2.2.2.1).length (x.2.2.2.2.2.2.2.2.1)) (g8 : (x.2.2.2.2.2.2.2.2.1).length ≤ c8) (h10 : Kd.C (k68) w A10 (x.2.2.2.2.2.2.2.2.2.2.1).length (x.2.2.2.2.2.2.2.2.2.2.1)) (g10 : (x.2.2.2.2.2.2.2.2.2.2.1).length ≤ c10) (h13 : Kd.C (Kd.int .i64) w A13 (x.2.2.2.2.2.2.2.2.2.2.2.2.2).length (x.2.2.2.2.2.2.2.2.2.2.2.2.2)) (g13 : (x.2.2.2.2.2.2.2.2.2.2.2.2.2).length ≤ c13) (hX : Kd.C (Kd.slice 5 (Kd.int .u8)) w AX y.2.1.log.length y.2.1.log) (gX : y.2.1.log.length ≤ cX) (hA : Kd.C (Kd.int .u8) w A y.2.2.length y.2.2) (gA : y.2.2.length ≤ c) (h : SzSR x∧SzEV y∧r = true) :
    Calls Try.prog 4 #[.agg #[.int .i64 x.1,.int .i64 x.2.1,.int .i64 x.2.2.1,.int .i64 x.2.2.2.1,.int .i64 x.2.2.2.2.1,.slice A5 x.2.2.2.2.2.1.length c5,.int .i64 x.2.2.2.2.2.2.1,.slice A7 x.2.2.2.2.2.2.2.1.length c7,.slice A8 x.2.2.2.2.2.2.2.2.1.length c8,.bool x.2.2.2.2.2.2.2.2.2.1,.slice A10 x.2.2.2.2.2.2.2.2.2.2.1.length c10,.int .i64 x.2.2.2.2.2.2.2.2.2.2.2.1,.int .i64 x.2.2.2.2.2.2.2.2.2.2.2.2.1,.slice A13 x.2.2.2.2.2.2.2.2.2.2.2.2.2.length c13],.agg #[.int .i64 y.1,.int .i64 y.2.1.kind,.int .i64 y.2.1.fro,.int .i64 y.2.1.dst,.int .i64 y.2.1.view,.int .i64 y.2.1.last,.int .i64 y.2.1.prev,.slice AX y.2.1.log.length cX,.int .i64 y.2.1.commit,.int .i64 y.2.1.mat,.slice A y.2.2.length c]] w fun e w'=>e = .returned (.bool r)∧Below w.heap.size w w':=by
  obtain ⟨hs,he,rfl⟩:=h
  obtain ⟨k,hk⟩ : ∃ k : Nat,600000000000000 ≤ k:=⟨_,Nat.le_refl _⟩
  have hof:=of_f (x.1) (x.2.1) (x.2.2.1) (x.2.2.2.1) (x.2.2.2.2.1) (x.2.2.2.2.2.1) (x.2.2.2.2.2.2.1) (x.2.2.2.2.2.2.2.1) (x.2.2.2.2.2.2.2.2.1) (x.2.2.2.2.2.2.2.2.2.1) (x.2.2.2.2.2.2.2.2.2.2.1) (x.2.2.2.2.2.2.2.2.2.2.2.1) (x.2.2.2.2.2.2.2.2.2.2.2.2.1) (x.2.2.2.2.2.2.2.2.2.2.2.2.2) 5864062014635 hs.2.2.2.1.1 (fun y hy=>⟨(hs.2.2.2.1.2 y hy).1,by have:=(hs.2.2.2.1.2 y hy).1;omega,(hs.2.2.2.1.2 y hy).2⟩) hs.1.1 hs.1.2 hs.2.1 hs.2.2.1 hs.2.2.2.2 k (by have:=hs.2.2.2.1.1;omega) (by have:=hs.1.1;omega)
  have hev:=ev_f y.1 y.2.1.kind y.2.1.fro y.2.1.dst y.2.1.view y.2.1.last y.2.1.prev y.2.1.log y.2.1.commit y.2.1.mat y.2.2 he.1.1 he.1.2 he.2 k (by have:=he.1.1;omega)
  exact VrAnswers.calls (stOf x) (x.2.2.2.2.2.2.2.2.2.2.1) rfl A5 c5 A7 c7 A8 c8 A10 c10 A13 c13 y.1 y.2.1 AX cX A c y.2.2 k w h5 g5 h7 g7 h8 g8 h10 g10 h13 g13 hX gX hA gA hof hev
end Go.Proofs.Ytojjnifbnppliaa.T
namespace Go.Proofs.Ytojjnifbnppliaa.Pure
open Go.Proofs.Ytojjnifbnppliaa.T
theorem VrAnswers (x : SR) (y : EV) (h : fits44.choose x) (g : fits47.choose y) : SzSR x∧SzEV y∧true = true:=⟨fits44.choose_spec.2 x h,fits47.choose_spec.2 y g,rfl⟩
end Go.Proofs.Ytojjnifbnppliaa.Pure
end
section
namespace Go.Proofs.Ytojjnifbnppliaa.vrAnswers
open Go.ChangeShapes Go.WideShapes Go.ChangeAt Go.RowKit Go.Proofs.YtojjnifbnppliaaW.Fit Go.Proofs.YtojjnifbnppliaaW.PrintWords Go.Proofs.Ytojjnifbnppliaa.T
open Go.ChangeMaps (open_string shut_string)
set_option linter.unusedVariables false
set_option linter.unusedSimpArgs false
theorem own : ownKnob Try.prog.godebug = none:=by kernel_rfl
theorem laidOut : laidOutB Try.prog = true:=by kernel_rfl
set_option maxRecDepth 100000 in
theorem lifted (os : Os) (started : os.Started) (H : Type) (enc : TypeId × Value→H) :
    ReturnsInHanded {} Try.checked os 4 .any (Rows.vrAnswersSpec.pre6 enc Try.prog Try.f4 Rows.vrAnswersRow.domain false) (Rows.vrAnswersSpec.post enc Try.prog Try.f4 false true false false):=by
  refine returnsInHanded_of_change_sized (C:=Try.checked) own started (by kernel_rfl) Try.func4
    (ChangeSpec.witness6 (enc:=enc) (C:=Try.checked) false ⟨#[],#[.agg #[.int .i64 0,.int .i64 0,.int .i64 0,.int .i64 0,.int .i64 0,.slice none 0 0,.int .i64 0,.slice none 0 0,.slice none 0 0,.bool false,.slice none 0 0,.int .i64 0,.int .i64 0,.slice none 0 0],.agg #[.int .i64 0,.int .i64 0,.int .i64 0,.int .i64 0,.int .i64 0,.int .i64 0,.int .i64 0,.slice none 0 0,.int .i64 0,.int .i64 0,.slice none 0 0]],[]⟩ 8 (by kernel_rfl) (by kernel_rfl) (by kernel_rfl) (by kernel_rfl)) ?_
  intro W base args ds gs before hval0 hW hcnd hsz0 _
  have hsz : (DataW.weightsEach Try.prog (Try.f4.params.toList ++ Rows.vrAnswersSpec.plain.varTypes Try.prog) (ds ++ gs)).all (· ≤ reachBytes) = true:=hsz0
  have hval : ∀ (j : Nat) t v,Try.f4.params[j]? = some t→args[j]? = some v→Value.okWide Try.prog W .any base t v:=hval0
  have hW':=hW
  obtain ⟨p,q,hA0,hV,rfl,hfz,hnd⟩:=hW
  have hA : DataW.TrodAll enc Try.prog W 0 (fun _=>true) true Try.f4.params.toList args.toList ds p:=hA0
  rw [Try.params4] at hA hval hsz
  obtain ⟨v0,vs0,d0,ds0,p0,q0,hargs,rfl,rfl,h0,r0⟩:=trodAll_cons hA
  obtain ⟨v1,vs1,d1,ds1,p1,q1,rfl,rfl,rfl,h1,r1⟩:=trodAll_cons r0
  obtain ⟨rfl,rfl,rfl⟩:=trodAll_nil r1
  obtain rfl : args = #[v0,v1]:=by cases args;simp_all
  obtain ⟨rfl,rfl⟩:=trodVars_none hV
  have k0:=h0
  have lt0 : ∀ x ∈ p0,x.block < W.heap.size:=by obtain ⟨m,hm⟩:=k0;exact DataW.trod_lt m _ _ _ hm
  obtain ⟨cs0,rfl,_⟩:=okWide_struct Try.underlying44 (hval 0 44 v0 rfl rfl)
  obtain ⟨x0,hK0,w0⟩:=open_arg_struct fits44.choose_spec.1 h0 (fun n hn=>of_decide_eq_true (List.all_eq_true.1 hsz n (weight_at (j:=0) rfl rfl n hn)))
  obtain ⟨A5,c5,A7,c7,A8,c8,A10,c10,A13,c13,he0,l5,g5,l7,g7,l8,g8,l10,g10,l13,g13⟩:=kSR_open hK0
  obtain rfl : cs0 = #[.int .i64 x0.1,.int .i64 x0.2.1,.int .i64 x0.2.2.1,.int .i64 x0.2.2.2.1,.int .i64 x0.2.2.2.2.1,.slice A5 x0.2.2.2.2.2.1.length c5,.int .i64 x0.2.2.2.2.2.2.1,.slice A7 x0.2.2.2.2.2.2.2.1.length c7,.slice A8 x0.2.2.2.2.2.2.2.2.1.length c8,.bool x0.2.2.2.2.2.2.2.2.2.1,.slice A10 x0.2.2.2.2.2.2.2.2.2.2.1.length c10,.int .i64 x0.2.2.2.2.2.2.2.2.2.2.2.1,.int .i64 x0.2.2.2.2.2.2.2.2.2.2.2.2.1,.slice A13 x0.2.2.2.2.2.2.2.2.2.2.2.2.2.length c13]:=by apply Array.toList_inj.1;exact he0
  have k1:=h1
  have lt1 : ∀ x ∈ p1,x.block < W.heap.size:=by obtain ⟨m,hm⟩:=k1;exact DataW.trod_lt m _ _ _ hm
  obtain ⟨cs1,rfl,_⟩:=okWide_struct Try.underlying47 (hval 1 47 v1 rfl rfl)
  obtain ⟨x1,hK1,w1⟩:=open_arg_struct fits47.choose_spec.1 h1 (fun n hn=>of_decide_eq_true (List.all_eq_true.1 hsz n (weight_at (j:=1) rfl rfl n hn)))
  obtain ⟨AX,cX,B0,d0,he1,lX,gX,lA,gA⟩:=kEV_open hK1
  obtain rfl : cs1 = #[.int .i64 x1.1,.int .i64 x1.2.1.kind,.int .i64 x1.2.1.fro,.int .i64 x1.2.1.dst,.int .i64 x1.2.1.view,.int .i64 x1.2.1.last,.int .i64 x1.2.1.prev,.slice AX x1.2.1.log.length cX,.int .i64 x1.2.1.commit,.int .i64 x1.2.1.mat,.slice B0 x1.2.2.length d0]:=by apply Array.toList_inj.1;exact he1
  have h:=Pure.VrAnswers x0 x1 w0 w1
  clear hA0 hval0 hsz0 hsz
  refine(VrAnswersL.calls A5 c5 A7 c7 A8 c8 A10 c10 A13 c13 x0 AX cX B0 d0 x1 true W g5 l5 g7 l7 g8 l8 g10 l10 g13 l13 gX lX gA lA h).mono fun e W' ⟨he,bel0⟩=>?_
  have bel : Below W.heap.size W W':=bel0
  subst he
  exact⟨_,rfl,_,_,_,[],_,[],hW',trodAll_mk1 (shut_bool Try.underlying4 _),(trodAll_cons_mk (Below.trod laidOut (by kernel_rfl) (of_decide_eq_true (by kernel_rfl)) k0 bel lt0) (trodAll_cons_mk (Below.trod laidOut (by kernel_rfl) (of_decide_eq_true (by kernel_rfl)) k1 bel lt1) trodAll_mk0)),rfl,bel.frame _,fun h=>by cases h⟩
theorem over : Rows.vrAnswersRow.holds Try.pinned (OpenSpec.ofChange Rows.vrAnswersSpec) :=
  OpenClaim.holds_of_wide 4 Try.f4 rfl rfl rfl rfl rfl rfl rfl ⟨rfl,rfl,rfl,rfl,rfl⟩ rfl rfl rfl rfl rfl (by kernel_rfl) Try.func4 (by kernel_rfl)
    (of_decide_eq_true (by kernel_rfl)) (by unfold Func.isWrapper;first|(rw [if_pos (by decide +kernel)];kernel_rfl)|(rw [if_neg (by decide +kernel)];exact⟨rfl,rfl⟩))
    (fun os started H enc _=>lifted os started H enc)
end Go.Proofs.Ytojjnifbnppliaa.vrAnswers
namespace Go.Proofs.Ytojjnifbnppliaa
/-- The row, under a short name, for the claim. -/
theorem vrAnswers_holds : Rows.VrAnswersSaid:=vrAnswers.over
#print axioms vrAnswers_holds
end Go.Proofs.Ytojjnifbnppliaa
end
