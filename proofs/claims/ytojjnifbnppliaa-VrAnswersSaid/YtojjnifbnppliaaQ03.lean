/- State.clone. -/
import Derived.Test.YtojjnifbnppliaaQ02
namespace Go.Proofs.Ytojjnifbnppliaa.T
open Go.RowKit Go.Proofs.YtojjnifbnppliaaW.PrintWords Go.Proofs.YtojjnifbnppliaaW.PrintLast Go.Proofs.YtojjnifbnppliaaW.PrintMore
attribute [local go_sem] max2_int min2_int max_two min_two max_three min_three max_four min_four
set_option linter.unusedVariables false
set_option linter.unusedSimpArgs false
section
variable {P : Program} {ops : Array Oper} {Q : Exit→Act→World→Prop}
/-- A region that draws its order, by an invariant that may say what is not yet done. -/
theorem region_invL {id : Nat} {a0 : Act} {w0 : World} (act : (Nat→Value)→Act) (u0 : Nat→Value) (G : (Nat→Bool)→(Nat→Value)→World→Prop) (F : Nat→(Nat→Value)→World→Prop)
    (hm : P.follows .mixedOrders = true) (he : Go.Proofs.YtojjnifbnppliaaW.Ri.earlierB .any ops = true) (ha : act u0 = a0) (hG : G (fun _=>false) u0 w0.drew)
    (step : ∀ (l : Nat→Bool) (u : Nat→Value) (w : World) (i : Nat) (o : Oper),(∀ j oj,ops[j]? = some oj→l j = true→∀ m ∈ needsOf .any oj,l m = true)→G l u w→(∀ j,j < ops.size→l j = true→F j u w)→ops[i]? = some o→l i = false→(∀ j ∈ needsOf .any o,l j = true) →
      if Region.wanted o (yielded ops (act u).tmps) = true then o.wp P (act u) w (fun a' w'=>∃ u',a' = act u'∧G (fun j=>l j || j == i) u' w'∧F i u' w'∧∀ j,j < ops.size→j ≠ i→l j = true→F j u' w') Q
      else ∃ u',(act u).put o.dst undef = act u'∧G (fun j=>l j || j == i) u' w∧F i u' w∧∀ j,j < ops.size→j ≠ i→l j = true→F j u' w)
    (done : ∀ (l : Nat→Bool) (u : Nat→Value) (w : World),(∀ j,j < ops.size→l j = true)→G l u w→(∀ j,j < ops.size→F j u w)→Q .normal (act u) w) : (Code.region id ops true).wp P Q a0 w0:=by
  refine wp_region_any hm ?_
  refine Go.Proofs.YtojjnifbnppliaaW.Ri.wpAny_inv (fun l a w=>(∀ j oj,ops[j]? = some oj→l j = true→∀ m ∈ needsOf .any oj,l m = true)∧∃ u,a = act u∧G l u w∧∀ j,j < ops.size→l j = true→F j u w) he ?_ ?_ ops.size _ _ _ (by simp) ?_ ?_
  · rintro l a w i o ⟨hc,u,rfl,hG,hF⟩ ho hl hn
    have h:=step l u w i o hc hG hF ho hl hn
    have fin : ∀ a' w',(∃ u',a' = act u'∧G (fun j=>l j || j == i) u' w'∧F i u' w'∧∀ j,j < ops.size→j ≠ i→l j = true→F j u' w')→(∀ j oj,ops[j]? = some oj→(l j || j == i) = true→∀ m ∈ needsOf .any oj,(l m || m == i) = true)∧∃ u',a' = act u'∧G (fun j=>l j || j == i) u' w'∧∀ j,j < ops.size→(l j || j == i) = true→F j u' w':=by
      rintro a' w' ⟨u',h1,h2,h3,h4⟩
      refine⟨fun j oj hoj hlj m hm=>?_,u',h1,h2,fun j hj hlj=>?_⟩
      · by_cases e : j = i
        · subst e
          rw [ho] at hoj
          cases hoj
          rw [hn m hm];rfl
        · rw [hc j oj hoj (by simpa [e] using hlj) m hm];rfl
      by_cases e : j = i
      · subst e;exact h3
      · exact h4 j hj e (by simpa [e] using hlj)
    split at h
    · rename_i hw
      rw [if_pos hw]
      exact Oper.wp_mono fin h
    · rename_i hw
      rw [if_neg hw]
      exact fin _ _ h
  · rintro l a w ⟨_,u,rfl,hG,hF⟩ hall
    exact done l u w hall hG (fun j hj=>hF j hj (hall j hj))
  · unfold Go.Proofs.YtojjnifbnppliaaW.Ri.left
    exact Nat.le_trans (List.length_filter_le _ _) (by simp)
  · have hl0 : (fun j=>(Array.replicate ops.size false).getD j false) = fun _=>false:=by
      funext j
      rw [Array.getD_eq_getD_getElem?,Array.getElem?_replicate]
      split <;> rfl
    refine⟨fun j oj hoj hl=>?_,u0,ha.symm,by rw [hl0];exact hG,fun j hj hl=>?_⟩
    · have hj:=(Array.getElem?_eq_some_iff.1 hoj).1
      simp [Array.getD_eq_getD_getElem?,hj] at hl
    simp [Array.getD_eq_getD_getElem?,hj] at hl
end
theorem below_row {B g : Nat} {w0 w : World} (hb : Below B w0 w) (hBg : B ≤ g) (cs : Array Value) : Below B w0 (w.setRow g cs):=hb.trans ⟨rfl,rfl,rfl,by simp,fun k hk=>setRow_other w g k cs (by omega)⟩
def upd (u : Nat→Value) (n : Nat) (v : Value) : Nat→Value:=fun m=>if m = n then v else u m
theorem upd_ne {u : Nat→Value} {n m : Nat} {v : Value} (h : m ≠ n) : T.upd u n v m = u m:=if_neg h
theorem upd_at {u : Nat→Value} {n : Nat} {v : Value} : T.upd u n v n = v:=if_pos rfl
/-- What each operation of the region leaves. -/
def CF (W wb : World) (b : Nat) (s : St) (AL : Option Addr) (cL : Nat) (AM : Option Addr) (cM : Nat) (AK : Option Addr) (cK : Nat) (AB : Option Addr) (cB : Nat) (AD : Option Addr) (cD : Nat) (i : Nat) (u : Nat→Value) (wx : World) : Prop:=match i with
  | 0=>u 4 = .pointer (some ⟨b,5,none⟩)
  | 1=>u 5 = .slice AL s.log.length cL
  | 2=>∃ (A : Option Addr) (c : Nat),u 6 = .slice A s.log.length c∧(Kd.slice 5 (Kd.int .u8)).R 22 wx W.heap.size (fun _=>True) (u 6) s.log
  | 3=>u 7 = .pointer (some ⟨b,7,none⟩)
  | 4=>u 8 = .slice AM s.mat.length cM
  | 5=>∃ (A : Option Addr) (c : Nat),u 9 = .slice A s.mat.length c∧(Kd.int .i64).R 3 wx W.heap.size (fun _=>True) (u 9) s.mat
  | 6=>u 10 = .pointer (some ⟨b,8,none⟩)
  | 7=>u 11 = .slice AK s.marks.length cK
  | 8=>∃ (A : Option Addr) (c : Nat),u 12 = .slice A s.marks.length c∧Kd.bool.R 4 wx W.heap.size (fun _=>True) (u 12) s.marks
  | 9=>u 13 = .pointer (some ⟨b,13,none⟩)
  | 10=>u 14 = .slice AD s.draws.length cD
  | 11=>∃ (A : Option Addr) (c N : Nat),u 15 = .slice A s.draws.length c∧(Kd.int .i64).R 3 wx W.heap.size (fun k=>N ≤ k) (u 15) s.draws∧∀ k,(u 9).ownBlock = some k→k < N
  | 12=>u 16 = .pointer (some ⟨b,10,none⟩)
  | 13=>u 17 = .slice AB s.bals.length cB
  | 14=>∃ (A : Option Addr) (c : Nat) (rows : List (List Value)),u 18 = .slice A s.bals.length c∧rows.length = s.bals.length∧(∀ (j : Nat) (x : S69) (c : List Value),s.bals[j]? = some x→rows[j]? = some c→k69.K wb x c)∧(Kd.raw 4).R 69 wx W.heap.size (fun _=>True) (u 18) rows
  | 15=>u 19 = .pointer (some ⟨b,5,none⟩)
  | 17=>u 20 = .pointer (some ⟨b,7,none⟩)
  | 19=>u 21 = .pointer (some ⟨b,8,none⟩)
  | 21=>u 22 = .pointer (some ⟨b,13,none⟩)
  | 23=>u 23 = .pointer (some ⟨b,10,none⟩)
  | _=>True
theorem CF.step {W wb : World} {b : Nat} {s : St} {AL AM AK AB AD : Option Addr} {cL cM cK cB cD : Nat} {i : Nat} {u u' : Nat→Value} {wx wy : World} (hm : ∀ k,k ≠ b→k < wx.heap.size→wy.heap[k]? = wx.heap[k]?) {cs : Array Value} (hb : wx.heap[b]? = some (.cells cs 29 (0,0)))
    (hu : ∀ n,[4,5,6,7,8,9,10,11,12,13,14,15,16,17,18,19,99,20,98,21,97,22,96,23,95][i]? = some n→u' n = u n) (h9 : i = 11→u' 9 = u 9) (h : CF W wb b s AL cL AM cM AK cK AB cB AD cD i u wx) : CF W wb b s AL cL AM cM AK cK AB cB AD cD i u' wy:=by
  rcases i with _|_|_|_|_|_|_|_|_|_|_|_|_|_|_|_|_|_|_|_|_|_|_|_|_|i
  · show u' 4 = _;rw [hu 4 rfl];exact h
  · show u' 5 = _;rw [hu 5 rfl];exact h
  · obtain ⟨A,c,h1,h2⟩:=h;exact⟨A,c,by rw [hu 6 rfl];exact h1,by rw [hu 6 rfl];exact Kd.R_mono (Kd.R_step (Kd.R_types h2 hb (by decide)) (fun k hk hlt=>hm k hk.2 hlt)) (fun _ hk=>hk.1)⟩
  · show u' 7 = _;rw [hu 7 rfl];exact h
  · show u' 8 = _;rw [hu 8 rfl];exact h
  · obtain ⟨A,c,h1,h2⟩:=h;exact⟨A,c,by rw [hu 9 rfl];exact h1,by rw [hu 9 rfl];exact Kd.R_mono (Kd.R_step (Kd.R_types h2 hb (by decide)) (fun k hk hlt=>hm k hk.2 hlt)) (fun _ hk=>hk.1)⟩
  · show u' 10 = _;rw [hu 10 rfl];exact h
  · show u' 11 = _;rw [hu 11 rfl];exact h
  · obtain ⟨A,c,h1,h2⟩:=h;exact⟨A,c,by rw [hu 12 rfl];exact h1,by rw [hu 12 rfl];exact Kd.R_mono (Kd.R_step (Kd.R_types h2 hb (by decide)) (fun k hk hlt=>hm k hk.2 hlt)) (fun _ hk=>hk.1)⟩
  · show u' 13 = _;rw [hu 13 rfl];exact h
  · show u' 14 = _;rw [hu 14 rfl];exact h
  · obtain ⟨A,c,N,h1,h2,h3⟩:=h;exact⟨A,c,N,by rw [hu 15 rfl];exact h1,by rw [hu 15 rfl];exact Kd.R_mono (Kd.R_step (Kd.R_types h2 hb (by decide)) (fun k hk hlt=>hm k hk.2 hlt)) (fun _ hk=>hk.1),by rw [h9 rfl];exact h3⟩
  · show u' 16 = _;rw [hu 16 rfl];exact h
  · show u' 17 = _;rw [hu 17 rfl];exact h
  · obtain ⟨A,c,r,h1,h0,h4,h2⟩:=h;exact⟨A,c,r,by rw [hu 18 rfl];exact h1,h0,h4,by rw [hu 18 rfl];exact Kd.R_mono (Kd.R_step (Kd.R_types h2 hb (by decide)) (fun k hk hlt=>hm k hk.2 hlt)) (fun _ hk=>hk.1)⟩
  · show u' 19 = _;rw [hu 19 rfl];exact h
  · trivial
  · show u' 20 = _;rw [hu 20 rfl];exact h
  · trivial
  · show u' 21 = _;rw [hu 21 rfl];exact h
  · trivial
  · show u' 22 = _;rw [hu 22 rfl];exact h
  · trivial
  · show u' 23 = _;rw [hu 23 rfl];exact h
  · trivial
  · trivial
/-- What holds throughout: the box's cells, by what is stored already. -/
def CG (W w : World) (b : Nat) (s : St) (AL : Option Addr) (cL : Nat) (AM : Option Addr) (cM : Nat) (AK : Option Addr) (cK : Nat) (AB : Option Addr) (cB : Nat) (AD : Option Addr) (cD : Nat) (l : Nat→Bool) (u : Nat→Value) (wx : World) : Prop:=Below w.heap.size w wx∧W.heap.size ≤ wx.heap.size∧wx.heap[b + 1]? = some (.cells #[.int .i64 0,.int .i64 0,.int .i64 0,.int .i64 0,.int .i64 0,.slice none 0 0,.int .i64 0,.slice none 0 0,.slice none 0 0,.bool false,.slice none 0 0,.int .i64 0,.int .i64 0,.slice none 0 0] 29 (0,0))∧∃ v5 v7 v8 v10 v13 : Value,wx.heap[b]? = some (.cells #[.int .i64 s.id,.int .i64 s.n,.int .i64 s.view,.int .i64 s.last,.int .i64 s.status,v5,.int .i64 s.commit,v7,v8,.bool s.sent,v10,.int .i64 s.elapsed,.int .i64 s.timeout,v13] 29 (0,0))∧(l 16 = false→v5 = .slice AL s.log.length cL)∧(l 16 = true→v5 = u 6)∧(l 18 = false→v7 = .slice AM s.mat.length cM)∧(l 18 = true→v7 = u 9)∧(l 20 = false→v8 = .slice AK s.marks.length cK)∧(l 20 = true→v8 = u 12)∧(l 22 = false→v13 = .slice AD s.draws.length cD)∧(l 22 = true→v13 = u 15)∧(l 24 = false→v10 = .slice AB s.bals.length cB)∧(l 24 = true→v10 = u 18)
theorem CG.upd {W w : World} {b : Nat} {s : St} {AL AM AK AB AD : Option Addr} {cL cM cK cB cD : Nat} {l : Nat→Bool} {u : Nat→Value} {wx wy : World} {i n : Nat} {v : Value} (hi : i ≠ 16∧i ≠ 18∧i ≠ 20∧i ≠ 22∧i ≠ 24) (hb : Below wx.heap.size wx wy)
    (hn : ∀ m q,(m,q) ∈ [(16,6),(18,9),(20,12),(22,15),(24,18)]→l m = true→q ≠ n) (h : CG W w b s AL cL AM cM AK cK AB cB AD cD l u wx) : CG W w b s AL cL AM cM AK cK AB cB AD cD (fun j=>l j || j == i) (T.upd u n v) wy:=by
  obtain ⟨h1,h2,h3,v5,v7,v8,v10,v13,h4,p0,p1,p2,p3,p4,p5,p6,p7,p8,p9⟩:=h
  obtain ⟨i1,i2,i3,i4,i5⟩:=hi
  refine⟨h1.trans (hb.mono h1.size),by have:=hb.size;omega,blk_below h3 hb,v5,v7,v8,v10,v13,blk_below h4 hb,?_,?_,?_,?_,?_,?_,?_,?_,?_,?_⟩
  · intro hl;exact p0 (by simpa using (Bool.or_eq_false_iff.1 hl).1)
  · intro hl;have hl' : l 16 = true:=by simpa [Ne.symm i1] using hl
    rw [upd_ne (hn 16 6 (by decide) hl')];exact p1 hl'
  · intro hl;exact p2 (by simpa using (Bool.or_eq_false_iff.1 hl).1)
  · intro hl;have hl' : l 18 = true:=by simpa [Ne.symm i2] using hl
    rw [upd_ne (hn 18 9 (by decide) hl')];exact p3 hl'
  · intro hl;exact p4 (by simpa using (Bool.or_eq_false_iff.1 hl).1)
  · intro hl;have hl' : l 20 = true:=by simpa [Ne.symm i3] using hl
    rw [upd_ne (hn 20 12 (by decide) hl')];exact p5 hl'
  · intro hl;exact p6 (by simpa using (Bool.or_eq_false_iff.1 hl).1)
  · intro hl;have hl' : l 22 = true:=by simpa [Ne.symm i4] using hl
    rw [upd_ne (hn 22 15 (by decide) hl')];exact p7 hl'
  · intro hl;exact p8 (by simpa using (Bool.or_eq_false_iff.1 hl).1)
  · intro hl;have hl' : l 24 = true:=by simpa [Ne.symm i5] using hl
    rw [upd_ne (hn 24 18 (by decide) hl')];exact p9 hl'
theorem CG.set5 {W w : World} {b : Nat} {s : St} {AL AM AK AB AD : Option Addr} {cL cM cK cB cD : Nat} {l : Nat→Bool} {u : Nat→Value} {wx : World} (hw : w.heap.size ≤ b) (h : CG W w b s AL cL AM cM AK cK AB cB AD cD l u wx) : CG W w b s AL cL AM cM AK cK AB cB AD cD (fun j=>l j || j == 16) u (wx.setCell ⟨b,5,none⟩ (u 6)):=by
  obtain ⟨h1,h2,h3,v5,v7,v8,v10,v13,h4,p0,p1,p2,p3,p4,p5,p6,p7,p8,p9⟩:=h
  refine⟨below_set h1 hw,by simpa using h2,blk_far h3 (by show b + 1 ≠ b;omega) _,u 6,v7,v8,v10,v13,blk_put h4 5 (u 6) (cs':=#[.int .i64 s.id,.int .i64 s.n,.int .i64 s.view,.int .i64 s.last,.int .i64 s.status,u 6,.int .i64 s.commit,v7,v8,.bool s.sent,v10,.int .i64 s.elapsed,.int .i64 s.timeout,v13]) rfl,?_,?_,?_,?_,?_,?_,?_,?_,?_,?_⟩
  · intro hl;simp at hl
  · intro hl;rfl
  · intro hl;exact p2 (by simpa using hl)
  · intro hl;exact p3 (by simpa using hl)
  · intro hl;exact p4 (by simpa using hl)
  · intro hl;exact p5 (by simpa using hl)
  · intro hl;exact p6 (by simpa using hl)
  · intro hl;exact p7 (by simpa using hl)
  · intro hl;exact p8 (by simpa using hl)
  · intro hl;exact p9 (by simpa using hl)
theorem CG.set7 {W w : World} {b : Nat} {s : St} {AL AM AK AB AD : Option Addr} {cL cM cK cB cD : Nat} {l : Nat→Bool} {u : Nat→Value} {wx : World} (hw : w.heap.size ≤ b) (h : CG W w b s AL cL AM cM AK cK AB cB AD cD l u wx) : CG W w b s AL cL AM cM AK cK AB cB AD cD (fun j=>l j || j == 18) u (wx.setCell ⟨b,7,none⟩ (u 9)):=by
  obtain ⟨h1,h2,h3,v5,v7,v8,v10,v13,h4,p0,p1,p2,p3,p4,p5,p6,p7,p8,p9⟩:=h
  refine⟨below_set h1 hw,by simpa using h2,blk_far h3 (by show b + 1 ≠ b;omega) _,v5,u 9,v8,v10,v13,blk_put h4 7 (u 9) (cs':=#[.int .i64 s.id,.int .i64 s.n,.int .i64 s.view,.int .i64 s.last,.int .i64 s.status,v5,.int .i64 s.commit,u 9,v8,.bool s.sent,v10,.int .i64 s.elapsed,.int .i64 s.timeout,v13]) rfl,?_,?_,?_,?_,?_,?_,?_,?_,?_,?_⟩
  · intro hl;exact p0 (by simpa using hl)
  · intro hl;exact p1 (by simpa using hl)
  · intro hl;simp at hl
  · intro hl;rfl
  · intro hl;exact p4 (by simpa using hl)
  · intro hl;exact p5 (by simpa using hl)
  · intro hl;exact p6 (by simpa using hl)
  · intro hl;exact p7 (by simpa using hl)
  · intro hl;exact p8 (by simpa using hl)
  · intro hl;exact p9 (by simpa using hl)
theorem CG.set8 {W w : World} {b : Nat} {s : St} {AL AM AK AB AD : Option Addr} {cL cM cK cB cD : Nat} {l : Nat→Bool} {u : Nat→Value} {wx : World} (hw : w.heap.size ≤ b) (h : CG W w b s AL cL AM cM AK cK AB cB AD cD l u wx) : CG W w b s AL cL AM cM AK cK AB cB AD cD (fun j=>l j || j == 20) u (wx.setCell ⟨b,8,none⟩ (u 12)):=by
  obtain ⟨h1,h2,h3,v5,v7,v8,v10,v13,h4,p0,p1,p2,p3,p4,p5,p6,p7,p8,p9⟩:=h
  refine⟨below_set h1 hw,by simpa using h2,blk_far h3 (by show b + 1 ≠ b;omega) _,v5,v7,u 12,v10,v13,blk_put h4 8 (u 12) (cs':=#[.int .i64 s.id,.int .i64 s.n,.int .i64 s.view,.int .i64 s.last,.int .i64 s.status,v5,.int .i64 s.commit,v7,u 12,.bool s.sent,v10,.int .i64 s.elapsed,.int .i64 s.timeout,v13]) rfl,?_,?_,?_,?_,?_,?_,?_,?_,?_,?_⟩
  · intro hl;exact p0 (by simpa using hl)
  · intro hl;exact p1 (by simpa using hl)
  · intro hl;exact p2 (by simpa using hl)
  · intro hl;exact p3 (by simpa using hl)
  · intro hl;simp at hl
  · intro hl;rfl
  · intro hl;exact p6 (by simpa using hl)
  · intro hl;exact p7 (by simpa using hl)
  · intro hl;exact p8 (by simpa using hl)
  · intro hl;exact p9 (by simpa using hl)
theorem CG.set13 {W w : World} {b : Nat} {s : St} {AL AM AK AB AD : Option Addr} {cL cM cK cB cD : Nat} {l : Nat→Bool} {u : Nat→Value} {wx : World} (hw : w.heap.size ≤ b) (h : CG W w b s AL cL AM cM AK cK AB cB AD cD l u wx) : CG W w b s AL cL AM cM AK cK AB cB AD cD (fun j=>l j || j == 22) u (wx.setCell ⟨b,13,none⟩ (u 15)):=by
  obtain ⟨h1,h2,h3,v5,v7,v8,v10,v13,h4,p0,p1,p2,p3,p4,p5,p6,p7,p8,p9⟩:=h
  refine⟨below_set h1 hw,by simpa using h2,blk_far h3 (by show b + 1 ≠ b;omega) _,v5,v7,v8,v10,u 15,blk_put h4 13 (u 15) (cs':=#[.int .i64 s.id,.int .i64 s.n,.int .i64 s.view,.int .i64 s.last,.int .i64 s.status,v5,.int .i64 s.commit,v7,v8,.bool s.sent,v10,.int .i64 s.elapsed,.int .i64 s.timeout,u 15]) rfl,?_,?_,?_,?_,?_,?_,?_,?_,?_,?_⟩
  · intro hl;exact p0 (by simpa using hl)
  · intro hl;exact p1 (by simpa using hl)
  · intro hl;exact p2 (by simpa using hl)
  · intro hl;exact p3 (by simpa using hl)
  · intro hl;exact p4 (by simpa using hl)
  · intro hl;exact p5 (by simpa using hl)
  · intro hl;simp at hl
  · intro hl;rfl
  · intro hl;exact p8 (by simpa using hl)
  · intro hl;exact p9 (by simpa using hl)
theorem CG.set10 {W w : World} {b : Nat} {s : St} {AL AM AK AB AD : Option Addr} {cL cM cK cB cD : Nat} {l : Nat→Bool} {u : Nat→Value} {wx : World} (hw : w.heap.size ≤ b) (h : CG W w b s AL cL AM cM AK cK AB cB AD cD l u wx) : CG W w b s AL cL AM cM AK cK AB cB AD cD (fun j=>l j || j == 24) u (wx.setCell ⟨b,10,none⟩ (u 18)):=by
  obtain ⟨h1,h2,h3,v5,v7,v8,v10,v13,h4,p0,p1,p2,p3,p4,p5,p6,p7,p8,p9⟩:=h
  refine⟨below_set h1 hw,by simpa using h2,blk_far h3 (by show b + 1 ≠ b;omega) _,v5,v7,v8,u 18,v13,blk_put h4 10 (u 18) (cs':=#[.int .i64 s.id,.int .i64 s.n,.int .i64 s.view,.int .i64 s.last,.int .i64 s.status,v5,.int .i64 s.commit,v7,v8,.bool s.sent,u 18,.int .i64 s.elapsed,.int .i64 s.timeout,v13]) rfl,?_,?_,?_,?_,?_,?_,?_,?_,?_,?_⟩
  · intro hl;exact p0 (by simpa using hl)
  · intro hl;exact p1 (by simpa using hl)
  · intro hl;exact p2 (by simpa using hl)
  · intro hl;exact p3 (by simpa using hl)
  · intro hl;exact p4 (by simpa using hl)
  · intro hl;exact p5 (by simpa using hl)
  · intro hl;exact p6 (by simpa using hl)
  · intro hl;exact p7 (by simpa using hl)
  · intro hl;simp at hl
  · intro hl;rfl
/-- All five lists' rows are copied; the ballots' logs are still those that came. -/
def CM (W w : World) (b : Nat) (s : St) (wx : World) : Prop:=∃ (AL : Option Addr) (cL : Nat) (AM : Option Addr) (cM : Nat) (AK : Option Addr) (cK : Nat) (AB : Option Addr) (cB : Nat) (AD : Option Addr) (cD N : Nat) (rows : List (List Value)),
  Below w.heap.size w wx∧W.heap.size ≤ wx.heap.size∧wx.heap[b + 1]? = some (.cells #[.int .i64 0,.int .i64 0,.int .i64 0,.int .i64 0,.int .i64 0,.slice none 0 0,.int .i64 0,.slice none 0 0,.slice none 0 0,.bool false,.slice none 0 0,.int .i64 0,.int .i64 0,.slice none 0 0] 29 (0,0))∧wx.heap[b]? = some (.cells #[.int .i64 s.id,.int .i64 s.n,.int .i64 s.view,.int .i64 s.last,.int .i64 s.status,.slice AL s.log.length cL,.int .i64 s.commit,.slice AM s.mat.length cM,.slice AK s.marks.length cK,.bool s.sent,.slice AB s.bals.length cB,.int .i64 s.elapsed,.int .i64 s.timeout,.slice AD s.draws.length cD] 29 (0,0)) ∧
  (Kd.slice 5 (Kd.int .u8)).R 22 wx W.heap.size (fun _=>True) (.slice AL s.log.length cL) s.log∧(Kd.int .i64).R 3 wx W.heap.size (fun k=>k < N) (.slice AM s.mat.length cM) s.mat∧Kd.bool.R 4 wx W.heap.size (fun _=>True) (.slice AK s.marks.length cK) s.marks∧(Kd.int .i64).R 3 wx W.heap.size (fun k=>N ≤ k) (.slice AD s.draws.length cD) s.draws ∧
  rows.length = s.bals.length∧(∀ (j : Nat) (x : S69) (c : List Value),s.bals[j]? = some x→rows[j]? = some c→k69.K w x c)∧(Kd.raw 4).R 69 wx W.heap.size (fun _=>True) (.slice AB s.bals.length cB) rows
set_option maxHeartbeats 40000000 in
set_option maxRecDepth 100000 in
theorem State_clone.calls (s : St) (AL : Option Addr) (cL : Nat) (AM : Option Addr) (cM : Nat) (AK : Option Addr) (cK : Nat) (AB : Option Addr) (cB : Nat) (AD : Option Addr) (cD : Nat) (w : World) (hr : Rd w s AL cL AM cM AK cK AB cB AD cD) (hz : s.log.length * 24 ≤ 140737488355328∧s.mat.length * 8 < 140737488355328∧s.marks.length < 140737488355328∧s.draws.length * 8 < 140737488355328∧s.bals.length * 48 ≤ 140737488355328∧(∀ x ∈ s.log,x.length < 140737488355328)∧∀ b ∈ s.bals,b.f2.length * 24 ≤ 140737488355328∧∀ x ∈ b.f2,x.length < 140737488355328) :
    Calls Try.prog 21 #[.agg #[.int .i64 s.id,.int .i64 s.n,.int .i64 s.view,.int .i64 s.last,.int .i64 s.status,.slice AL s.log.length cL,.int .i64 s.commit,.slice AM s.mat.length cM,.slice AK s.marks.length cK,.bool s.sent,.slice AB s.bals.length cB,.int .i64 s.elapsed,.int .i64 s.timeout,.slice AD s.draws.length cD]] w fun e w'=>∃ (vL vM vK vB vD : Value) (N : Nat),e = .returned (.agg #[.int .i64 s.id,.int .i64 s.n,.int .i64 s.view,.int .i64 s.last,.int .i64 s.status,vL,.int .i64 s.commit,vM,vK,.bool s.sent,vB,.int .i64 s.elapsed,.int .i64 s.timeout,vD])∧(Kd.slice 5 (Kd.int .u8)).R 22 w' w.heap.size (fun _=>True) vL s.log∧(Kd.int .i64).R 3 w' w.heap.size (fun k=>k < N) vM s.mat∧Kd.bool.R 4 w' w.heap.size (fun _=>True) vK s.marks∧k69.R 69 w' w.heap.size (fun _=>True) vB s.bals∧(Kd.int .i64).R 3 w' w.heap.size (fun k=>N ≤ k) vD s.draws∧Below w.heap.size w w':=by
  have hu:=Try.underlying29
  have hu69:=Try.underlying69
  have HR:=Aside0.mk hr
  have HZ:=Aside0.mk hz
  clear hr hz
  go_enter Try.func21,Try.ntmps21
  go_upto_region 1 with fail
  have k1 : ((w.alloc (.cells #[.int .i64 s.id,.int .i64 s.n,.int .i64 s.view,.int .i64 s.last,.int .i64 s.status,.slice AL s.log.length cL,.int .i64 s.commit,.slice AM s.mat.length cM,.slice AK s.marks.length cK,.bool s.sent,.slice AB s.bals.length cB,.int .i64 s.elapsed,.int .i64 s.timeout,.slice AD s.draws.length cD] 29)).alloc (.cells #[.int .i64 0,.int .i64 0,.int .i64 0,.int .i64 0,.int .i64 0,.slice none 0 0,.int .i64 0,.slice none 0 0,.slice none 0 0,.bool false,.slice none 0 0,.int .i64 0,.int .i64 0,.slice none 0 0] 29)).heap[w.heap.size]? = some (.cells #[.int .i64 s.id,.int .i64 s.n,.int .i64 s.view,.int .i64 s.last,.int .i64 s.status,.slice AL s.log.length cL,.int .i64 s.commit,.slice AM s.mat.length cM,.slice AK s.marks.length cK,.bool s.sent,.slice AB s.bals.length cB,.int .i64 s.elapsed,.int .i64 s.timeout,.slice AD s.draws.length cD] 29 (0,0)):=blk_alloc (heap_alloc_new w _) _
  have k2 : ((w.alloc (.cells #[.int .i64 s.id,.int .i64 s.n,.int .i64 s.view,.int .i64 s.last,.int .i64 s.status,.slice AL s.log.length cL,.int .i64 s.commit,.slice AM s.mat.length cM,.slice AK s.marks.length cK,.bool s.sent,.slice AB s.bals.length cB,.int .i64 s.elapsed,.int .i64 s.timeout,.slice AD s.draws.length cD] 29)).alloc (.cells #[.int .i64 0,.int .i64 0,.int .i64 0,.int .i64 0,.int .i64 0,.slice none 0 0,.int .i64 0,.slice none 0 0,.slice none 0 0,.bool false,.slice none 0 0,.int .i64 0,.int .i64 0,.slice none 0 0] 29)).heap[w.heap.size + 1]? = some (.cells #[.int .i64 0,.int .i64 0,.int .i64 0,.int .i64 0,.int .i64 0,.slice none 0 0,.int .i64 0,.slice none 0 0,.slice none 0 0,.bool false,.slice none 0 0,.int .i64 0,.int .i64 0,.slice none 0 0] 29 (0,0)):=by have:=heap_alloc_new (w.alloc (.cells #[.int .i64 s.id,.int .i64 s.n,.int .i64 s.view,.int .i64 s.last,.int .i64 s.status,.slice AL s.log.length cL,.int .i64 s.commit,.slice AM s.mat.length cM,.slice AK s.marks.length cK,.bool s.sent,.slice AB s.bals.length cB,.int .i64 s.elapsed,.int .i64 s.timeout,.slice AD s.draws.length cD] 29)) (.cells #[.int .i64 0,.int .i64 0,.int .i64 0,.int .i64 0,.int .i64 0,.slice none 0 0,.int .i64 0,.slice none 0 0,.slice none 0 0,.bool false,.slice none 0 0,.int .i64 0,.int .i64 0,.slice none 0 0] 29);simpa using this
  have HB:=Aside0.mk (below_alloc (below_alloc (Below.refl w.heap.size w) (.cells #[.int .i64 s.id,.int .i64 s.n,.int .i64 s.view,.int .i64 s.last,.int .i64 s.status,.slice AL s.log.length cL,.int .i64 s.commit,.slice AM s.mat.length cM,.slice AK s.marks.length cK,.bool s.sent,.slice AB s.bals.length cB,.int .i64 s.elapsed,.int .i64 s.timeout,.slice AD s.draws.length cD] 29)) (.cells #[.int .i64 0,.int .i64 0,.int .i64 0,.int .i64 0,.int .i64 0,.slice none 0 0,.int .i64 0,.slice none 0 0,.slice none 0 0,.bool false,.slice none 0 0,.int .i64 0,.int .i64 0,.slice none 0 0] 29))
  have HZS:=Aside0.mk (show((w.alloc (.cells #[.int .i64 s.id,.int .i64 s.n,.int .i64 s.view,.int .i64 s.last,.int .i64 s.status,.slice AL s.log.length cL,.int .i64 s.commit,.slice AM s.mat.length cM,.slice AK s.marks.length cK,.bool s.sent,.slice AB s.bals.length cB,.int .i64 s.elapsed,.int .i64 s.timeout,.slice AD s.draws.length cD] 29)).alloc (.cells #[.int .i64 0,.int .i64 0,.int .i64 0,.int .i64 0,.int .i64 0,.slice none 0 0,.int .i64 0,.slice none 0 0,.slice none 0 0,.bool false,.slice none 0 0,.int .i64 0,.int .i64 0,.slice none 0 0] 29)).heap.size = w.heap.size + 2 by simp)
  generalize ((w.alloc (.cells #[.int .i64 s.id,.int .i64 s.n,.int .i64 s.view,.int .i64 s.last,.int .i64 s.status,.slice AL s.log.length cL,.int .i64 s.commit,.slice AM s.mat.length cM,.slice AK s.marks.length cK,.bool s.sent,.slice AB s.bals.length cB,.int .i64 s.elapsed,.int .i64 s.timeout,.slice AD s.draws.length cD] 29)).alloc (.cells #[.int .i64 0,.int .i64 0,.int .i64 0,.int .i64 0,.int .i64 0,.slice none 0 0,.int .i64 0,.slice none 0 0,.slice none 0 0,.bool false,.slice none 0 0,.int .i64 0,.int .i64 0,.slice none 0 0] 29)) = W at *
  have K1:=Aside0.mk k1
  have K2:=Aside0.mk k2
  clear k1 k2
  go_cut [3] (fun s3 wx=>Aside0 (CM W w w.heap.size s wx))
  case first=>as_aux_lemma =>
    have hr:=HR.out
    have hz:=HZ.out
    have hwb : w.heap.size ≤ w.heap.size:=Nat.le_refl _
    refine region_invL (fun u=>⟨#[.agg #[.int .i64 s.id,.int .i64 s.n,.int .i64 s.view,.int .i64 s.last,.int .i64 s.status,.slice AL s.log.length cL,.int .i64 s.commit,.slice AM s.mat.length cM,.slice AK s.marks.length cK,.bool s.sent,.slice AB s.bals.length cB,.int .i64 s.elapsed,.int .i64 s.timeout,.slice AD s.draws.length cD],.pointer (some ⟨w.heap.size,0,none⟩),.pointer (some ⟨w.heap.size + 1,0,none⟩),undef,u 4,u 5,u 6,u 7,u 8,u 9,u 10,u 11,u 12,u 13,u 14,u 15,u 16,u 17,u 18,u 19,u 20,u 21,u 22,u 23,undef,undef,undef,undef,undef,undef,undef,undef,undef,undef,undef,undef,undef,undef,undef,undef,undef,undef,undef,undef],[]⟩) (fun _=>undef) (CG W w w.heap.size s AL cL AM cM AK cK AB cB AD cD) (CF W w w.heap.size s AL cL AM cM AK cK AB cB AD cD) rfl (by kernel_rfl) rfl ?g0 ?step ?done
    case g0=>exact⟨below_drew HB.out,Nat.le_refl _,K2.out,_,_,_,_,_,K1.out,fun _=>rfl,(fun h=>by simp at h),fun _=>rfl,(fun h=>by simp at h),fun _=>rfl,(fun h=>by simp at h),fun _=>rfl,(fun h=>by simp at h),fun _=>rfl,(fun h=>by simp at h)⟩
    case step =>
      intro l u wx i o hx hG hF ho hl hn
      have hG0:=hG
      obtain ⟨g1,g2,g3,v5,v7,v8,v10,v13,g4,p0,p1,p2,p3,p4,p5,p6,p7,p8,p9⟩:=hG0
      rcases i with _|_|_|_|_|_|_|_|_|_|_|_|_|_|_|_|_|_|_|_|_|_|_|_|_|i
      · obtain rfl:=Option.some.inj (show some _ = some o from ho)
        refine value_ (v:=.pointer (some ⟨w.heap.size,5,none⟩)) rfl rfl (by go_simp;with_reducible rfl) ?_
        exact⟨upd u 4 (.pointer (some ⟨w.heap.size,5,none⟩)),rfl,CG.upd (by decide) (Below.refl _ _) (fun m q hmq hlm=>by simp only [List.mem_cons,Prod.mk.injEq,List.not_mem_nil,or_false] at hmq;rcases hmq with ⟨rfl,rfl⟩|⟨rfl,rfl⟩|⟨rfl,rfl⟩|⟨rfl,rfl⟩|⟨rfl,rfl⟩ <;> first|decide|(exfalso;exact absurd hlm (by simp))) hG,rfl,fun j hj hji hlj=>CF.step (fun k hk hlt=>(Below.refl wx.heap.size wx).block k hlt) g4 (fun m hm=>upd_ne (fun e=>by subst e;exact hji ((by decide : ∀ j,j < 25→∀ i,i < 25→([4,5,6,7,8,9,10,11,12,13,14,15,16,17,18,19,99,20,98,21,97,22,96,23,95] : List Nat)[j]? = ([4,5,6,7,8,9,10,11,12,13,14,15,16,17,18,19,99,20,98,21,97,22,96,23,95] : List Nat)[i]?→j = i) j hj 0 (by decide) (hm.trans rfl)))) (fun h11=>by first|exact upd_ne (by decide)|(exfalso;subst h11;exact nomatch (hx 8 _ rfl (hx 11 _ rfl hlj 8 (by decide)) 5 (by decide)).symm.trans hl)) (hF j hj hlj)⟩
      · obtain rfl:=Option.some.inj (show some _ = some o from ho)
        have e0 : u 4 = _:=hF 0 (by decide) (hn 0 (by decide))
        have hns : l 16 = false:=by cases h : l 16 with
          | false=>rfl
          | true=>exact nomatch (hx 2 _ rfl (hx 16 _ rfl h 2 (by decide)) 1 (by decide)).symm.trans hl
        have x0 : wx.cell? ⟨w.heap.size,5,none⟩ = some (.slice AL s.log.length cL):=(blk_cell g4 5).trans (congrArg some (p0 hns))
        refine value_ (v:=.slice AL s.log.length cL) rfl rfl (by go_simp;with_reducible rfl) ?_
        exact⟨upd u 5 (.slice AL s.log.length cL),rfl,CG.upd (by decide) (Below.refl _ _) (fun m q hmq hlm=>by simp only [List.mem_cons,Prod.mk.injEq,List.not_mem_nil,or_false] at hmq;rcases hmq with ⟨rfl,rfl⟩|⟨rfl,rfl⟩|⟨rfl,rfl⟩|⟨rfl,rfl⟩|⟨rfl,rfl⟩ <;> first|decide|(exfalso;exact absurd hlm (by simp))) hG,rfl,fun j hj hji hlj=>CF.step (fun k hk hlt=>(Below.refl wx.heap.size wx).block k hlt) g4 (fun m hm=>upd_ne (fun e=>by subst e;exact hji ((by decide : ∀ j,j < 25→∀ i,i < 25→([4,5,6,7,8,9,10,11,12,13,14,15,16,17,18,19,99,20,98,21,97,22,96,23,95] : List Nat)[j]? = ([4,5,6,7,8,9,10,11,12,13,14,15,16,17,18,19,99,20,98,21,97,22,96,23,95] : List Nat)[i]?→j = i) j hj 1 (by decide) (hm.trans rfl)))) (fun h11=>by first|exact upd_ne (by decide)|(exfalso;subst h11;exact nomatch (hx 8 _ rfl (hx 11 _ rfl hlj 8 (by decide)) 5 (by decide)).symm.trans hl)) (hF j hj hlj)⟩
      · obtain rfl:=Option.some.inj (show some _ = some o from ho)
        have e0 : u 5 = _:=hF 1 (by decide) (hn 1 (by decide))
        refine goes_ Try.func41 (by kernel_rfl) rfl #[.slice AL s.log.length cL] rfl rfl rfl (by simp only [List.map_toArray,List.map_cons,List.map_nil,Act.eval];rw [← e0];rfl) ?_
        refine(cloneLog.calls AL cL s.log wx (Rd.below hr g1).1.1 hz.1 hz.2.2.2.2.2.1).mono ?_
        rintro e w1 ⟨v0,rfl,hr0,hb0⟩
        obtain ⟨A3,c3,hv3⟩:=Kd.R_slice hr0
        exact⟨v0,rfl,upd u 6 v0,rfl,CG.upd (by decide) (hb0) (fun m q hmq hlm=>by simp only [List.mem_cons,Prod.mk.injEq,List.not_mem_nil,or_false] at hmq;rcases hmq with ⟨rfl,rfl⟩|⟨rfl,rfl⟩|⟨rfl,rfl⟩|⟨rfl,rfl⟩|⟨rfl,rfl⟩ <;> first|decide|(exfalso;exact nomatch (hx 16 _ rfl hlm 2 (by decide)).symm.trans hl)) hG,⟨A3,c3,hv3,Kd.R_lower hr0 g2⟩,fun j hj hji hlj=>CF.step (fun k hk hlt=>(hb0).block k hlt) g4 (fun m hm=>upd_ne (fun e=>by subst e;exact hji ((by decide : ∀ j,j < 25→∀ i,i < 25→([4,5,6,7,8,9,10,11,12,13,14,15,16,17,18,19,99,20,98,21,97,22,96,23,95] : List Nat)[j]? = ([4,5,6,7,8,9,10,11,12,13,14,15,16,17,18,19,99,20,98,21,97,22,96,23,95] : List Nat)[i]?→j = i) j hj 2 (by decide) (hm.trans rfl)))) (fun h11=>by first|exact upd_ne (by decide)|(exfalso;subst h11;exact nomatch (hx 8 _ rfl (hx 11 _ rfl hlj 8 (by decide)) 5 (by decide)).symm.trans hl)) (hF j hj hlj)⟩
      · obtain rfl:=Option.some.inj (show some _ = some o from ho)
        refine value_ (v:=.pointer (some ⟨w.heap.size,7,none⟩)) rfl rfl (by go_simp;with_reducible rfl) ?_
        exact⟨upd u 7 (.pointer (some ⟨w.heap.size,7,none⟩)),rfl,CG.upd (by decide) (Below.refl _ _) (fun m q hmq hlm=>by simp only [List.mem_cons,Prod.mk.injEq,List.not_mem_nil,or_false] at hmq;rcases hmq with ⟨rfl,rfl⟩|⟨rfl,rfl⟩|⟨rfl,rfl⟩|⟨rfl,rfl⟩|⟨rfl,rfl⟩ <;> first|decide|(exfalso;exact absurd hlm (by simp))) hG,rfl,fun j hj hji hlj=>CF.step (fun k hk hlt=>(Below.refl wx.heap.size wx).block k hlt) g4 (fun m hm=>upd_ne (fun e=>by subst e;exact hji ((by decide : ∀ j,j < 25→∀ i,i < 25→([4,5,6,7,8,9,10,11,12,13,14,15,16,17,18,19,99,20,98,21,97,22,96,23,95] : List Nat)[j]? = ([4,5,6,7,8,9,10,11,12,13,14,15,16,17,18,19,99,20,98,21,97,22,96,23,95] : List Nat)[i]?→j = i) j hj 3 (by decide) (hm.trans rfl)))) (fun h11=>by first|exact upd_ne (by decide)|(exfalso;subst h11;exact nomatch (hx 8 _ rfl (hx 11 _ rfl hlj 8 (by decide)) 5 (by decide)).symm.trans hl)) (hF j hj hlj)⟩
      · obtain rfl:=Option.some.inj (show some _ = some o from ho)
        have e0 : u 7 = _:=hF 3 (by decide) (hn 3 (by decide))
        have hns : l 18 = false:=by cases h : l 18 with
          | false=>rfl
          | true=>exact nomatch (hx 5 _ rfl (hx 18 _ rfl h 5 (by decide)) 4 (by decide)).symm.trans hl
        have x0 : wx.cell? ⟨w.heap.size,7,none⟩ = some (.slice AM s.mat.length cM):=(blk_cell g4 7).trans (congrArg some (p2 hns))
        refine value_ (v:=.slice AM s.mat.length cM) rfl rfl (by go_simp;with_reducible rfl) ?_
        exact⟨upd u 8 (.slice AM s.mat.length cM),rfl,CG.upd (by decide) (Below.refl _ _) (fun m q hmq hlm=>by simp only [List.mem_cons,Prod.mk.injEq,List.not_mem_nil,or_false] at hmq;rcases hmq with ⟨rfl,rfl⟩|⟨rfl,rfl⟩|⟨rfl,rfl⟩|⟨rfl,rfl⟩|⟨rfl,rfl⟩ <;> first|decide|(exfalso;exact absurd hlm (by simp))) hG,rfl,fun j hj hji hlj=>CF.step (fun k hk hlt=>(Below.refl wx.heap.size wx).block k hlt) g4 (fun m hm=>upd_ne (fun e=>by subst e;exact hji ((by decide : ∀ j,j < 25→∀ i,i < 25→([4,5,6,7,8,9,10,11,12,13,14,15,16,17,18,19,99,20,98,21,97,22,96,23,95] : List Nat)[j]? = ([4,5,6,7,8,9,10,11,12,13,14,15,16,17,18,19,99,20,98,21,97,22,96,23,95] : List Nat)[i]?→j = i) j hj 4 (by decide) (hm.trans rfl)))) (fun h11=>by first|exact upd_ne (by decide)|(exfalso;subst h11;exact nomatch (hx 8 _ rfl (hx 11 _ rfl hlj 8 (by decide)) 5 (by decide)).symm.trans hl)) (hF j hj hlj)⟩
      · obtain rfl:=Option.some.inj (show some _ = some o from ho)
        have e0 : u 8 = _:=hF 4 (by decide) (hn 4 (by decide))
        refine goes_ Try.func15 (by kernel_rfl) rfl #[.slice AM s.mat.length cM] rfl rfl rfl (by simp only [List.map_toArray,List.map_cons,List.map_nil,Act.eval];rw [← e0];rfl) ?_
        refine(CloneI.calls AM cM s.mat wx (Rd.below hr g1).2.1.1 hz.2.1).mono ?_
        rintro e w1 ⟨v0,rfl,hr0,hb0⟩
        obtain ⟨A3,c3,hv3⟩:=Kd.R_slice hr0
        exact⟨v0,rfl,upd u 9 v0,rfl,CG.upd (by decide) (hb0) (fun m q hmq hlm=>by simp only [List.mem_cons,Prod.mk.injEq,List.not_mem_nil,or_false] at hmq;rcases hmq with ⟨rfl,rfl⟩|⟨rfl,rfl⟩|⟨rfl,rfl⟩|⟨rfl,rfl⟩|⟨rfl,rfl⟩ <;> first|decide|(exfalso;exact nomatch (hx 18 _ rfl hlm 5 (by decide)).symm.trans hl)) hG,⟨A3,c3,hv3,Kd.R_lower hr0 g2⟩,fun j hj hji hlj=>CF.step (fun k hk hlt=>(hb0).block k hlt) g4 (fun m hm=>upd_ne (fun e=>by subst e;exact hji ((by decide : ∀ j,j < 25→∀ i,i < 25→([4,5,6,7,8,9,10,11,12,13,14,15,16,17,18,19,99,20,98,21,97,22,96,23,95] : List Nat)[j]? = ([4,5,6,7,8,9,10,11,12,13,14,15,16,17,18,19,99,20,98,21,97,22,96,23,95] : List Nat)[i]?→j = i) j hj 5 (by decide) (hm.trans rfl)))) (fun h11=>by first|exact upd_ne (by decide)|(exfalso;subst h11;exact nomatch (hx 8 _ rfl (hx 11 _ rfl hlj 8 (by decide)) 5 (by decide)).symm.trans hl)) (hF j hj hlj)⟩
      · obtain rfl:=Option.some.inj (show some _ = some o from ho)
        refine value_ (v:=.pointer (some ⟨w.heap.size,8,none⟩)) rfl rfl (by go_simp;with_reducible rfl) ?_
        exact⟨upd u 10 (.pointer (some ⟨w.heap.size,8,none⟩)),rfl,CG.upd (by decide) (Below.refl _ _) (fun m q hmq hlm=>by simp only [List.mem_cons,Prod.mk.injEq,List.not_mem_nil,or_false] at hmq;rcases hmq with ⟨rfl,rfl⟩|⟨rfl,rfl⟩|⟨rfl,rfl⟩|⟨rfl,rfl⟩|⟨rfl,rfl⟩ <;> first|decide|(exfalso;exact absurd hlm (by simp))) hG,rfl,fun j hj hji hlj=>CF.step (fun k hk hlt=>(Below.refl wx.heap.size wx).block k hlt) g4 (fun m hm=>upd_ne (fun e=>by subst e;exact hji ((by decide : ∀ j,j < 25→∀ i,i < 25→([4,5,6,7,8,9,10,11,12,13,14,15,16,17,18,19,99,20,98,21,97,22,96,23,95] : List Nat)[j]? = ([4,5,6,7,8,9,10,11,12,13,14,15,16,17,18,19,99,20,98,21,97,22,96,23,95] : List Nat)[i]?→j = i) j hj 6 (by decide) (hm.trans rfl)))) (fun h11=>by first|exact upd_ne (by decide)|(exfalso;subst h11;exact nomatch (hx 8 _ rfl (hx 11 _ rfl hlj 8 (by decide)) 5 (by decide)).symm.trans hl)) (hF j hj hlj)⟩
      · obtain rfl:=Option.some.inj (show some _ = some o from ho)
        have e0 : u 10 = _:=hF 6 (by decide) (hn 6 (by decide))
        have hns : l 20 = false:=by cases h : l 20 with
          | false=>rfl
          | true=>exact nomatch (hx 8 _ rfl (hx 20 _ rfl h 8 (by decide)) 7 (by decide)).symm.trans hl
        have x0 : wx.cell? ⟨w.heap.size,8,none⟩ = some (.slice AK s.marks.length cK):=(blk_cell g4 8).trans (congrArg some (p4 hns))
        refine value_ (v:=.slice AK s.marks.length cK) rfl rfl (by go_simp;with_reducible rfl) ?_
        exact⟨upd u 11 (.slice AK s.marks.length cK),rfl,CG.upd (by decide) (Below.refl _ _) (fun m q hmq hlm=>by simp only [List.mem_cons,Prod.mk.injEq,List.not_mem_nil,or_false] at hmq;rcases hmq with ⟨rfl,rfl⟩|⟨rfl,rfl⟩|⟨rfl,rfl⟩|⟨rfl,rfl⟩|⟨rfl,rfl⟩ <;> first|decide|(exfalso;exact absurd hlm (by simp))) hG,rfl,fun j hj hji hlj=>CF.step (fun k hk hlt=>(Below.refl wx.heap.size wx).block k hlt) g4 (fun m hm=>upd_ne (fun e=>by subst e;exact hji ((by decide : ∀ j,j < 25→∀ i,i < 25→([4,5,6,7,8,9,10,11,12,13,14,15,16,17,18,19,99,20,98,21,97,22,96,23,95] : List Nat)[j]? = ([4,5,6,7,8,9,10,11,12,13,14,15,16,17,18,19,99,20,98,21,97,22,96,23,95] : List Nat)[i]?→j = i) j hj 7 (by decide) (hm.trans rfl)))) (fun h11=>by first|exact upd_ne (by decide)|(exfalso;subst h11;exact nomatch (hx 8 _ rfl (hx 11 _ rfl hlj 8 (by decide)) 5 (by decide)).symm.trans hl)) (hF j hj hlj)⟩
      · obtain rfl:=Option.some.inj (show some _ = some o from ho)
        have e0 : u 11 = _:=hF 7 (by decide) (hn 7 (by decide))
        refine goes_ Try.func42 (by kernel_rfl) rfl #[.slice AK s.marks.length cK] rfl rfl rfl (by simp only [List.map_toArray,List.map_cons,List.map_nil,Act.eval];rw [← e0];rfl) ?_
        refine(CloneB.calls AK cK s.marks wx (Rd.below hr g1).2.2.1.1 hz.2.2.1).mono ?_
        rintro e w1 ⟨v0,rfl,hr0,hb0⟩
        obtain ⟨A3,c3,hv3⟩:=Kd.R_slice hr0
        exact⟨v0,rfl,upd u 12 v0,rfl,CG.upd (by decide) (hb0) (fun m q hmq hlm=>by simp only [List.mem_cons,Prod.mk.injEq,List.not_mem_nil,or_false] at hmq;rcases hmq with ⟨rfl,rfl⟩|⟨rfl,rfl⟩|⟨rfl,rfl⟩|⟨rfl,rfl⟩|⟨rfl,rfl⟩ <;> first|decide|(exfalso;exact nomatch (hx 20 _ rfl hlm 8 (by decide)).symm.trans hl)) hG,⟨A3,c3,hv3,Kd.R_lower hr0 g2⟩,fun j hj hji hlj=>CF.step (fun k hk hlt=>(hb0).block k hlt) g4 (fun m hm=>upd_ne (fun e=>by subst e;exact hji ((by decide : ∀ j,j < 25→∀ i,i < 25→([4,5,6,7,8,9,10,11,12,13,14,15,16,17,18,19,99,20,98,21,97,22,96,23,95] : List Nat)[j]? = ([4,5,6,7,8,9,10,11,12,13,14,15,16,17,18,19,99,20,98,21,97,22,96,23,95] : List Nat)[i]?→j = i) j hj 8 (by decide) (hm.trans rfl)))) (fun h11=>by first|exact upd_ne (by decide)|(exfalso;subst h11;exact nomatch (hx 8 _ rfl (hx 11 _ rfl hlj 8 (by decide)) 5 (by decide)).symm.trans hl)) (hF j hj hlj)⟩
      · obtain rfl:=Option.some.inj (show some _ = some o from ho)
        refine value_ (v:=.pointer (some ⟨w.heap.size,13,none⟩)) rfl rfl (by go_simp;with_reducible rfl) ?_
        exact⟨upd u 13 (.pointer (some ⟨w.heap.size,13,none⟩)),rfl,CG.upd (by decide) (Below.refl _ _) (fun m q hmq hlm=>by simp only [List.mem_cons,Prod.mk.injEq,List.not_mem_nil,or_false] at hmq;rcases hmq with ⟨rfl,rfl⟩|⟨rfl,rfl⟩|⟨rfl,rfl⟩|⟨rfl,rfl⟩|⟨rfl,rfl⟩ <;> first|decide|(exfalso;exact absurd hlm (by simp))) hG,rfl,fun j hj hji hlj=>CF.step (fun k hk hlt=>(Below.refl wx.heap.size wx).block k hlt) g4 (fun m hm=>upd_ne (fun e=>by subst e;exact hji ((by decide : ∀ j,j < 25→∀ i,i < 25→([4,5,6,7,8,9,10,11,12,13,14,15,16,17,18,19,99,20,98,21,97,22,96,23,95] : List Nat)[j]? = ([4,5,6,7,8,9,10,11,12,13,14,15,16,17,18,19,99,20,98,21,97,22,96,23,95] : List Nat)[i]?→j = i) j hj 9 (by decide) (hm.trans rfl)))) (fun h11=>by first|exact upd_ne (by decide)|(exfalso;subst h11;exact nomatch (hx 8 _ rfl (hx 11 _ rfl hlj 8 (by decide)) 5 (by decide)).symm.trans hl)) (hF j hj hlj)⟩
      · obtain rfl:=Option.some.inj (show some _ = some o from ho)
        have e0 : u 13 = _:=hF 9 (by decide) (hn 9 (by decide))
        have hns : l 22 = false:=by cases h : l 22 with
          | false=>rfl
          | true=>exact nomatch (hx 11 _ rfl (hx 22 _ rfl h 11 (by decide)) 10 (by decide)).symm.trans hl
        have x0 : wx.cell? ⟨w.heap.size,13,none⟩ = some (.slice AD s.draws.length cD):=(blk_cell g4 13).trans (congrArg some (p6 hns))
        refine value_ (v:=.slice AD s.draws.length cD) rfl rfl (by go_simp;with_reducible rfl) ?_
        exact⟨upd u 14 (.slice AD s.draws.length cD),rfl,CG.upd (by decide) (Below.refl _ _) (fun m q hmq hlm=>by simp only [List.mem_cons,Prod.mk.injEq,List.not_mem_nil,or_false] at hmq;rcases hmq with ⟨rfl,rfl⟩|⟨rfl,rfl⟩|⟨rfl,rfl⟩|⟨rfl,rfl⟩|⟨rfl,rfl⟩ <;> first|decide|(exfalso;exact absurd hlm (by simp))) hG,rfl,fun j hj hji hlj=>CF.step (fun k hk hlt=>(Below.refl wx.heap.size wx).block k hlt) g4 (fun m hm=>upd_ne (fun e=>by subst e;exact hji ((by decide : ∀ j,j < 25→∀ i,i < 25→([4,5,6,7,8,9,10,11,12,13,14,15,16,17,18,19,99,20,98,21,97,22,96,23,95] : List Nat)[j]? = ([4,5,6,7,8,9,10,11,12,13,14,15,16,17,18,19,99,20,98,21,97,22,96,23,95] : List Nat)[i]?→j = i) j hj 10 (by decide) (hm.trans rfl)))) (fun h11=>by first|exact upd_ne (by decide)|(exfalso;subst h11;exact nomatch (hx 8 _ rfl (hx 11 _ rfl hlj 8 (by decide)) 5 (by decide)).symm.trans hl)) (hF j hj hlj)⟩
      · obtain rfl:=Option.some.inj (show some _ = some o from ho)
        have e0 : u 14 = _:=hF 10 (by decide) (hn 10 (by decide))
        refine goes_ Try.func15 (by kernel_rfl) rfl #[.slice AD s.draws.length cD] rfl rfl rfl (by simp only [List.map_toArray,List.map_cons,List.map_nil,Act.eval];rw [← e0];rfl) ?_
        refine(CloneI.calls AD cD s.draws wx (Rd.below hr g1).2.2.2.2.1 hz.2.2.2.1).mono ?_
        rintro e w1 ⟨v0,rfl,hr0,hb0⟩
        obtain ⟨A3,c3,hv3⟩:=Kd.R_slice hr0
        obtain ⟨A9,c9,e9,r9⟩:=hF 5 (by decide) (hx 8 _ rfl (hn 8 (by decide)) 5 (by decide))
        have hr9 : (Kd.int .i64).R 3 w1 W.heap.size (fun k=>wx.heap.size ≤ k) v0 s.draws:=Kd.R_lower (Kd.R_mono (Kd.R_bound hr0) (fun _ hk=>hk.2.1)) g2
        exact⟨v0,rfl,upd u 15 v0,rfl,CG.upd (by decide) (hb0) (fun m q hmq hlm=>by simp only [List.mem_cons,Prod.mk.injEq,List.not_mem_nil,or_false] at hmq;rcases hmq with ⟨rfl,rfl⟩|⟨rfl,rfl⟩|⟨rfl,rfl⟩|⟨rfl,rfl⟩|⟨rfl,rfl⟩ <;> first|decide|(exfalso;exact nomatch (hx 22 _ rfl hlm 11 (by decide)).symm.trans hl)) hG,⟨A3,c3,wx.heap.size,hv3,hr9,fun k hk=>Kd.R_lt r9 k (by rw [upd_ne (by decide)] at hk;exact hk)⟩,fun j hj hji hlj=>CF.step (fun k hk hlt=>(hb0).block k hlt) g4 (fun m hm=>upd_ne (fun e=>by subst e;exact hji ((by decide : ∀ j,j < 25→∀ i,i < 25→([4,5,6,7,8,9,10,11,12,13,14,15,16,17,18,19,99,20,98,21,97,22,96,23,95] : List Nat)[j]? = ([4,5,6,7,8,9,10,11,12,13,14,15,16,17,18,19,99,20,98,21,97,22,96,23,95] : List Nat)[i]?→j = i) j hj 11 (by decide) (hm.trans rfl)))) (fun h11=>by first|exact upd_ne (by decide)|(exfalso;subst h11;exact nomatch (hx 8 _ rfl (hx 11 _ rfl hlj 8 (by decide)) 5 (by decide)).symm.trans hl)) (hF j hj hlj)⟩
      · obtain rfl:=Option.some.inj (show some _ = some o from ho)
        refine value_ (v:=.pointer (some ⟨w.heap.size,10,none⟩)) rfl rfl (by go_simp;with_reducible rfl) ?_
        exact⟨upd u 16 (.pointer (some ⟨w.heap.size,10,none⟩)),rfl,CG.upd (by decide) (Below.refl _ _) (fun m q hmq hlm=>by simp only [List.mem_cons,Prod.mk.injEq,List.not_mem_nil,or_false] at hmq;rcases hmq with ⟨rfl,rfl⟩|⟨rfl,rfl⟩|⟨rfl,rfl⟩|⟨rfl,rfl⟩|⟨rfl,rfl⟩ <;> first|decide|(exfalso;exact absurd hlm (by simp))) hG,rfl,fun j hj hji hlj=>CF.step (fun k hk hlt=>(Below.refl wx.heap.size wx).block k hlt) g4 (fun m hm=>upd_ne (fun e=>by subst e;exact hji ((by decide : ∀ j,j < 25→∀ i,i < 25→([4,5,6,7,8,9,10,11,12,13,14,15,16,17,18,19,99,20,98,21,97,22,96,23,95] : List Nat)[j]? = ([4,5,6,7,8,9,10,11,12,13,14,15,16,17,18,19,99,20,98,21,97,22,96,23,95] : List Nat)[i]?→j = i) j hj 12 (by decide) (hm.trans rfl)))) (fun h11=>by first|exact upd_ne (by decide)|(exfalso;subst h11;exact nomatch (hx 8 _ rfl (hx 11 _ rfl hlj 8 (by decide)) 5 (by decide)).symm.trans hl)) (hF j hj hlj)⟩
      · obtain rfl:=Option.some.inj (show some _ = some o from ho)
        have e0 : u 16 = _:=hF 12 (by decide) (hn 12 (by decide))
        have hns : l 24 = false:=by cases h : l 24 with
          | false=>rfl
          | true=>exact nomatch (hx 14 _ rfl (hx 24 _ rfl h 14 (by decide)) 13 (by decide)).symm.trans hl
        have x0 : wx.cell? ⟨w.heap.size,10,none⟩ = some (.slice AB s.bals.length cB):=(blk_cell g4 10).trans (congrArg some (p8 hns))
        refine value_ (v:=.slice AB s.bals.length cB) rfl rfl (by go_simp;with_reducible rfl) ?_
        exact⟨upd u 17 (.slice AB s.bals.length cB),rfl,CG.upd (by decide) (Below.refl _ _) (fun m q hmq hlm=>by simp only [List.mem_cons,Prod.mk.injEq,List.not_mem_nil,or_false] at hmq;rcases hmq with ⟨rfl,rfl⟩|⟨rfl,rfl⟩|⟨rfl,rfl⟩|⟨rfl,rfl⟩|⟨rfl,rfl⟩ <;> first|decide|(exfalso;exact absurd hlm (by simp))) hG,rfl,fun j hj hji hlj=>CF.step (fun k hk hlt=>(Below.refl wx.heap.size wx).block k hlt) g4 (fun m hm=>upd_ne (fun e=>by subst e;exact hji ((by decide : ∀ j,j < 25→∀ i,i < 25→([4,5,6,7,8,9,10,11,12,13,14,15,16,17,18,19,99,20,98,21,97,22,96,23,95] : List Nat)[j]? = ([4,5,6,7,8,9,10,11,12,13,14,15,16,17,18,19,99,20,98,21,97,22,96,23,95] : List Nat)[i]?→j = i) j hj 13 (by decide) (hm.trans rfl)))) (fun h11=>by first|exact upd_ne (by decide)|(exfalso;subst h11;exact nomatch (hx 8 _ rfl (hx 11 _ rfl hlj 8 (by decide)) 5 (by decide)).symm.trans hl)) (hF j hj hlj)⟩
      · obtain rfl:=Option.some.inj (show some _ = some o from ho)
        have e0 : u 17 = _:=hF 13 (by decide) (hn 13 (by decide))
        refine goes_ Try.func43 (by kernel_rfl) rfl #[.slice AB s.bals.length cB] rfl rfl rfl (by simp only [List.map_toArray,List.map_cons,List.map_nil,Act.eval];rw [← e0];rfl) ?_
        refine(CloneW.calls AB cB s.bals w wx g1 hr.2.2.2.1.1 hz.2.2.2.2.1).mono ?_
        rintro e w1 ⟨v0,rows0,rfl,hrl,hrk,hr0,hb0⟩
        obtain ⟨A3,c3,hv3⟩:=Kd.R_slice hr0
        exact⟨v0,rfl,upd u 18 v0,rfl,CG.upd (by decide) (hb0) (fun m q hmq hlm=>by simp only [List.mem_cons,Prod.mk.injEq,List.not_mem_nil,or_false] at hmq;rcases hmq with ⟨rfl,rfl⟩|⟨rfl,rfl⟩|⟨rfl,rfl⟩|⟨rfl,rfl⟩|⟨rfl,rfl⟩ <;> first|decide|(exfalso;exact nomatch (hx 24 _ rfl hlm 14 (by decide)).symm.trans hl)) hG,⟨A3,c3,rows0,by rw [hrl] at hv3;exact hv3,hrl,hrk,Kd.R_lower hr0 g2⟩,fun j hj hji hlj=>CF.step (fun k hk hlt=>(hb0).block k hlt) g4 (fun m hm=>upd_ne (fun e=>by subst e;exact hji ((by decide : ∀ j,j < 25→∀ i,i < 25→([4,5,6,7,8,9,10,11,12,13,14,15,16,17,18,19,99,20,98,21,97,22,96,23,95] : List Nat)[j]? = ([4,5,6,7,8,9,10,11,12,13,14,15,16,17,18,19,99,20,98,21,97,22,96,23,95] : List Nat)[i]?→j = i) j hj 14 (by decide) (hm.trans rfl)))) (fun h11=>by first|exact upd_ne (by decide)|(exfalso;subst h11;exact nomatch (hx 8 _ rfl (hx 11 _ rfl hlj 8 (by decide)) 5 (by decide)).symm.trans hl)) (hF j hj hlj)⟩
      · obtain rfl:=Option.some.inj (show some _ = some o from ho)
        refine value_ (v:=.pointer (some ⟨w.heap.size,5,none⟩)) rfl rfl (by go_simp;with_reducible rfl) ?_
        exact⟨upd u 19 (.pointer (some ⟨w.heap.size,5,none⟩)),rfl,CG.upd (by decide) (Below.refl _ _) (fun m q hmq hlm=>by simp only [List.mem_cons,Prod.mk.injEq,List.not_mem_nil,or_false] at hmq;rcases hmq with ⟨rfl,rfl⟩|⟨rfl,rfl⟩|⟨rfl,rfl⟩|⟨rfl,rfl⟩|⟨rfl,rfl⟩ <;> first|decide|(exfalso;exact absurd hlm (by simp))) hG,rfl,fun j hj hji hlj=>CF.step (fun k hk hlt=>(Below.refl wx.heap.size wx).block k hlt) g4 (fun m hm=>upd_ne (fun e=>by subst e;exact hji ((by decide : ∀ j,j < 25→∀ i,i < 25→([4,5,6,7,8,9,10,11,12,13,14,15,16,17,18,19,99,20,98,21,97,22,96,23,95] : List Nat)[j]? = ([4,5,6,7,8,9,10,11,12,13,14,15,16,17,18,19,99,20,98,21,97,22,96,23,95] : List Nat)[i]?→j = i) j hj 15 (by decide) (hm.trans rfl)))) (fun h11=>by first|exact upd_ne (by decide)|(exfalso;subst h11;exact nomatch (hx 8 _ rfl (hx 11 _ rfl hlj 8 (by decide)) 5 (by decide)).symm.trans hl)) (hF j hj hlj)⟩
      · obtain rfl:=Option.some.inj (show some _ = some o from ho)
        have e0 : u 19 = _:=hF 15 (by decide) (hn 15 (by decide))
        have z0 : wx.cell? ⟨w.heap.size,5,none⟩ = some v5:=(blk_cell g4 5).trans rfl
        have z1:=blk_frozen g4 5
        have hone : ∃ A n c,u 6 = .slice A n c:=by obtain ⟨A,c,h⟩:=hF 2 (by decide) (hn 2 (by decide));exact⟨A,_,c,h.1⟩
        obtain ⟨Aq,nq,cq,eq⟩:=hone
        have hs:=CG.set5 hwb hG
        rw [eq] at hs
        refine skip_ (w1:=wx.setCell ⟨w.heap.size,5,none⟩ (.slice Aq nq cq)) rfl rfl (by first|(go_simp;done)|(go_simp;with_reducible rfl)) ?_
        exact⟨u,rfl,hs,trivial,fun j hj hji hlj=>CF.step (fun k hk _=>Below.heap_setCell wx _ _ k hk) g4 (fun _ _=>rfl) (fun _=>rfl) (hF j hj hlj)⟩
      · obtain rfl:=Option.some.inj (show some _ = some o from ho)
        refine value_ (v:=.pointer (some ⟨w.heap.size,7,none⟩)) rfl rfl (by go_simp;with_reducible rfl) ?_
        exact⟨upd u 20 (.pointer (some ⟨w.heap.size,7,none⟩)),rfl,CG.upd (by decide) (Below.refl _ _) (fun m q hmq hlm=>by simp only [List.mem_cons,Prod.mk.injEq,List.not_mem_nil,or_false] at hmq;rcases hmq with ⟨rfl,rfl⟩|⟨rfl,rfl⟩|⟨rfl,rfl⟩|⟨rfl,rfl⟩|⟨rfl,rfl⟩ <;> first|decide|(exfalso;exact absurd hlm (by simp))) hG,rfl,fun j hj hji hlj=>CF.step (fun k hk hlt=>(Below.refl wx.heap.size wx).block k hlt) g4 (fun m hm=>upd_ne (fun e=>by subst e;exact hji ((by decide : ∀ j,j < 25→∀ i,i < 25→([4,5,6,7,8,9,10,11,12,13,14,15,16,17,18,19,99,20,98,21,97,22,96,23,95] : List Nat)[j]? = ([4,5,6,7,8,9,10,11,12,13,14,15,16,17,18,19,99,20,98,21,97,22,96,23,95] : List Nat)[i]?→j = i) j hj 17 (by decide) (hm.trans rfl)))) (fun h11=>by first|exact upd_ne (by decide)|(exfalso;subst h11;exact nomatch (hx 8 _ rfl (hx 11 _ rfl hlj 8 (by decide)) 5 (by decide)).symm.trans hl)) (hF j hj hlj)⟩
      · obtain rfl:=Option.some.inj (show some _ = some o from ho)
        have e0 : u 20 = _:=hF 17 (by decide) (hn 17 (by decide))
        have z0 : wx.cell? ⟨w.heap.size,7,none⟩ = some v7:=(blk_cell g4 7).trans rfl
        have z1:=blk_frozen g4 7
        have hone : ∃ A n c,u 9 = .slice A n c:=by obtain ⟨A,c,h⟩:=hF 5 (by decide) (hn 5 (by decide));exact⟨A,_,c,h.1⟩
        obtain ⟨Aq,nq,cq,eq⟩:=hone
        have hs:=CG.set7 hwb hG
        rw [eq] at hs
        refine skip_ (w1:=wx.setCell ⟨w.heap.size,7,none⟩ (.slice Aq nq cq)) rfl rfl (by first|(go_simp;done)|(go_simp;with_reducible rfl)) ?_
        exact⟨u,rfl,hs,trivial,fun j hj hji hlj=>CF.step (fun k hk _=>Below.heap_setCell wx _ _ k hk) g4 (fun _ _=>rfl) (fun _=>rfl) (hF j hj hlj)⟩
      · obtain rfl:=Option.some.inj (show some _ = some o from ho)
        refine value_ (v:=.pointer (some ⟨w.heap.size,8,none⟩)) rfl rfl (by go_simp;with_reducible rfl) ?_
        exact⟨upd u 21 (.pointer (some ⟨w.heap.size,8,none⟩)),rfl,CG.upd (by decide) (Below.refl _ _) (fun m q hmq hlm=>by simp only [List.mem_cons,Prod.mk.injEq,List.not_mem_nil,or_false] at hmq;rcases hmq with ⟨rfl,rfl⟩|⟨rfl,rfl⟩|⟨rfl,rfl⟩|⟨rfl,rfl⟩|⟨rfl,rfl⟩ <;> first|decide|(exfalso;exact absurd hlm (by simp))) hG,rfl,fun j hj hji hlj=>CF.step (fun k hk hlt=>(Below.refl wx.heap.size wx).block k hlt) g4 (fun m hm=>upd_ne (fun e=>by subst e;exact hji ((by decide : ∀ j,j < 25→∀ i,i < 25→([4,5,6,7,8,9,10,11,12,13,14,15,16,17,18,19,99,20,98,21,97,22,96,23,95] : List Nat)[j]? = ([4,5,6,7,8,9,10,11,12,13,14,15,16,17,18,19,99,20,98,21,97,22,96,23,95] : List Nat)[i]?→j = i) j hj 19 (by decide) (hm.trans rfl)))) (fun h11=>by first|exact upd_ne (by decide)|(exfalso;subst h11;exact nomatch (hx 8 _ rfl (hx 11 _ rfl hlj 8 (by decide)) 5 (by decide)).symm.trans hl)) (hF j hj hlj)⟩
      · obtain rfl:=Option.some.inj (show some _ = some o from ho)
        have e0 : u 21 = _:=hF 19 (by decide) (hn 19 (by decide))
        have z0 : wx.cell? ⟨w.heap.size,8,none⟩ = some v8:=(blk_cell g4 8).trans rfl
        have z1:=blk_frozen g4 8
        have hone : ∃ A n c,u 12 = .slice A n c:=by obtain ⟨A,c,h⟩:=hF 8 (by decide) (hn 8 (by decide));exact⟨A,_,c,h.1⟩
        obtain ⟨Aq,nq,cq,eq⟩:=hone
        have hs:=CG.set8 hwb hG
        rw [eq] at hs
        refine skip_ (w1:=wx.setCell ⟨w.heap.size,8,none⟩ (.slice Aq nq cq)) rfl rfl (by first|(go_simp;done)|(go_simp;with_reducible rfl)) ?_
        exact⟨u,rfl,hs,trivial,fun j hj hji hlj=>CF.step (fun k hk _=>Below.heap_setCell wx _ _ k hk) g4 (fun _ _=>rfl) (fun _=>rfl) (hF j hj hlj)⟩
      · obtain rfl:=Option.some.inj (show some _ = some o from ho)
        refine value_ (v:=.pointer (some ⟨w.heap.size,13,none⟩)) rfl rfl (by go_simp;with_reducible rfl) ?_
        exact⟨upd u 22 (.pointer (some ⟨w.heap.size,13,none⟩)),rfl,CG.upd (by decide) (Below.refl _ _) (fun m q hmq hlm=>by simp only [List.mem_cons,Prod.mk.injEq,List.not_mem_nil,or_false] at hmq;rcases hmq with ⟨rfl,rfl⟩|⟨rfl,rfl⟩|⟨rfl,rfl⟩|⟨rfl,rfl⟩|⟨rfl,rfl⟩ <;> first|decide|(exfalso;exact absurd hlm (by simp))) hG,rfl,fun j hj hji hlj=>CF.step (fun k hk hlt=>(Below.refl wx.heap.size wx).block k hlt) g4 (fun m hm=>upd_ne (fun e=>by subst e;exact hji ((by decide : ∀ j,j < 25→∀ i,i < 25→([4,5,6,7,8,9,10,11,12,13,14,15,16,17,18,19,99,20,98,21,97,22,96,23,95] : List Nat)[j]? = ([4,5,6,7,8,9,10,11,12,13,14,15,16,17,18,19,99,20,98,21,97,22,96,23,95] : List Nat)[i]?→j = i) j hj 21 (by decide) (hm.trans rfl)))) (fun h11=>by first|exact upd_ne (by decide)|(exfalso;subst h11;exact nomatch (hx 8 _ rfl (hx 11 _ rfl hlj 8 (by decide)) 5 (by decide)).symm.trans hl)) (hF j hj hlj)⟩
      · obtain rfl:=Option.some.inj (show some _ = some o from ho)
        have e0 : u 22 = _:=hF 21 (by decide) (hn 21 (by decide))
        have z0 : wx.cell? ⟨w.heap.size,13,none⟩ = some v13:=(blk_cell g4 13).trans rfl
        have z1:=blk_frozen g4 13
        have hone : ∃ A n c,u 15 = .slice A n c:=by obtain ⟨A,c,h⟩:=hF 11 (by decide) (hn 11 (by decide));exact⟨A,_,c,h.choose_spec.1⟩
        obtain ⟨Aq,nq,cq,eq⟩:=hone
        have hs:=CG.set13 hwb hG
        rw [eq] at hs
        refine skip_ (w1:=wx.setCell ⟨w.heap.size,13,none⟩ (.slice Aq nq cq)) rfl rfl (by first|(go_simp;done)|(go_simp;with_reducible rfl)) ?_
        exact⟨u,rfl,hs,trivial,fun j hj hji hlj=>CF.step (fun k hk _=>Below.heap_setCell wx _ _ k hk) g4 (fun _ _=>rfl) (fun _=>rfl) (hF j hj hlj)⟩
      · obtain rfl:=Option.some.inj (show some _ = some o from ho)
        refine value_ (v:=.pointer (some ⟨w.heap.size,10,none⟩)) rfl rfl (by go_simp;with_reducible rfl) ?_
        exact⟨upd u 23 (.pointer (some ⟨w.heap.size,10,none⟩)),rfl,CG.upd (by decide) (Below.refl _ _) (fun m q hmq hlm=>by simp only [List.mem_cons,Prod.mk.injEq,List.not_mem_nil,or_false] at hmq;rcases hmq with ⟨rfl,rfl⟩|⟨rfl,rfl⟩|⟨rfl,rfl⟩|⟨rfl,rfl⟩|⟨rfl,rfl⟩ <;> first|decide|(exfalso;exact absurd hlm (by simp))) hG,rfl,fun j hj hji hlj=>CF.step (fun k hk hlt=>(Below.refl wx.heap.size wx).block k hlt) g4 (fun m hm=>upd_ne (fun e=>by subst e;exact hji ((by decide : ∀ j,j < 25→∀ i,i < 25→([4,5,6,7,8,9,10,11,12,13,14,15,16,17,18,19,99,20,98,21,97,22,96,23,95] : List Nat)[j]? = ([4,5,6,7,8,9,10,11,12,13,14,15,16,17,18,19,99,20,98,21,97,22,96,23,95] : List Nat)[i]?→j = i) j hj 23 (by decide) (hm.trans rfl)))) (fun h11=>by first|exact upd_ne (by decide)|(exfalso;subst h11;exact nomatch (hx 8 _ rfl (hx 11 _ rfl hlj 8 (by decide)) 5 (by decide)).symm.trans hl)) (hF j hj hlj)⟩
      · obtain rfl:=Option.some.inj (show some _ = some o from ho)
        have e0 : u 23 = _:=hF 23 (by decide) (hn 23 (by decide))
        have z0 : wx.cell? ⟨w.heap.size,10,none⟩ = some v10:=(blk_cell g4 10).trans rfl
        have z1:=blk_frozen g4 10
        have hone : ∃ A n c,u 18 = .slice A n c:=by obtain ⟨A,c,h⟩:=hF 14 (by decide) (hn 14 (by decide));exact⟨A,_,c,h.choose_spec.1⟩
        obtain ⟨Aq,nq,cq,eq⟩:=hone
        have hs:=CG.set10 hwb hG
        rw [eq] at hs
        refine skip_ (w1:=wx.setCell ⟨w.heap.size,10,none⟩ (.slice Aq nq cq)) rfl rfl (by first|(go_simp;done)|(go_simp;with_reducible rfl)) ?_
        exact⟨u,rfl,hs,trivial,fun j hj hji hlj=>CF.step (fun k hk _=>Below.heap_setCell wx _ _ k hk) g4 (fun _ _=>rfl) (fun _=>rfl) (hF j hj hlj)⟩
      · exact absurd ho (by simp)
    case done =>
      intro l u wx hall hG hF
      obtain ⟨g1,g2,g3,v5,v7,v8,v10,v13,g4,p0,p1,p2,p3,p4,p5,p6,p7,p8,p9⟩:=hG
      obtain ⟨A5,c5,e5,r5⟩:=hF 2 (by decide)
      obtain ⟨A7,c7,e7,r7⟩:=hF 5 (by decide)
      obtain ⟨A8,c8,e8,r8⟩:=hF 8 (by decide)
      obtain ⟨A13,c13,N,e13,r13,n13⟩:=hF 11 (by decide)
      obtain ⟨A10,c10,rows,e10,k10,kk10,r10⟩:=hF 14 (by decide)
      rw [p1 (hall 16 (by decide)),p3 (hall 18 (by decide)),p5 (hall 20 (by decide)),p7 (hall 22 (by decide)),p9 (hall 24 (by decide)),e5,e7,e8,e13,e10] at g4
      rw [e5] at r5;rw [e7] at r7 n13;rw [e8] at r8;rw [e13] at r13;rw [e10] at r10
      dsimp only
      go_wp2_with fail
      go_meet
      case rel=>exact⟨⟨A5,c5,A7,c7,A8,c8,A10,c10,A13,c13,N,rows,g1,g2,g3,g4,r5,Kd.R_mono (Kd.R_tight rfl r7) (fun k hk=>n13 k hk.symm),r8,r13,k10,kk10,r10⟩⟩
  case rest=>as_aux_lemma =>
    obtain ⟨AL,cL,AM,cM,AK,cK,AB,cB,AD,cD,N,rows,hB,hWs,k2,k1,r5,r7,r8,r13,hrl,hrk,r10⟩:=hcut.out
    clear hcut
    have I0:=Aside0.mk (InvS.start (d:=k69) (e:=69) (w:=w) (B:=W.heap.size) (N:=wc.heap.size) hrl r10 hrk)
    have BIG:=Aside0.mk (show s.bals.length ≤ 9223372036854775807 from HR.out.2.2.2.1.1.2.1)
    have x10 : wc.cell? ⟨w.heap.size,10,none⟩ = some (.slice AB s.bals.length cB):=(blk_cell k1 10).trans rfl
    have Z0:=Aside0.mk (And.intro hB (And.intro hWs (And.intro k1 (And.intro k2 (And.intro r5 (And.intro r7 (And.intro r8 r13)))))))
    have HSZ:=Aside0.mk HZS.out
    clear hB hWs k2 k1 r5 r7 r8 r13 hrl hrk r10 HB K1 K2 HZS
    go_wp2_with fail
    clear x10
    go_loopg [3,27] (s.bals.length + 1) (fun gg _ s27 wr=>∃ i : Int,s27 = .int .i64 i∧Aside0 (0 ≤ i∧i ≤ s.bals.length∧s.bals.length - i < gg∧wc.heap.size ≤ wr.heap.size∧Below w.heap.size w wr∧wr.heap[w.heap.size]? = some (.cells #[.int .i64 s.id,.int .i64 s.n,.int .i64 s.view,.int .i64 s.last,.int .i64 s.status,.slice AL s.log.length cL,.int .i64 s.commit,.slice AM s.mat.length cM,.slice AK s.marks.length cK,.bool s.sent,.slice AB s.bals.length cB,.int .i64 s.elapsed,.int .i64 s.timeout,.slice AD s.draws.length cD] 29 (0,0))∧wr.heap[w.heap.size + 1]? = some (.cells #[.int .i64 0,.int .i64 0,.int .i64 0,.int .i64 0,.int .i64 0,.slice none 0 0,.int .i64 0,.slice none 0 0,.slice none 0 0,.bool false,.slice none 0 0,.int .i64 0,.int .i64 0,.slice none 0 0] 29 (0,0))∧((Kd.slice 5 (Kd.int .u8)).R 22 wr W.heap.size (fun k=>k < wc.heap.size) (.slice AL s.log.length cL) s.log∧(Kd.int .i64).R 3 wr W.heap.size (fun k=>k < N) (.slice AM s.mat.length cM) s.mat∧Kd.bool.R 4 wr W.heap.size (fun _=>True) (.slice AK s.marks.length cK) s.marks∧(Kd.int .i64).R 3 wr W.heap.size (fun k=>N ≤ k) (.slice AD s.draws.length cD) s.draws)∧InvS k69 69 w W.heap.size wc.heap.size AB cB s.bals i wr))
    case atStart=>exact⟨0,rfl,⟨by omega,by omega,by omega,Nat.le_refl _,Z0.out.1,Z0.out.2.2.1,Z0.out.2.2.2.1,⟨Kd.R_mono (Kd.R_bound Z0.out.2.2.2.2.1) (fun _ hk=>hk.2.2.1),Z0.out.2.2.2.2.2.1,Z0.out.2.2.2.2.2.2.1,Z0.out.2.2.2.2.2.2.2⟩,I0.out⟩⟩
    case round =>
      obtain ⟨i,rfl,Z⟩:=hrel
      have HWS:=Aside0.mk Z0.out.2.1
      clear I0 Z0
      by_cases hlt : i < s.bals.length
      · have d1 : decide (i < (s.bals.length : Int)) = true:=decide_eq_true hlt
        obtain ⟨h0,hle,hgk,hcs,hBW,k1,k2,hrs,hS⟩:=Z.out
        rcases hS with ⟨h1,_⟩|⟨g,rfl,hC⟩
        · rw [h1] at hlt;simp at hlt;omega
        have hin : i.toNat < s.bals.length:=by omega
        have hx : s.bals[i.toNat]? = some (rd_T69 s.bals i):=by unfold rd_T69;rw [List.getD_eq_getElem?_getD,List.getElem?_eq_getElem hin];rfl
        have HIC:=Aside0.mk hC
        obtain ⟨rows2,f,hl,hR,hM⟩:=hC
        obtain ⟨cx,hcl,hMc,hcc,_⟩:=Kd.R_elem hR [] i h0 hlt
        have hrow : rows2[i.toNat]? = some cx:=by
          rw [show cx = rows2.getD i.toNat [] from hMc.1,List.getD_eq_getElem?_getD,List.getElem?_eq_getElem (by omega)];rfl
        obtain ⟨A2,c2,rfl,hl2,hC2⟩:=k69_open ((hM _ _ _ hx hrow).2 (by omega))
        have hx0 : wr.cell? ⟨g,i.toNat * 4 + 2,none⟩ = some (.slice A2 (rd_T69 s.bals i).f2.length c2):=hcc 2 _ rfl
        have hmem:=HZ.out.2.2.2.2.2.2 _ (List.mem_of_getElem? hx)
        have HC2:=Aside0.mk (And.intro (Kd.C_below hC2 hBW) hmem)
        have p1:=eq_true h0
        have p2:=eq_true hlt
        have y0 : wr.cell? ⟨w.heap.size,10,none⟩ = some (.slice (some ⟨g,0,none⟩) s.bals.length cB):=(blk_cell k1 10).trans rfl
        have KK:=Aside0.mk (And.intro k1 (And.intro k2 (And.intro hrs (And.intro hBW (And.intro hcs (And.intro hgk (And.intro h0 hlt)))))))
        clear hlt hrow hl2 hC2 hR hM hMc hl hx hcc hcl k1 k2 hrs hBW hcs hgk hle h0 Z hmem
        go_upto_region 5 with fail
        go_region_with (go_at_call 41;refine(cloneLog.calls A2 c2 (rd_T69 s.bals i).f2 _ (by repeat (first|exact HC2.out.1|(with_reducible refine Kd.C_alloc ?_ _)|(with_reducible refine Kd.C_drewN ?_ _)|(with_reducible refine Kd.C_drew ?_))) HC2.out.2.1 HC2.out.2.2).mono ?_;rintro e w2 ⟨v2,rfl,hR2,hb2⟩;have hbw : Below wr.heap.size wr w2:=below_then (by repeat (first|exact Below.refl _ _|apply pw_below_drewN|apply below_drew)) (by simp) hb2;have y3:=(hbw.cell (World.block_lt_of_cell? _ _ y0)).trans y0;obtain ⟨Av,cv,hve,_⟩:=Kd.R_reads hR2;subst hve;have hst:=InvW.step HIC.out (of_eq_true p1) (of_eq_true p2) KK.out.2.2.2.2.1 (by have:=KK.out.2.2.2.2.1;have:=HWS.out;omega) hbw (Kd.R_lower hR2 (by simp));have q0:=(hbw.cell (World.block_lt_of_cell? _ _ hx0)).trans hx0;obtain ⟨f0,hst2⟩:=hst;have HST:=Aside0.mk hst2;have HBW:=Aside0.mk hbw;clear hst2 hbw hR2 hb2)
        all_goals
          go_wp2
          have h2:=of_eq_true p2
          have h1:=of_eq_true p1
          have hw : wrap64 (i + 1) = i + 1:=by have:=BIG.out;unfold wrap64;omega
          obtain ⟨k1,k2,hrs,hBW0,hcs,hgk,_,_⟩:=KK.out
          obtain ⟨gg,rfl⟩ : ∃ m,gk = m + 1:=⟨gk - 1,by omega⟩
          have hgB : W.heap.size ≤ g:=by
            obtain ⟨rows,f,_,hR,_⟩:=HIC.out
            obtain ⟨inner,ho⟩:=Kd.R_own hR
            exact own_base ho g rfl
          have hgt : ∃ cells,wr.heap[g]? = some (.cells cells 69 (0,0)):=by
            obtain ⟨rows,f,_,hR,_⟩:=HIC.out
            exact Kd.R_typed hR g rfl
          have hgW:=HWS.out
          (try rw [hw])
          go_roundg gg
          case measure=>omega
          case rel =>
            have hsz:=HBW.out.size
            have hsz2:=HST.out.2.size
            have hz1:=blk_lt k2
            have hwW : w.heap.size ≤ g:=by have:=HSZ.out;omega
            have hg1 : w.heap.size ≠ g:=fun e=>by obtain ⟨cells,hc⟩:=hgt;rw [← e,k1] at hc;cases hc
            have hg2 : w.heap.size + 1 ≠ g:=fun e=>by obtain ⟨cells,hc⟩:=hgt;rw [← e,k2] at hc;cases hc
            obtain ⟨cells,hgc⟩:=hgt
            have hgc2:=blk_below hgc HBW.out
            have hne : ∀ (k : Nat),k ≠ g→some k ≠ some g:=fun k hk e=>hk (Option.some.inj e)
            refine⟨i + 1,rfl,⟨by omega,by omega,by omega,by omega,(hBW0.trans (HBW.out.mono hBW0.size)).grown HST.out.2 (by have:=hBW0.size;omega) (fun j hj=>by cases hj;omega),?_,?_,⟨?_,?_,?_,?_⟩,.inr ⟨g,rfl,HST.out.1⟩⟩⟩
            · exact blk_grown (blk_below k1 HBW.out) HST.out.2 (hne _ hg1)
            · exact blk_grown (blk_below k2 HBW.out) HST.out.2 (hne _ hg2)
            · exact Kd.R_mono (Kd.R_grown (Kd.R_types (Kd.R_below hrs.1 HBW.out) hgc2 (by decide)) HST.out.2 (fun k hk=>hne _ hk.2)) (fun _ hk=>hk.1)
            · exact Kd.R_mono (Kd.R_grown (Kd.R_types (Kd.R_below hrs.2.1 HBW.out) hgc2 (by decide)) HST.out.2 (fun k hk=>hne _ hk.2)) (fun _ hk=>hk.1)
            · exact Kd.R_mono (Kd.R_grown (Kd.R_types (Kd.R_below hrs.2.2.1 HBW.out) hgc2 (by decide)) HST.out.2 (fun k hk=>hne _ hk.2)) (fun _ hk=>hk.1)
            · exact Kd.R_mono (Kd.R_grown (Kd.R_types (Kd.R_below hrs.2.2.2 HBW.out) hgc2 (by decide)) HST.out.2 (fun k hk=>hne _ hk.2)) (fun _ hk=>hk.1)
      · have d1 : decide (i < (s.bals.length : Int)) = false:=decide_eq_false hlt
        obtain ⟨h0,hle,hgk,hcs,hBW,k1,k2,hrs,hS⟩:=Z.out
        have hF:=hS.done (by omega)
        have x0 : wr.cell? ⟨w.heap.size,0,none⟩ = some (.int .i64 s.id):=(blk_cell k1 0).trans rfl
        have x1 : wr.cell? ⟨w.heap.size,1,none⟩ = some (.int .i64 s.n):=(blk_cell k1 1).trans rfl
        have x2 : wr.cell? ⟨w.heap.size,2,none⟩ = some (.int .i64 s.view):=(blk_cell k1 2).trans rfl
        have x3 : wr.cell? ⟨w.heap.size,3,none⟩ = some (.int .i64 s.last):=(blk_cell k1 3).trans rfl
        have x4 : wr.cell? ⟨w.heap.size,4,none⟩ = some (.int .i64 s.status):=(blk_cell k1 4).trans rfl
        have x5 : wr.cell? ⟨w.heap.size,5,none⟩ = some (.slice AL s.log.length cL):=(blk_cell k1 5).trans rfl
        have x6 : wr.cell? ⟨w.heap.size,6,none⟩ = some (.int .i64 s.commit):=(blk_cell k1 6).trans rfl
        have x7 : wr.cell? ⟨w.heap.size,7,none⟩ = some (.slice AM s.mat.length cM):=(blk_cell k1 7).trans rfl
        have x8 : wr.cell? ⟨w.heap.size,8,none⟩ = some (.slice AK s.marks.length cK):=(blk_cell k1 8).trans rfl
        have x9 : wr.cell? ⟨w.heap.size,9,none⟩ = some (.bool s.sent):=(blk_cell k1 9).trans rfl
        have x10 : wr.cell? ⟨w.heap.size,10,none⟩ = some (.slice AB s.bals.length cB):=(blk_cell k1 10).trans rfl
        have x11 : wr.cell? ⟨w.heap.size,11,none⟩ = some (.int .i64 s.elapsed):=(blk_cell k1 11).trans rfl
        have x12 : wr.cell? ⟨w.heap.size,12,none⟩ = some (.int .i64 s.timeout):=(blk_cell k1 12).trans rfl
        have x13 : wr.cell? ⟨w.heap.size,13,none⟩ = some (.slice AD s.draws.length cD):=(blk_cell k1 13).trans rfl
        have K2:=Aside0.mk k2
        have RS:=Aside0.mk (And.intro hrs (And.intro (Kd.S_R hF) (And.intro hBW (Nat.le_trans HWS.out hcs))))
        have HB1:=Aside0.mk (show w.heap.size + 1 < wr.heap.size from blk_lt k2)
        clear hF k1 k2 hBW hS hrs Z hle hgk hcs h0 hlt
        go_wp2_with ((with_reducible refine gate_ (.store 29 (.tmp 2) (.tmp 43)) rfl ?_);refine wpList_store_row rfl 29 (.tmp 2) (.tmp 43) rfl (w.heap.size + 1) #[.int .i64 s.id,.int .i64 s.n,.int .i64 s.view,.int .i64 s.last,.int .i64 s.status,.slice AL s.log.length cL,.int .i64 s.commit,.slice AM s.mat.length cM,.slice AK s.marks.length cK,.bool s.sent,.slice AB s.bals.length cB,.int .i64 s.elapsed,.int .i64 s.timeout,.slice AD s.draws.length cD] rfl rfl 29 #[.int .i64 0,.int .i64 0,.int .i64 0,.int .i64 0,.int .i64 0,.slice none 0 0,.int .i64 0,.slice none 0 0,.slice none 0 0,.bool false,.slice none 0 0,.int .i64 0,.int .i64 0,.slice none 0 0] K2.out (by kernel_rfl) rfl (by kernel_rfl) ?_)
        refine bodyPost_ret (results_cell_row rfl _ _ (w.heap.size + 1) 29 #[.int .i64 s.id,.int .i64 s.n,.int .i64 s.view,.int .i64 s.last,.int .i64 s.status,.slice AL s.log.length cL,.int .i64 s.commit,.slice AM s.mat.length cM,.slice AK s.marks.length cK,.bool s.sent,.slice AB s.bals.length cB,.int .i64 s.elapsed,.int .i64 s.timeout,.slice AD s.draws.length cD] (0,0) _ rfl (setRow_heap _ _ _ _ _ _ K2.out) Try.underlying29 rfl (by kernel_rfl)) rfl ?_
        obtain ⟨hrs,hF,hBW,hcs⟩:=RS.out
        have hlo : w.heap.size ≤ W.heap.size:=Nat.le_trans (Nat.le_add_right _ 2) (Nat.le_of_eq HSZ.out.symm)
        refine⟨_,_,_,_,_,N,rfl,?_,?_,?_,?_,?_,?_⟩
        · exact Kd.R_mono (Kd.R_lower (Kd.R_step (Kd.R_types (hrs.1) K2.out (by decide)) (fun k hk _=>setRow_other _ _ k _ hk.2)) hlo) (fun _ hk=>trivial)
        · exact Kd.R_mono (Kd.R_lower (Kd.R_step (Kd.R_types (hrs.2.1) K2.out (by decide)) (fun k hk _=>setRow_other _ _ k _ hk.2)) hlo) (fun _ hk=>hk.1)
        · exact Kd.R_mono (Kd.R_lower (Kd.R_step (Kd.R_types (hrs.2.2.1) K2.out (by decide)) (fun k hk _=>setRow_other _ _ k _ hk.2)) hlo) (fun _ hk=>trivial)
        · exact Kd.R_mono (Kd.R_lower (Kd.R_step (Kd.R_types (hF) K2.out (by decide)) (fun k hk _=>setRow_other _ _ k _ hk.2)) hlo) (fun _ hk=>trivial)
        · exact Kd.R_mono (Kd.R_lower (Kd.R_step (Kd.R_types (hrs.2.2.2) K2.out (by decide)) (fun k hk _=>setRow_other _ _ k _ hk.2)) hlo) (fun _ hk=>hk.1)
        · exact below_row hBW (Nat.le_succ _) _
end Go.Proofs.Ytojjnifbnppliaa.T
