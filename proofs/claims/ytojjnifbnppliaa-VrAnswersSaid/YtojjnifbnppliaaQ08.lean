/- Step, by its handler's contract. What Check says, told; Step at a request, at an answer. What a handler keeps on its way. onAsk. What Check says of marks and ballots. onBegins. onStart. What look and enter leave. -/
import Derived.Test.YtojjnifbnppliaaQ04
import Derived.Test.YtojjnifbnppliaaQ05
import Derived.Test.YtojjnifbnppliaaQ07
section
namespace Go.Proofs.Ytojjnifbnppliaa.T
open Go.RowKit Go.Proofs.YtojjnifbnppliaaW.PrintWords Go.Proofs.YtojjnifbnppliaaW.PrintLast Go.Proofs.YtojjnifbnppliaaW.PrintMore
attribute [local go_sem] max2_int min2_int max_two min_two max_three min_three max_four min_four
set_option linter.unusedVariables false
set_option linter.unusedSimpArgs false
/-- What Step gives: the state and the messages, or the error. -/
def StepRes (w0 : World) (r : Option Int) (s : St) (out : List Ms) (e : Ending) (w : World) : Prop:=Below w0.heap.size w0 w∧match r with
  | some x=>e = .returned (.tuple #[.agg #[.int .i64 0,.int .i64 0,.int .i64 0,.int .i64 0,.int .i64 0,.slice none 0 0,.int .i64 0,.slice none 0 0,.slice none 0 0,.bool false,.slice none 0 0,.int .i64 0,.int .i64 0,.slice none 0 0],.slice none 0 0,.int .i64 x])
  | none=>∃ (AL : Option Addr) (cL : Nat) (AM : Option Addr) (cM : Nat) (AK : Option Addr) (cK : Nat) (AB : Option Addr) (cB : Nat) (AD : Option Addr) (cD : Nat) (AO : Option Addr) (cO : Nat),e = .returned (.tuple #[.agg #[.int .i64 s.id,.int .i64 s.n,.int .i64 s.view,.int .i64 s.last,.int .i64 s.status,.slice AL s.log.length cL,.int .i64 s.commit,.slice AM s.mat.length cM,.slice AK s.marks.length cK,.bool s.sent,.slice AB s.bals.length cB,.int .i64 s.elapsed,.int .i64 s.timeout,.slice AD s.draws.length cD],.slice AO out.length cO,.int .i64 0])∧∀ W,Keeps w W (fun k=>k < w0.heap.size)→Rd W s AL cL AM cM AK cK AB cB AD cD∧kMs.C W AO out.length out
/-- The method expressions, by kind. -/
def mexs : Value:=.agg #[.nilFunc,.func (.func 22) #[] #[],.func (.func 23) #[] #[],.func (.func 24) #[] #[]]
theorem five_blocks (w : World) (a b c d e : Obj) : ((((((w.alloc a).alloc b).alloc c).alloc d).alloc e).heap[w.heap.size]? = some a)∧((((((w.alloc a).alloc b).alloc c).alloc d).alloc e).heap[w.heap.size + 1]? = some b)∧((((((w.alloc a).alloc b).alloc c).alloc d).alloc e).heap[w.heap.size + 1 + 1]? = some c)∧((((((w.alloc a).alloc b).alloc c).alloc d).alloc e).heap[w.heap.size + 1 + 1 + 1]? = some d)∧((((((w.alloc a).alloc b).alloc c).alloc d).alloc e).heap[w.heap.size + 1 + 1 + 1 + 1]? = some e)∧(((((w.alloc a).alloc b).alloc c).alloc d).alloc e).heap.size = w.heap.size + 1 + 1 + 1 + 1 + 1∧Below w.heap.size w (((((w.alloc a).alloc b).alloc c).alloc d).alloc e):=by
  have h1:=heap_alloc_new w a
  have h2 : ((w.alloc a).alloc b).heap[w.heap.size + 1]? = some b:=by have:=heap_alloc_new (w.alloc a) b;simpa using this
  have h3 : (((w.alloc a).alloc b).alloc c).heap[w.heap.size + 1 + 1]? = some c:=by have:=heap_alloc_new ((w.alloc a).alloc b) c;simpa using this
  have h4 : ((((w.alloc a).alloc b).alloc c).alloc d).heap[w.heap.size + 1 + 1 + 1]? = some d:=by have:=heap_alloc_new (((w.alloc a).alloc b).alloc c) d;simpa using this
  have h5 : (((((w.alloc a).alloc b).alloc c).alloc d).alloc e).heap[w.heap.size + 1 + 1 + 1 + 1]? = some e:=by have:=heap_alloc_new ((((w.alloc a).alloc b).alloc c).alloc d) e;simpa using this
  exact⟨blk_alloc (blk_alloc (blk_alloc (blk_alloc h1 b) c) d) e,blk_alloc (blk_alloc (blk_alloc h2 c) d) e,blk_alloc (blk_alloc h3 d) e,blk_alloc h4 e,h5,by simp,below_alloc (below_alloc (below_alloc (below_alloc (below_alloc (Below.refl _ _) a) b) c) d) e⟩
structure Fits (s : St) : Prop where
  log : s.log.length * 24 ≤ 140737488355328
  mat : s.mat.length * 8 < 140737488355328
  marks : s.marks.length < 140737488355328
  draws : s.draws.length * 8 < 140737488355328
  bals : s.bals.length * 48 ≤ 140737488355328
  logs : ∀ x ∈ s.log,x.length < 140737488355328
  ballogs : ∀ b ∈ s.bals,b.f2.length * 24 ≤ 140737488355328∧∀ x ∈ b.f2,x.length < 140737488355328
theorem step_results {tmps : Array Value} {w : World} (p q r : Nat) (cs : Array Value) (v : Value) (y : Int) (h4 : tmps.getD 4 undef = .pointer (some ⟨p,0,none⟩)) (h5 : tmps.getD 5 undef = .pointer (some ⟨q,0,none⟩)) (h6 : tmps.getD 6 undef = .pointer (some ⟨r,0,none⟩)) (k4 : w.heap[p]? = some (.cells cs 29 (0,0))) (hs : cs.size = 14) (k5 : w.heap[q]? = some (.cells #[v] 33 (0,0))) (k6 : w.heap[r]? = some (.cells #[.int .i64 y] 30 (0,0))) :
    (results Try.f8 tmps).run Try.prog w = .ok (.tuple #[.agg cs,v,.int .i64 y]) w:=by
  have x5 : w.cell? ⟨q,0,none⟩ = some v:=(blk_cell k5 0).trans rfl
  have x6 : w.cell? ⟨r,0,none⟩ = some (.int .i64 y):=(blk_cell k6 0).trans rfl
  have hi : (Try.prog.info? 29).map (·.size) = some cs.size:=by rw [hs];kernel_rfl
  have l4:=run_loadVar_row (P:=Try.prog) w p 29 29 cs (0,0) _ k4 Try.underlying29 rfl hi
  have l5 : (loadVar 33 ⟨q,0,none⟩).run Try.prog w = .ok v w:=by simp [go_sem,x5]
  have l6 : (loadVar 30 ⟨r,0,none⟩).run Try.prog w = .ok (.int .i64 y) w:=by simp [go_sem,x6]
  unfold results
  rw [show Try.f8.results = [ResultVar.cell 4 29,.cell 5 33,.cell 6 30].toArray from rfl,List.mapM_toArray]
  rw [Array.getD_eq_getD_getElem?] at h4 h5 h6
  simp [List.mapM_cons,h4,h5,h6,asAddr,l4,l5,l6]
/-- What holds of the world while Step's results are laid. -/
def G9 (W : World) (b p q r : Nat) (CB CS : Array Value) (vO : Value) (l : Nat→Bool) (w : World) : Prop :=
  w.heap[b]? = some (.cells CB 61 (0,0))∧Keeps W w (fun k=>k = p∨k = q∨k = r)∧w.heap[p]? = some (.cells (if l 8 = true then CS else #[.int .i64 0,.int .i64 0,.int .i64 0,.int .i64 0,.int .i64 0,.slice none 0 0,.int .i64 0,.slice none 0 0,.slice none 0 0,.bool false,.slice none 0 0,.int .i64 0,.int .i64 0,.slice none 0 0]) 29 (0,0))∧w.heap[q]? = some (.cells #[if l 9 = true then vO else .slice none 0 0] 33 (0,0))∧w.heap[r]? = some (.cells #[.int .i64 0] 30 (0,0))
section
variable {W w : World} {b p q r : Nat} {CB CS : Array Value} {vO : Value} {l : Nat→Bool}
theorem G9.upd {i : Nat} (h8 : 8 ≠ i) (h9 : 9 ≠ i) (h : G9 W b p q r CB CS vO l w) : G9 W b p q r CB CS vO (fun j=>l j || j == i) w:=by
  unfold G9 at h ⊢
  simp only [or_ne h8,or_ne h9]
  exact h
theorem G9.s8 (h : G9 W b p q r CB CS vO l w) (n1 : b ≠ p) (n2 : q ≠ p) (n3 : r ≠ p) : G9 W b p q r CB CS vO (fun j=>l j || j == 8) (w.setRow p CS):=by
  obtain ⟨h1,h2,h3,h4,h5⟩:=h
  unfold G9
  simp only [or_ne (show(9 : Nat) ≠ 8 by decide),or_at,if_true]
  exact⟨(setRow_other w p b _ n1).trans h1,h2.trans ⟨rfl,rfl,rfl,by simp,fun k _ hk=>setRow_other w p k _ (fun e=>hk (.inl e))⟩,setRow_heap w p _ CS 29 (0,0) h3,(setRow_other w p q _ n2).trans h4,(setRow_other w p r _ n3).trans h5⟩
theorem G9.s9 (h : G9 W b p q r CB CS vO l w) (n1 : b ≠ q) (n2 : p ≠ q) (n3 : r ≠ q) : G9 W b p q r CB CS vO (fun j=>l j || j == 9) (w.setCell ⟨q,0,none⟩ vO):=by
  obtain ⟨h1,h2,h3,h4,h5⟩:=h
  unfold G9
  simp only [or_ne (show(8 : Nat) ≠ 9 by decide),or_at,if_true]
  exact⟨blk_far h1 (p:=⟨q,0,none⟩) n1 _,h2.setCell (p:=⟨q,0,none⟩) (.inl (.inr (.inl rfl))) _,blk_far h3 (p:=⟨q,0,none⟩) n2 _,blk_put h4 0 vO rfl,blk_far h5 (p:=⟨q,0,none⟩) n3 _⟩
theorem G9.s10 (h : G9 W b p q r CB CS vO l w) (n1 : b ≠ r) (n2 : p ≠ r) (n3 : q ≠ r) : G9 W b p q r CB CS vO (fun j=>l j || j == 10) (w.setCell ⟨r,0,none⟩ (.int .i64 0)):=by
  obtain ⟨h1,h2,h3,h4,h5⟩:=h
  unfold G9
  simp only [or_ne (show(8 : Nat) ≠ 10 by decide),or_ne (show(9 : Nat) ≠ 10 by decide)]
  exact⟨blk_far h1 (p:=⟨r,0,none⟩) n1 _,h2.setCell (p:=⟨r,0,none⟩) (.inl (.inr (.inr rfl))) _,blk_far h3 (p:=⟨r,0,none⟩) n2 _,blk_far h4 (p:=⟨r,0,none⟩) n3 _,blk_put h5 0 (.int .i64 0) rfl⟩
end
theorem R_put {α : Type} {d : Kd α} {e B : Nat} {w2 w3 : World} {ok : Nat→Prop} {v : Value} {xs : List α} (r : d.R e w2 B ok v xs) (hb : Below w2.heap.size w2 w3) : d.R e w3 0 (fun k=>ok k∧B ≤ k∧k < w2.heap.size) v xs:=Kd.R_mono (Kd.R_lower (Kd.R_below (Kd.R_bound r) hb) (Nat.zero_le _)) (fun k hk=>⟨hk.1,hk.2.1,hk.2.2.1⟩)
theorem Mac_clone {w2 : World} {B N : Nat} {s : St} {AL : Option Addr} {cL : Nat} {AM : Option Addr} {cM : Nat} {AK : Option Addr} {cK : Nat} {AB : Option Addr} {cB : Nat} {AD : Option Addr} {cD : Nat} {gd0 : Nat} (hB : gd0 < B) (hB2 : B ≤ w2.heap.size) (r1 : (Kd.slice 5 (Kd.int .u8)).R 22 w2 B (fun _=>True) (.slice AL s.log.length cL) s.log) (r2 : (Kd.int .i64).R 3 w2 B (fun k=>k < N) (.slice AM s.mat.length cM) s.mat) (r3 : Kd.bool.R 4 w2 B (fun _=>True) (.slice AK s.marks.length cK) s.marks) (r4 : k69.R 69 w2 B (fun _=>True) (.slice AB s.bals.length cB) s.bals) (r5 : (Kd.int .i64).R 3 w2 B (fun k=>N ≤ k) (.slice AD s.draws.length cD) s.draws) :
    ∃ gd,(gd ≠ w2.heap.size∧(gd = gd0∨B ≤ gd))∧Mac (w2.alloc (.cells #[.int .i64 s.id,.int .i64 s.n,.int .i64 s.view,.int .i64 s.last,.int .i64 s.status,.slice AL s.log.length cL,.int .i64 s.commit,.slice AM s.mat.length cM,.slice AK s.marks.length cK,.bool s.sent,.slice AB s.bals.length cB,.int .i64 s.elapsed,.int .i64 s.timeout,.slice AD s.draws.length cD,.slice none 0 0] 61)) w2.heap.size gd (fun k=>B ≤ k∧k ≠ w2.heap.size∧k ≠ gd) s []:=by
  have hb : (w2.alloc (.cells #[.int .i64 s.id,.int .i64 s.n,.int .i64 s.view,.int .i64 s.last,.int .i64 s.status,.slice AL s.log.length cL,.int .i64 s.commit,.slice AM s.mat.length cM,.slice AK s.marks.length cK,.bool s.sent,.slice AB s.bals.length cB,.int .i64 s.elapsed,.int .i64 s.timeout,.slice AD s.draws.length cD,.slice none 0 0] 61)).heap[w2.heap.size]? = some (.cells #[.int .i64 s.id,.int .i64 s.n,.int .i64 s.view,.int .i64 s.last,.int .i64 s.status,.slice AL s.log.length cL,.int .i64 s.commit,.slice AM s.mat.length cM,.slice AK s.marks.length cK,.bool s.sent,.slice AB s.bals.length cB,.int .i64 s.elapsed,.int .i64 s.timeout,.slice AD s.draws.length cD,.slice none 0 0] 61 (0,0)):=heap_alloc_new w2 _
  have hbel : Below w2.heap.size w2 (w2.alloc (.cells #[.int .i64 s.id,.int .i64 s.n,.int .i64 s.view,.int .i64 s.last,.int .i64 s.status,.slice AL s.log.length cL,.int .i64 s.commit,.slice AM s.mat.length cM,.slice AK s.marks.length cK,.bool s.sent,.slice AB s.bals.length cB,.int .i64 s.elapsed,.int .i64 s.timeout,.slice AD s.draws.length cD,.slice none 0 0] 61)):=below_alloc (Below.refl _ _) _
  have hcD : s.draws.length ≤ cD:=(Kd.R_reads' r5).2.1
  by_cases hd : s.draws = []
  · refine⟨gd0,⟨by omega,.inl rfl⟩,by simp;omega,AL,cL,AM,cM,AK,cK,AB,cB,AD,cD,none,0,hb,?_,?_,?_,?_,Kd.R_nil _ _ _ _ _,hcD,?_⟩
    · exact Kd.R_mono (R_put r1 hbel) (fun k hk=>⟨hk.2.1,by have:=hk.2.2;omega,by have:=hk.2.1;omega⟩)
    · exact Kd.R_mono (R_put r2 hbel) (fun k hk=>⟨hk.2.1,by have:=hk.2.2;omega,by have:=hk.2.1;omega⟩)
    · exact Kd.R_mono (R_put r3 hbel) (fun k hk=>⟨hk.2.1,by have:=hk.2.2;omega,by have:=hk.2.1;omega⟩)
    · exact Kd.R_mono (R_put r4 hbel) (fun k hk=>⟨hk.2.1,by have:=hk.2.2;omega,by have:=hk.2.1;omega⟩)
    · rw [hd]
      exact fun W' _=>⟨rfl,by simp,fun h=>absurd h (by simp)⟩
  · obtain ⟨g,cap,hv,hBg,hgl,cells,hcg⟩:=Kd.R_form r5 (List.length_pos_iff.2 hd)
    have hN : N ≤ g:=r5.1 g (by rw [hv];rfl)
    refine⟨g,⟨by omega,.inr hBg⟩,by simp;omega,AL,cL,AM,cM,AK,cK,AB,cB,AD,cD,none,0,hb,?_,?_,?_,?_,Kd.R_nil _ _ _ _ _,hcD,?_⟩
    · exact Kd.R_mono (R_put (Kd.R_types r1 hcg (by decide)) hbel) (fun k hk=>⟨hk.2.1,by have:=hk.2.2;omega,hk.1.2⟩)
    · exact Kd.R_mono (R_put r2 hbel) (fun k hk=>⟨hk.2.1,by have:=hk.2.2;omega,by have:=hk.1;omega⟩)
    · exact Kd.R_mono (R_put (Kd.R_types r3 hcg (by decide)) hbel) (fun k hk=>⟨hk.2.1,by have:=hk.2.2;omega,hk.1.2⟩)
    · exact Kd.R_mono (R_put (Kd.R_types r4 hcg (by decide)) hbel) (fun k hk=>⟨hk.2.1,by have:=hk.2.2;omega,hk.1.2⟩)
    · obtain ⟨A,c,hv2,_,hF⟩:=Kd.R_V (base':=0) (Kd.R_tight rfl r5)
      have hA : AD = A:=by injection hv2
      subst hA
      refine Kd.F_below (Kd.F_mono hF (fun k hk=>?_)) hbel
      rw [hv] at hk
      have : some k = some g:=hk
      injection this
set_option maxHeartbeats 8000000 in
set_option maxRecDepth 100000 in
theorem Step_go.calls (s s' : St) (out : List Ms) (AL : Option Addr) (cL : Nat) (AM : Option Addr) (cM : Nat) (AK : Option Addr) (cK : Nat) (AB : Option Addr) (cB : Nat) (AD : Option Addr) (cD : Nat) (k : Int) (x : Ms) (AX : Option Addr) (cX : Nat) (A : Option Addr) (c : Nat) (data : List Int) (hf : Nat) (r : Option Int) (w : World) (hr : Rd w s AL cL AM cM AK cK AB cB AD cD) (hz : Fits s) (hc : checkV s = true) (hk : wi k 1 3 = true) (eg : ∀ args w,(callFunc hf args).run Try.prog w = .ok (.enter hf args) w)
    (ix : ∀ w,(Instr.index 64 mexs (.int .i64 k)).run Try.prog w = .ok (.func (.func hf) #[] #[]) w)
    (H : ∀ w1 b gd P,Below w.heap.size w w1→Mac w1 b gd P s []→(∀ k,w1.heap.size ≤ k→P k)→(¬ P gd∧gd ≠ b)→(∀ k,P k∨k = b→w.heap.size ≤ k)→Calls Try.prog hf #[.pointer (some ⟨b,0,none⟩),.agg #[.int .i64 k,.int .i64 x.kind,.int .i64 x.fro,.int .i64 x.dst,.int .i64 x.view,.int .i64 x.last,.int .i64 x.prev,.slice AX x.log.length cX,.int .i64 x.commit,.int .i64 x.mat,.slice A data.length c]] w1 fun e w'=>Keeps w1 w' (fun k=>k = b∨P k)∧Ends r e (Mac w' b gd P s' out)) :
    Calls Try.prog 8 #[.agg #[.int .i64 s.id,.int .i64 s.n,.int .i64 s.view,.int .i64 s.last,.int .i64 s.status,.slice AL s.log.length cL,.int .i64 s.commit,.slice AM s.mat.length cM,.slice AK s.marks.length cK,.bool s.sent,.slice AB s.bals.length cB,.int .i64 s.elapsed,.int .i64 s.timeout,.slice AD s.draws.length cD],.agg #[.int .i64 k,.int .i64 x.kind,.int .i64 x.fro,.int .i64 x.dst,.int .i64 x.view,.int .i64 x.last,.int .i64 x.prev,.slice AX x.log.length cX,.int .i64 x.commit,.int .i64 x.mat,.slice A data.length c]] w (StepRes w r s' out):=by
  have hu29:=Try.underlying29
  have hu33:=Try.underlying33
  have hu30:=Try.underlying30
  have hu39:=Try.underlying39
  have hu61:=Try.underlying61
  have hu64:=Try.underlying64
  have hmf : ∀ (fn : Fn) (first cap : Array Value) (w : World),(Instr.makeFunc fn first cap).run Try.prog w = .ok (.func fn first cap) w:=fun _ _ _ _=>rfl
  unfold mexs at ix
  have HH:=Aside0.mk H
  have HZ:=Aside0.mk hz
  have HR:=Aside0.mk hr
  have HC:=Aside0.mk hc
  obtain ⟨k2,k3,k4,k5,k6,hsz,hb0⟩:=five_blocks w (.cells #[.int .i64 s.id,.int .i64 s.n,.int .i64 s.view,.int .i64 s.last,.int .i64 s.status,.slice AL s.log.length cL,.int .i64 s.commit,.slice AM s.mat.length cM,.slice AK s.marks.length cK,.bool s.sent,.slice AB s.bals.length cB,.int .i64 s.elapsed,.int .i64 s.timeout,.slice AD s.draws.length cD] 29) (.cells #[.int .i64 k,.int .i64 x.kind,.int .i64 x.fro,.int .i64 x.dst,.int .i64 x.view,.int .i64 x.last,.int .i64 x.prev,.slice AX x.log.length cX,.int .i64 x.commit,.int .i64 x.mat,.slice A data.length c] 39) (.cells #[.int .i64 0,.int .i64 0,.int .i64 0,.int .i64 0,.int .i64 0,.slice none 0 0,.int .i64 0,.slice none 0 0,.slice none 0 0,.bool false,.slice none 0 0,.int .i64 0,.int .i64 0,.slice none 0 0] 29) (.cells #[.slice none 0 0] 33) (.cells #[.int .i64 0] 30)
  have HK:=Aside0.mk (And.intro k2 (And.intro k3 (And.intro k4 (And.intro k5 k6))))
  have HB0:=Aside0.mk hb0
  have HSZ:=Aside0.mk hsz
  clear k2 k3 k4 k5 k6 hsz
  clear H hz hr hc hb0
  go_enter_defers Try.func8,Try.ntmps8
  go_upto_region 2 with (go_at_call 19;refine(Check.calls s AL cL AM cM AK cK AB cB AD cD _ (Rd.below HR.out HB0.out)).mono ?_;rw [if_pos HC.out];rintro e w1 ⟨rfl,hb1⟩;have HB1:=Aside0.mk (HB0.out.trans (hb1.mono HB0.out.size));have HS1:=Aside0.mk (Nat.le_trans (Nat.le_of_eq HSZ.out.symm) hb1.size);have k2:=blk_below HK.out.1 hb1;have k3:=blk_below HK.out.2.1 hb1;have k4:=blk_below HK.out.2.2.1 hb1;have k5:=blk_below HK.out.2.2.2.1 hb1;have k6:=blk_below HK.out.2.2.2.2 hb1;have q6 : w1.cell? ⟨w.heap.size + 1 + 1 + 1 + 1,0,none⟩ = some (.int .i64 0):=(blk_cell k6 0).trans rfl;have g6:=blk_frozen k6 0;have KK:=Aside0.mk (And.intro k2 (And.intro k3 (And.intro k4 (And.intro k5 k6))));clear hb1 HK HB0 k2 k3 k4 k5 k6)
  have HW:=Aside0.mk (show Below w.heap.size w (w1.setCell ⟨w.heap.size + 1 + 1 + 1 + 1,0,none⟩ (.int .i64 0))∧w.heap.size + 1 + 1 + 1 + 1 + 1 ≤ (w1.setCell ⟨w.heap.size + 1 + 1 + 1 + 1,0,none⟩ (.int .i64 0)).heap.size from⟨HB1.out.setCell (by show w.heap.size ≤ w.heap.size + 1 + 1 + 1 + 1;omega) _,by simpa using HS1.out⟩)
  have k2:=(Below.heap_setCell w1 ⟨w.heap.size + 1 + 1 + 1 + 1,0,none⟩ (.int .i64 0) w.heap.size (by show w.heap.size ≠ w.heap.size + 1 + 1 + 1 + 1;omega)).trans KK.out.1
  have k3:=(Below.heap_setCell w1 ⟨w.heap.size + 1 + 1 + 1 + 1,0,none⟩ (.int .i64 0) (w.heap.size + 1) (by show w.heap.size + 1 ≠ w.heap.size + 1 + 1 + 1 + 1;omega)).trans KK.out.2.1
  have k4:=(Below.heap_setCell w1 ⟨w.heap.size + 1 + 1 + 1 + 1,0,none⟩ (.int .i64 0) (w.heap.size + 1 + 1) (by show w.heap.size + 1 + 1 ≠ w.heap.size + 1 + 1 + 1 + 1;omega)).trans KK.out.2.2.1
  have k5:=(Below.heap_setCell w1 ⟨w.heap.size + 1 + 1 + 1 + 1,0,none⟩ (.int .i64 0) (w.heap.size + 1 + 1 + 1) (by show w.heap.size + 1 + 1 + 1 ≠ w.heap.size + 1 + 1 + 1 + 1;omega)).trans KK.out.2.2.2.1
  have k6 : (w1.setCell ⟨w.heap.size + 1 + 1 + 1 + 1,0,none⟩ (.int .i64 0)).heap[w.heap.size + 1 + 1 + 1 + 1]? = some (.cells #[.int .i64 0] 30 (0,0)):=blk_set KK.out.2.2.2.2 0 (.int .i64 0)
  clear q6 g6 HB1 HS1 KK HSZ
  generalize w1.setCell ⟨w.heap.size + 1 + 1 + 1 + 1,0,none⟩ (.int .i64 0) = W at *
  have y6 : W.cell? ⟨w.heap.size + 1 + 1 + 1 + 1,0,none⟩ = some (.int .i64 0):=(blk_cell k6 0).trans rfl
  have x0 : W.cell? ⟨w.heap.size,0,none⟩ = some (.int .i64 s.id):=(blk_cell k2 0).trans rfl
  have x1 : W.cell? ⟨w.heap.size,1,none⟩ = some (.int .i64 s.n):=(blk_cell k2 1).trans rfl
  have x2 : W.cell? ⟨w.heap.size,2,none⟩ = some (.int .i64 s.view):=(blk_cell k2 2).trans rfl
  have x3 : W.cell? ⟨w.heap.size,3,none⟩ = some (.int .i64 s.last):=(blk_cell k2 3).trans rfl
  have x4 : W.cell? ⟨w.heap.size,4,none⟩ = some (.int .i64 s.status):=(blk_cell k2 4).trans rfl
  have x5 : W.cell? ⟨w.heap.size,5,none⟩ = some (.slice AL s.log.length cL):=(blk_cell k2 5).trans rfl
  have x6 : W.cell? ⟨w.heap.size,6,none⟩ = some (.int .i64 s.commit):=(blk_cell k2 6).trans rfl
  have x7 : W.cell? ⟨w.heap.size,7,none⟩ = some (.slice AM s.mat.length cM):=(blk_cell k2 7).trans rfl
  have x8 : W.cell? ⟨w.heap.size,8,none⟩ = some (.slice AK s.marks.length cK):=(blk_cell k2 8).trans rfl
  have x9 : W.cell? ⟨w.heap.size,9,none⟩ = some (.bool s.sent):=(blk_cell k2 9).trans rfl
  have x10 : W.cell? ⟨w.heap.size,10,none⟩ = some (.slice AB s.bals.length cB):=(blk_cell k2 10).trans rfl
  have x11 : W.cell? ⟨w.heap.size,11,none⟩ = some (.int .i64 s.elapsed):=(blk_cell k2 11).trans rfl
  have x12 : W.cell? ⟨w.heap.size,12,none⟩ = some (.int .i64 s.timeout):=(blk_cell k2 12).trans rfl
  have x13 : W.cell? ⟨w.heap.size,13,none⟩ = some (.slice AD s.draws.length cD):=(blk_cell k2 13).trans rfl
  have e0 : W.cell? ⟨w.heap.size + 1,0,none⟩ = some (.int .i64 k):=(blk_cell k3 0).trans rfl
  have KK:=Aside0.mk (And.intro k2 (And.intro k3 (And.intro k4 (And.intro k5 k6))))
  clear k2 k3 k4 k5 k6
  go_upto_region 8 with (first|(go_at_call 14;refine(within.calls _ _ _ _).mono ?_;rw [hk];rintro e w' ⟨rfl,rfl⟩)|(go_at_call 21;refine(State_clone.calls s AL cL AM cM AK cK AB cB AD cD _ (Rd.below HR.out HW.out.1) ⟨HZ.out.log,HZ.out.mat,HZ.out.marks,HZ.out.draws,HZ.out.bals,HZ.out.logs,HZ.out.ballogs⟩).mono ?_;rintro e w2 ⟨vL,vM,vK,vB,vD,N,rfl,r1,r2,r3,r4,r5,hb2⟩;obtain ⟨BL,dL,rfl⟩:=Kd.R_slice r1;obtain ⟨BM,dM,rfl⟩:=Kd.R_slice r2;obtain ⟨BK,dK,rfl⟩:=Kd.R_slice r3;obtain ⟨BB,dB,rfl⟩:=Kd.R_slice r4;obtain ⟨BD,dD,rfl⟩:=Kd.R_slice r5;have RR:=Aside0.mk (And.intro r1 (And.intro r2 (And.intro r3 (And.intro r4 (And.intro r5 hb2)))));clear r1 r2 r3 r4 r5 hb2))
  obtain ⟨r1,r2,r3,r4,r5,hb2⟩:=RR.out
  obtain ⟨gd,hgd,hM⟩:=Mac_clone (gd0:=w.heap.size) (by have:=HW.out.2;omega) hb2.size r1 r2 r3 r4 r5
  have HB3:=Aside0.mk (HW.out.1.trans ((below_alloc hb2 (.cells #[.int .i64 s.id,.int .i64 s.n,.int .i64 s.view,.int .i64 s.last,.int .i64 s.status,.slice BL s.log.length dL,.int .i64 s.commit,.slice BM s.mat.length dM,.slice BK s.marks.length dK,.bool s.sent,.slice BB s.bals.length dB,.int .i64 s.elapsed,.int .i64 s.timeout,.slice BD s.draws.length dD,.slice none 0 0] 61)).mono (by have:=HW.out.2;omega)))
  have HS3:=Aside0.mk (And.intro HW.out.2 hb2.size)
  have k3:=blk_alloc (blk_below KK.out.2.1 hb2) (.cells #[.int .i64 s.id,.int .i64 s.n,.int .i64 s.view,.int .i64 s.last,.int .i64 s.status,.slice BL s.log.length dL,.int .i64 s.commit,.slice BM s.mat.length dM,.slice BK s.marks.length dK,.bool s.sent,.slice BB s.bals.length dB,.int .i64 s.elapsed,.int .i64 s.timeout,.slice BD s.draws.length dD,.slice none 0 0] 61)
  have KR:=Aside0.mk (And.intro (blk_alloc (blk_below KK.out.2.2.1 hb2) (.cells #[.int .i64 s.id,.int .i64 s.n,.int .i64 s.view,.int .i64 s.last,.int .i64 s.status,.slice BL s.log.length dL,.int .i64 s.commit,.slice BM s.mat.length dM,.slice BK s.marks.length dK,.bool s.sent,.slice BB s.bals.length dB,.int .i64 s.elapsed,.int .i64 s.timeout,.slice BD s.draws.length dD,.slice none 0 0] 61)) (And.intro (blk_alloc (blk_below KK.out.2.2.2.1 hb2) (.cells #[.int .i64 s.id,.int .i64 s.n,.int .i64 s.view,.int .i64 s.last,.int .i64 s.status,.slice BL s.log.length dL,.int .i64 s.commit,.slice BM s.mat.length dM,.slice BK s.marks.length dK,.bool s.sent,.slice BB s.bals.length dB,.int .i64 s.elapsed,.int .i64 s.timeout,.slice BD s.draws.length dD,.slice none 0 0] 61)) (blk_alloc (blk_below KK.out.2.2.2.2 hb2) (.cells #[.int .i64 s.id,.int .i64 s.n,.int .i64 s.view,.int .i64 s.last,.int .i64 s.status,.slice BL s.log.length dL,.int .i64 s.commit,.slice BM s.mat.length dM,.slice BK s.marks.length dK,.bool s.sent,.slice BB s.bals.length dB,.int .i64 s.elapsed,.int .i64 s.timeout,.slice BD s.draws.length dD,.slice none 0 0] 61))))
  have HM:=Aside0.mk hM
  have HD:=Aside0.mk hgd
  have HSW : Aside0 ((w2.alloc (.cells #[.int .i64 s.id,.int .i64 s.n,.int .i64 s.view,.int .i64 s.last,.int .i64 s.status,.slice BL s.log.length dL,.int .i64 s.commit,.slice BM s.mat.length dM,.slice BK s.marks.length dK,.bool s.sent,.slice BB s.bals.length dB,.int .i64 s.elapsed,.int .i64 s.timeout,.slice BD s.draws.length dD,.slice none 0 0] 61)).heap.size = w2.heap.size + 1):=⟨by simp⟩
  clear RR r1 r2 r3 r4 r5 hb2 hM hgd KK x0 x1 x2 x3 x4 x5 x6 x7 x8 x9 x10 x11 x12 x13 e0 y6
  obtain ⟨b,hbe⟩ : ∃ b,b = w2.heap.size:=⟨_,rfl⟩
  simp only [← hbe] at *
  have HBE:=Aside0.mk hbe
  clear hbe
  generalize w2.alloc (.cells #[.int .i64 s.id,.int .i64 s.n,.int .i64 s.view,.int .i64 s.last,.int .i64 s.status,.slice BL s.log.length dL,.int .i64 s.commit,.slice BM s.mat.length dM,.slice BK s.marks.length dK,.bool s.sent,.slice BB s.bals.length dB,.int .i64 s.elapsed,.int .i64 s.timeout,.slice BD s.draws.length dD,.slice none 0 0] 61) = V at *
  have e0 : V.cell? ⟨w.heap.size + 1,0,none⟩ = some (.int .i64 k):=(blk_cell k3 0).trans rfl
  have e1 : V.cell? ⟨w.heap.size + 1,1,none⟩ = some (.int .i64 x.kind):=(blk_cell k3 1).trans rfl
  have e2 : V.cell? ⟨w.heap.size + 1,2,none⟩ = some (.int .i64 x.fro):=(blk_cell k3 2).trans rfl
  have e3 : V.cell? ⟨w.heap.size + 1,3,none⟩ = some (.int .i64 x.dst):=(blk_cell k3 3).trans rfl
  have e4 : V.cell? ⟨w.heap.size + 1,4,none⟩ = some (.int .i64 x.view):=(blk_cell k3 4).trans rfl
  have e5 : V.cell? ⟨w.heap.size + 1,5,none⟩ = some (.int .i64 x.last):=(blk_cell k3 5).trans rfl
  have e6 : V.cell? ⟨w.heap.size + 1,6,none⟩ = some (.int .i64 x.prev):=(blk_cell k3 6).trans rfl
  have e7 : V.cell? ⟨w.heap.size + 1,7,none⟩ = some (.slice AX x.log.length cX):=(blk_cell k3 7).trans rfl
  have e8 : V.cell? ⟨w.heap.size + 1,8,none⟩ = some (.int .i64 x.commit):=(blk_cell k3 8).trans rfl
  have e9 : V.cell? ⟨w.heap.size + 1,9,none⟩ = some (.int .i64 x.mat):=(blk_cell k3 9).trans rfl
  have e10 : V.cell? ⟨w.heap.size + 1,10,none⟩ = some (.slice A data.length c):=(blk_cell k3 10).trans rfl
  go_still_tail 6,(by kernel_rfl)
  change wpList _ _ _ _ _ V.drew
  have HP : ∀ k,V.drew.heap.size ≤ k→w'.heap.size ≤ k∧k ≠ b∧k ≠ gd:=fun k hk2=>by
    have h1 : V.heap.size ≤ k:=hk2
    have h2:=HSW.out
    have h3:=HM.out.1
    have h4:=HS3.out.2
    exact⟨by omega,by omega,by omega⟩
  have HHH:=Aside0.mk (HH.out V.drew b gd _ (below_drew HB3.out) (HM.out.below (below_drew (Below.refl _ _))) HP ⟨fun h=>h.2.2 rfl,HD.out.1⟩ (fun k hk2=>by have h1:=HS3.out;rcases hk2 with h|h;exact Nat.le_trans (by omega) h.1;omega))
  have HBD:=Aside0.mk (below_drew HB3.out)
  have KD : Aside0 (V.drew.heap[w.heap.size + 1 + 1]? = some (.cells #[.int .i64 0,.int .i64 0,.int .i64 0,.int .i64 0,.int .i64 0,.slice none 0 0,.int .i64 0,.slice none 0 0,.slice none 0 0,.bool false,.slice none 0 0,.int .i64 0,.int .i64 0,.slice none 0 0] 29 (0,0))∧V.drew.heap[w.heap.size + 1 + 1 + 1]? = some (.cells #[.slice none 0 0] 33 (0,0))∧V.drew.heap[w.heap.size + 1 + 1 + 1 + 1]? = some (.cells #[.int .i64 0] 30 (0,0))):=⟨KR.out⟩
  clear HP HH HB3 KR k3 HM HSW HZ HR HC
  cases r with
  | some ec =>
    go_wp2_with (go_at_fn hf;refine(HHH.out).mono ?_;rintro e w9 ⟨hkp,rfl⟩)
    have hn : ∀ k,k < w'.heap.size→¬ (k = b∨w'.heap.size ≤ k∧k ≠ b∧k ≠ gd):=fun k hk2 h=>by
      have h1:=HS3.out
      rcases h with h|h <;> omega
    have h5:=HS3.out.1
    refine leaves_cons (f:=20) (args:=#[.pointer (some ⟨w.heap.size + 1 + 1,0,none⟩),.pointer (some ⟨w.heap.size + 1 + 1 + 1,0,none⟩),.pointer (some ⟨w.heap.size + 1 + 1 + 1 + 1,0,none⟩)]) (by simp) (by simp [go_sem]) ?_
    refine(Catch.bad (w.heap.size + 1 + 1) (w.heap.size + 1 + 1 + 1) (w.heap.size + 1 + 1 + 1 + 1) _ _ _ ec [] w9 (blk_keeps KD.out.1 hkp (hn _ (by omega))) (blk_keeps KD.out.2.1 hkp (hn _ (by omega))) (blk_keeps KD.out.2.2 hkp (hn _ (by omega))) rfl (by omega) (by omega) (by omega)).mono ?_
    rintro e u' w10 ⟨rfl,rfl,k4,k5,k6,hk10⟩
    have hres:=fun t h4 h5 h6=>step_results (tmps:=t) _ _ _ _ _ ec h4 h5 h6 k4 rfl k5 k6
    refine⟨_,hres _ rfl rfl rfl,?_,rfl⟩
    exact Below.keeps (Below.keeps HBD.out hkp HBD.out.size (fun k hk2=>by have h1:=HS3.out;rcases hk2 with h|h <;> omega)) hk10 (Nat.le_trans HBD.out.size hkp.size) (fun k hk2=>by rcases hk2 with h|h|h <;> omega)
  | none =>
    go_upto_region 9 with (go_at_fn hf;refine(HHH.out).mono ?_;rintro e w9 ⟨hkp,rfl,hm⟩;have HKP:=Aside0.mk hkp;have HM9:=Aside0.mk hm;clear hkp hm)
    obtain ⟨_,CL,dL',CM,dM',CK,dK',CB,dB',CD,dD',CO,dO',hb9,h1,h2,h3,h4,h5,h6,h7⟩:=HM9.out
    have hn : ∀ k,k < w'.heap.size→¬ (k = b∨w'.heap.size ≤ k∧k ≠ b∧k ≠ gd):=fun k hk2 h=>by
      have h1:=HS3.out
      rcases h with h|h <;> omega
    have s5:=HS3.out.1
    have k4:=blk_keeps KD.out.1 HKP.out (hn _ (by omega))
    have k5:=blk_keeps KD.out.2.1 HKP.out (hn _ (by omega))
    have k6:=blk_keeps KD.out.2.2 HKP.out (hn _ (by omega))
    have HROW:=Aside0.mk (And.intro h1 (And.intro h2 (And.intro h3 (And.intro h4 (And.intro h5 (And.intro h6 h7))))))
    have HBB:=Aside0.mk (Below.keeps HBD.out HKP.out HBD.out.size (fun k hk2=>by have h1:=HS3.out;rcases hk2 with h|h <;> omega))
    clear h1 h2 h3 h4 h5 h6 h7 hn HKP HM9 KD HHH ix eg hk hmf
    have hbz:=blk_lt hb9
    have HNE:=Aside0.mk (show b ≠ w.heap.size + 1 + 1∧b ≠ w.heap.size + 1 + 1 + 1∧b ≠ w.heap.size + 1 + 1 + 1 + 1 from by have h1:=HS3.out;exact⟨by omega,by omega,by omega⟩)
    refine region_tab (fun u=>⟨#[.agg #[.int .i64 s.id,.int .i64 s.n,.int .i64 s.view,.int .i64 s.last,.int .i64 s.status,.slice AL s.log.length cL,.int .i64 s.commit,.slice AM s.mat.length cM,.slice AK s.marks.length cK,.bool s.sent,.slice AB s.bals.length cB,.int .i64 s.elapsed,.int .i64 s.timeout,.slice AD s.draws.length cD],.agg #[.int .i64 k,.int .i64 x.kind,.int .i64 x.fro,.int .i64 x.dst,.int .i64 x.view,.int .i64 x.last,.int .i64 x.prev,.slice AX x.log.length cX,.int .i64 x.commit,.int .i64 x.mat,.slice A data.length c],.pointer (some ⟨w.heap.size,0,none⟩),.pointer (some ⟨w.heap.size + 1,0,none⟩),.pointer (some ⟨w.heap.size + 1 + 1,0,none⟩),.pointer (some ⟨w.heap.size + 1 + 1 + 1,0,none⟩),.pointer (some ⟨w.heap.size + 1 + 1 + 1 + 1,0,none⟩),.pointer (some ⟨b,0,none⟩),.agg #[.int .i64 s.id,.int .i64 s.n,.int .i64 s.view,.int .i64 s.last,.int .i64 s.status,.slice AL s.log.length cL,.int .i64 s.commit,.slice AM s.mat.length cM,.slice AK s.marks.length cK,.bool s.sent,.slice AB s.bals.length cB,.int .i64 s.elapsed,.int .i64 s.timeout,.slice AD s.draws.length cD],.int .i64 0,.int .i64 0,.bool false,undef,undef,.pointer (some ⟨w.heap.size + 1,0,none⟩),.int .i64 k,.bool true,.bool false,undef,.func (.func 20) #[] #[.pointer (some ⟨w.heap.size + 1 + 1,0,none⟩),.pointer (some ⟨w.heap.size + 1 + 1 + 1,0,none⟩),.pointer (some ⟨w.heap.size + 1 + 1 + 1 + 1,0,none⟩)],.agg #[.int .i64 s.id,.int .i64 s.n,.int .i64 s.view,.int .i64 s.last,.int .i64 s.status,.slice AL s.log.length cL,.int .i64 s.commit,.slice AM s.mat.length cM,.slice AK s.marks.length cK,.bool s.sent,.slice AB s.bals.length cB,.int .i64 s.elapsed,.int .i64 s.timeout,.slice AD s.draws.length cD],.agg #[.int .i64 s.id,.int .i64 s.n,.int .i64 s.view,.int .i64 s.last,.int .i64 s.status,.slice BL s.log.length dL,.int .i64 s.commit,.slice BM s.mat.length dM,.slice BK s.marks.length dK,.bool s.sent,.slice BB s.bals.length dB,.int .i64 s.elapsed,.int .i64 s.timeout,.slice BD s.draws.length dD],.agg #[.int .i64 s.id,.int .i64 s.n,.int .i64 s.view,.int .i64 s.last,.int .i64 s.status,.slice BL s.log.length dL,.int .i64 s.commit,.slice BM s.mat.length dM,.slice BK s.marks.length dK,.bool s.sent,.slice BB s.bals.length dB,.int .i64 s.elapsed,.int .i64 s.timeout,.slice BD s.draws.length dD,.slice none 0 0],.pointer (some ⟨b,0,none⟩),.agg #[.nilFunc,.func (.func 22) #[] #[],.func (.func 23) #[] #[],.func (.func 24) #[] #[]],.pointer (some ⟨w.heap.size + 1,0,none⟩),.int .i64 k,.func (.func hf) #[] #[],.pointer (some ⟨b,0,none⟩),.agg #[.int .i64 k,.int .i64 x.kind,.int .i64 x.fro,.int .i64 x.dst,.int .i64 x.view,.int .i64 x.last,.int .i64 x.prev,.slice AX x.log.length cX,.int .i64 x.commit,.int .i64 x.mat,.slice A data.length c],.tuple #[],u 31,u 32,u 33,u 34,u 35,u 36,u 37,u 38],[{ target:=.fn (.func 20) #[.pointer (some ⟨w.heap.size + 1 + 1,0,none⟩),.pointer (some ⟨w.heap.size + 1 + 1 + 1,0,none⟩),.pointer (some ⟨w.heap.size + 1 + 1 + 1 + 1,0,none⟩)],args:=#[] }]⟩) (fun _=>undef) (fun i v=>match i with|0=>v = .pointer (some ⟨b,0,none⟩)|1=>v = .pointer (some ⟨b,0,none⟩)|2=>v = .pointer (some ⟨b,0,none⟩)|3=>v = .agg #[.int .i64 s'.id,.int .i64 s'.n,.int .i64 s'.view,.int .i64 s'.last,.int .i64 s'.status,.slice CL s'.log.length dL',.int .i64 s'.commit,.slice CM s'.mat.length dM',.slice CK s'.marks.length dK',.bool s'.sent,.slice CB s'.bals.length dB',.int .i64 s'.elapsed,.int .i64 s'.timeout,.slice CD s'.draws.length dD']|4=>v = .pointer (some ⟨b,0,none⟩)|5=>v = .pointer (some ⟨b,0,none⟩)|6=>v = .pointer (some ⟨b,14,none⟩)|7=>v = .slice CO out.length dO'|_=>True) (fun l _ wx=>G9 w9 b (w.heap.size + 1 + 1) (w.heap.size + 1 + 1 + 1) (w.heap.size + 1 + 1 + 1 + 1) #[.int .i64 s'.id,.int .i64 s'.n,.int .i64 s'.view,.int .i64 s'.last,.int .i64 s'.status,.slice CL s'.log.length dL',.int .i64 s'.commit,.slice CM s'.mat.length dM',.slice CK s'.marks.length dK',.bool s'.sent,.slice CB s'.bals.length dB',.int .i64 s'.elapsed,.int .i64 s'.timeout,.slice CD s'.draws.length dD',.slice CO out.length dO'] #[.int .i64 s'.id,.int .i64 s'.n,.int .i64 s'.view,.int .i64 s'.last,.int .i64 s'.status,.slice CL s'.log.length dL',.int .i64 s'.commit,.slice CM s'.mat.length dM',.slice CK s'.marks.length dK',.bool s'.sent,.slice CB s'.bals.length dB',.int .i64 s'.elapsed,.int .i64 s'.timeout,.slice CD s'.draws.length dD'] (.slice CO out.length dO') l wx) (by first|rfl|kernel_rfl) (by kernel_rfl) (by kernel_rfl) rfl ?tg0 ?tput ?tg ?tstep ?tdone
    case tg0=>exact⟨hb9,Keeps.drew (Keeps.refl _ _),k4,k5,k6⟩
    case tput =>
      intro i o ho u v
      rcases i with _|_|_|_|_|_|_|_|_|_|_|i
      all_goals first|(obtain rfl:=Option.some.inj (show some _ = some o from ho);rfl)|exact absurd ho (by simp)
    case tg =>
      intro i o ho
      rcases i with _|_|_|_|_|_|_|_|_|_|_|i
      all_goals first|(obtain rfl:=Option.some.inj (show some _ = some o from ho);rfl)|exact absurd ho (by simp)
    case tstep =>
      intro l u wx i o hx hG hF ho hl hn
      rcases i with _|_|_|_|_|_|_|_|_|_|_|i
      · obtain rfl:=Option.some.inj (show some _ = some o from ho)
        refine wv_ (v:=.pointer (some ⟨b,0,none⟩)) (by go_simp;with_reducible rfl) ?_
        exact⟨_,rfl,rfl,G9.upd (by decide) (by decide) hG⟩
      · obtain rfl:=Option.some.inj (show some _ = some o from ho)
        have e31 : u 31 = _:=hF 0 (by decide) (hn 0 (by decide)) 31 rfl
        refine wv_ (v:=.pointer (some ⟨b,0,none⟩)) (by go_simp;with_reducible rfl) ?_
        exact⟨_,rfl,rfl,G9.upd (by decide) (by decide) hG⟩
      · obtain rfl:=Option.some.inj (show some _ = some o from ho)
        have e32 : u 32 = _:=hF 1 (by decide) (hn 1 (by decide)) 32 rfl
        refine wv_ (v:=.pointer (some ⟨b,0,none⟩)) (by go_simp;with_reducible rfl) ?_
        exact⟨_,rfl,rfl,G9.upd (by decide) (by decide) hG⟩
      · obtain rfl:=Option.some.inj (show some _ = some o from ho)
        have e33 : u 33 = _:=hF 2 (by decide) (hn 2 (by decide)) 33 rfl
        have g0 : wx.cell? ⟨b,0,none⟩ = some (.int .i64 s'.id):=(blk_cell hG.1 0).trans rfl
        have g1 : wx.cell? ⟨b,1,none⟩ = some (.int .i64 s'.n):=(blk_cell hG.1 1).trans rfl
        have g2 : wx.cell? ⟨b,2,none⟩ = some (.int .i64 s'.view):=(blk_cell hG.1 2).trans rfl
        have g3 : wx.cell? ⟨b,3,none⟩ = some (.int .i64 s'.last):=(blk_cell hG.1 3).trans rfl
        have g4 : wx.cell? ⟨b,4,none⟩ = some (.int .i64 s'.status):=(blk_cell hG.1 4).trans rfl
        have g5 : wx.cell? ⟨b,5,none⟩ = some (.slice CL s'.log.length dL'):=(blk_cell hG.1 5).trans rfl
        have g6 : wx.cell? ⟨b,6,none⟩ = some (.int .i64 s'.commit):=(blk_cell hG.1 6).trans rfl
        have g7 : wx.cell? ⟨b,7,none⟩ = some (.slice CM s'.mat.length dM'):=(blk_cell hG.1 7).trans rfl
        have g8 : wx.cell? ⟨b,8,none⟩ = some (.slice CK s'.marks.length dK'):=(blk_cell hG.1 8).trans rfl
        have g9 : wx.cell? ⟨b,9,none⟩ = some (.bool s'.sent):=(blk_cell hG.1 9).trans rfl
        have g10 : wx.cell? ⟨b,10,none⟩ = some (.slice CB s'.bals.length dB'):=(blk_cell hG.1 10).trans rfl
        have g11 : wx.cell? ⟨b,11,none⟩ = some (.int .i64 s'.elapsed):=(blk_cell hG.1 11).trans rfl
        have g12 : wx.cell? ⟨b,12,none⟩ = some (.int .i64 s'.timeout):=(blk_cell hG.1 12).trans rfl
        have g13 : wx.cell? ⟨b,13,none⟩ = some (.slice CD s'.draws.length dD'):=(blk_cell hG.1 13).trans rfl
        refine wv_ (v:=.agg #[.int .i64 s'.id,.int .i64 s'.n,.int .i64 s'.view,.int .i64 s'.last,.int .i64 s'.status,.slice CL s'.log.length dL',.int .i64 s'.commit,.slice CM s'.mat.length dM',.slice CK s'.marks.length dK',.bool s'.sent,.slice CB s'.bals.length dB',.int .i64 s'.elapsed,.int .i64 s'.timeout,.slice CD s'.draws.length dD']) (by go_simp;with_reducible rfl) ?_
        exact⟨_,rfl,rfl,G9.upd (by decide) (by decide) hG⟩
      · obtain rfl:=Option.some.inj (show some _ = some o from ho)
        refine wv_ (v:=.pointer (some ⟨b,0,none⟩)) (by go_simp;with_reducible rfl) ?_
        exact⟨_,rfl,rfl,G9.upd (by decide) (by decide) hG⟩
      · obtain rfl:=Option.some.inj (show some _ = some o from ho)
        have e35 : u 35 = _:=hF 4 (by decide) (hn 4 (by decide)) 35 rfl
        refine wv_ (v:=.pointer (some ⟨b,0,none⟩)) (by go_simp;with_reducible rfl) ?_
        exact⟨_,rfl,rfl,G9.upd (by decide) (by decide) hG⟩
      · obtain rfl:=Option.some.inj (show some _ = some o from ho)
        have e36 : u 36 = _:=hF 5 (by decide) (hn 5 (by decide)) 36 rfl
        refine wv_ (v:=.pointer (some ⟨b,14,none⟩)) (by go_simp;with_reducible rfl) ?_
        exact⟨_,rfl,rfl,G9.upd (by decide) (by decide) hG⟩
      · obtain rfl:=Option.some.inj (show some _ = some o from ho)
        have e37 : u 37 = _:=hF 6 (by decide) (hn 6 (by decide)) 37 rfl
        have g14 : wx.cell? ⟨b,14,none⟩ = some (.slice CO out.length dO'):=(blk_cell hG.1 14).trans rfl
        refine wv_ (v:=.slice CO out.length dO') (by go_simp;with_reducible rfl) ?_
        exact⟨_,rfl,rfl,G9.upd (by decide) (by decide) hG⟩
      · obtain rfl:=Option.some.inj (show some _ = some o from ho)
        have e34 : u 34 = _:=hF 3 (by decide) (hn 3 (by decide)) 34 rfl
        refine wp_store_row 29 (.tmp 4) (.tmp 34) rfl (w.heap.size + 1 + 1) #[.int .i64 s'.id,.int .i64 s'.n,.int .i64 s'.view,.int .i64 s'.last,.int .i64 s'.status,.slice CL s'.log.length dL',.int .i64 s'.commit,.slice CM s'.mat.length dM',.slice CK s'.marks.length dK',.bool s'.sent,.slice CB s'.bals.length dB',.int .i64 s'.elapsed,.int .i64 s'.timeout,.slice CD s'.draws.length dD'] rfl e34 29 _ (hG.2.2.1) (by kernel_rfl) (by rw [hl];rfl) (by kernel_rfl) ?_
        exact⟨undef,rfl,trivial,G9.s8 hG HNE.out.1 (by omega) (by omega)⟩
      · obtain rfl:=Option.some.inj (show some _ = some o from ho)
        have e38 : u 38 = _:=hF 7 (by decide) (hn 7 (by decide)) 38 rfl
        have q5:=hG.2.2.2.1
        rw [hl] at q5
        have y5 : wx.cell? ⟨w.heap.size + 1 + 1 + 1,0,none⟩ = some (.slice none 0 0):=(blk_cell q5 0).trans rfl
        have f5:=blk_frozen q5 0
        refine ws_ (w1:=wx.setCell ⟨w.heap.size + 1 + 1 + 1,0,none⟩ (.slice CO out.length dO')) (by first|(go_simp;done)|(go_simp;with_reducible rfl)) ?_
        exact⟨undef,rfl,trivial,G9.s9 hG HNE.out.2.1 (by omega) (by omega)⟩
      · obtain rfl:=Option.some.inj (show some _ = some o from ho)
        have q6:=hG.2.2.2.2
        have y6 : wx.cell? ⟨w.heap.size + 1 + 1 + 1 + 1,0,none⟩ = some (.int .i64 0):=(blk_cell q6 0).trans rfl
        have f6:=blk_frozen q6 0
        refine ws_ (w1:=wx.setCell ⟨w.heap.size + 1 + 1 + 1 + 1,0,none⟩ (.int .i64 0)) (by first|(go_simp;done)|(go_simp;with_reducible rfl)) ?_
        exact⟨undef,rfl,trivial,G9.s10 hG HNE.out.2.2 (by omega) (by omega)⟩
      · exact absurd ho (by simp)
    case tdone =>
      intro l u wx hall hG hF
      dsimp only
      go_wp2_with fail
      refine leaves_cons (f:=20) (args:=#[.pointer (some ⟨w.heap.size + 1 + 1,0,none⟩),.pointer (some ⟨w.heap.size + 1 + 1 + 1,0,none⟩),.pointer (some ⟨w.heap.size + 1 + 1 + 1 + 1,0,none⟩)]) (by simp) (by simp [go_sem]) ?_
      refine(Catch.idle ⟨w.heap.size + 1 + 1,0,none⟩ ⟨w.heap.size + 1 + 1 + 1,0,none⟩ ⟨w.heap.size + 1 + 1 + 1 + 1,0,none⟩ _).mono ?_
      rintro e u' w10 ⟨rfl,rfl,rfl⟩
      obtain ⟨_,hkx,q4,q5,q6⟩:=hG
      rw [hall 8 (by decide)] at q4
      rw [hall 9 (by decide)] at q5
      rw [if_pos rfl] at q4 q5
      have hres:=fun t h4 h5 h6=>step_results (tmps:=t) _ _ _ _ _ 0 h4 h5 h6 q4 rfl q5 q6
      have hB:=Below.keeps HBB.out hkx HBB.out.size (fun k hk2=>by rcases hk2 with h|h|h <;> omega)
      have hS : ∀ k,(w'.heap.size ≤ k∧k ≠ b∧k ≠ gd)→¬ (k = w.heap.size + 1 + 1∨k = w.heap.size + 1 + 1 + 1∨k = w.heap.size + 1 + 1 + 1 + 1):=fun k hk2 h=>by
        rcases h with h|h|h <;> omega
      obtain ⟨r1,r2,r3,r4,r5,r6,r7⟩:=HROW.out
      refine⟨_,hres _ rfl rfl rfl,hB,CL,dL',CM,dM',CK,dK',CB,dB',CD,dD',CO,dO',rfl,fun WW hkw=>?_⟩
      have hT : ∀ k,(w'.heap.size ≤ k∧k ≠ b∧k ≠ gd)→¬ k < w.heap.size:=fun k hk2 h=>by omega
      have m1:=(Kd.R_reads' (Kd.R_keeps (Kd.R_keeps r1 hkx hS) hkw hT)).2
      have m2:=(Kd.R_reads' (Kd.R_keeps (Kd.R_keeps r2 hkx hS) hkw hT)).2
      have m3:=(Kd.R_reads' (Kd.R_keeps (Kd.R_keeps r3 hkx hS) hkw hT)).2
      have m4:=(Kd.R_reads' (Kd.R_keeps (Kd.R_keeps r4 hkx hS) hkw hT)).2
      have m5:=(Kd.R_reads' (Kd.R_keeps (Kd.R_keeps r5 hkx hS) hkw hT)).2
      have m7:=Kd.F_now (Kd.F_step (Kd.F_step r7 (fun k hk2 hlt=>hkx.block k hlt (fun h=>by have h1:=HD.out.2;rcases h with h|h|h <;> omega))) (fun k hk2 hlt=>hkw.block k hlt (fun h=>by have h1:=HD.out.2;omega)))
      exact⟨⟨⟨m1.2,m1.1⟩,⟨m2.2,m2.1⟩,⟨m3.2,m3.1⟩,⟨m4.2,m4.1⟩,⟨m7,r6⟩⟩,m5.2⟩
end Go.Proofs.Ytojjnifbnppliaa.T
end
section
namespace Go.Proofs.Ytojjnifbnppliaa.T
open Go.RowKit Go.Proofs.YtojjnifbnppliaaW.PrintWords Go.Proofs.YtojjnifbnppliaaW.PrintLast Go.Proofs.YtojjnifbnppliaaW.PrintMore
attribute [local go_sem] max2_int min2_int max_two min_two max_three min_three max_four min_four
set_option linter.unusedVariables false
set_option linter.unusedSimpArgs false
structure Chk (s : St) : Prop where
  n : 1 ≤ s.n∧s.n ≤ 9
  id : 0 ≤ s.id∧s.id ≤ s.n - 1
  view : 0 ≤ s.view∧s.view ≤ 1099511627776
  last : 0 ≤ s.last∧s.last ≤ s.view
  status : 0 ≤ s.status∧s.status ≤ 1
  normal : s.status = 1∨s.last = s.view
  log : mayLogV s.log = true
  commit : 0 ≤ s.commit∧s.commit ≤ s.log.length
  elapsed : 0 ≤ s.elapsed∧s.elapsed ≤ 1073741824
  timeout : 0 ≤ s.timeout∧s.timeout ≤ 1073741824
  draws : (s.draws.length : Int) ≤ 4096
  sent : s.status = 1∨s.sent = false
  mat : (s.mat.length : Int) = szM s.id s.n s.view s.status
  marks : (s.marks.length : Int) = szK s.id s.n s.view s.status
  bals : (s.bals.length : Int) = szB s.id s.n s.view s.status
  mats : ∀ x ∈ s.mat,badN x = false
  balls : ∀ b ∈ s.bals,mayNot b = false
theorem check_iff (s : St) : checkV s = true↔Chk s:=by
  unfold checkV okA okB badC
  simp only [Bool.and_eq_true,Bool.or_eq_true,Bool.not_eq_true',Bool.or_eq_false_iff,decide_eq_true_eq,beq_iff_eq,bne_eq_false_iff_eq,wi_iff,List.any_eq_false,Bool.not_eq_true]
  constructor
  · rintro ⟨⟨h1,h2,h3,h4,h5,h6⟩,⟨g1,g2,g3,g4,g5,g6⟩,k1,k2,k3,k4,k5⟩
    exact⟨h1,h2,h3,h4,h5,h6,g1,g2,g3,g4,g5,g6,k1,k2,k3,k4,k5⟩
  · rintro ⟨h1,h2,h3,h4,h5,h6,g1,g2,g3,g4,g5,g6,k1,k2,k3,k4,k5⟩
    exact⟨⟨h1,h2,h3,h4,h5,h6⟩,⟨g1,g2,g3,g4,g5,g6⟩,k1,k2,k3,k4,k5⟩
section
variable {s : St} {n : Int}
theorem szM_le (h : 0 ≤ n∧n ≤ 9) (id view status : Int) : szM id n view status ≤ 9:=by unfold szM;split <;> omega
theorem szK_le (h : 0 ≤ n∧n ≤ 9) (id view status : Int) : szK id n view status ≤ 9:=by unfold szK;split;omega;split <;> omega
theorem szB_le (h : 0 ≤ n∧n ≤ 9) (id view status : Int) : szB id n view status ≤ 9:=by unfold szB;split;omega;split;split <;> omega;omega
theorem Chk.fits (h : Chk s) : Fits s:=by
  obtain ⟨hl,hx⟩:=mayLogV_iff.1 h.log
  have hn : 0 ≤ s.n∧s.n ≤ 9:=⟨by have:=h.n.1;omega,h.n.2⟩
  have h1:=szM_le hn s.id s.view s.status
  have h2:=szK_le hn s.id s.view s.status
  have h3:=szB_le hn s.id s.view s.status
  have m:=h.mat
  have k:=h.marks
  have b:=h.bals
  have d:=h.draws
  refine⟨by omega,by omega,by omega,by omega,by omega,fun x hx'=>by have:=hx x hx';omega,fun q hq=>?_⟩
  have hb:=h.balls q hq
  unfold mayNot mayV at hb
  split at hb
  · simp only [Bool.not_eq_false',Bool.and_eq_true] at hb
    obtain ⟨hl2,hx2⟩:=mayLogV_iff.1 hb.1
    exact⟨by omega,fun x hx'=>by have:=hx2 x hx';omega⟩
  · simp only [Bool.not_eq_false',Bool.and_eq_true,beq_iff_eq] at hb
    have h0 : q.f2.length = 0:=by have:=hb.2.1;omega
    have h00:=List.eq_nil_of_length_eq_zero h0
    exact⟨by rw [h0];omega,fun x hx'=>by rw [h00] at hx';simp at hx'⟩
theorem Chk.okm (h : Chk s) : Okm s:=⟨h.n,⟨h.id.1,by have:=h.id.2;omega⟩,h.commit,(mayLogV_iff.1 h.log).1,fun hl=>by rw [h.mat];unfold szM;rw [if_pos hl]⟩
theorem Chk.bals_nil (h : Chk s) (hl : leadsV s.id s.n s.view s.status = true) : s.bals = []:=by
  have:=h.bals
  unfold szB at this
  rw [if_pos hl] at this
  exact List.eq_nil_of_length_eq_zero (by omega)
end
theorem mex3 (w : World) : (Instr.index 64 mexs (.int .i64 3)).run Try.prog w = .ok (.func (.func 24) #[] #[]) w:=by kernel_rfl
theorem mex2 (w : World) : (Instr.index 64 mexs (.int .i64 2)).run Try.prog w = .ok (.func (.func 23) #[] #[]) w:=by kernel_rfl
theorem mex1 (w : World) : (Instr.index 64 mexs (.int .i64 1)).run Try.prog w = .ok (.func (.func 22) #[] #[]) w:=by kernel_rfl
theorem mth2 (p : Value) (w : World) : (Instr.index 87 (mths p) (.int .i64 2)).run Try.prog w = .ok (.func (.func 48) #[p] #[]) w:=by kernel_rfl
set_option maxHeartbeats 1000000 in
/-- A request. -/
theorem Step3.calls (s : St) (AL : Option Addr) (cL : Nat) (AM : Option Addr) (cM : Nat) (AK : Option Addr) (cK : Nat) (AB : Option Addr) (cB : Nat) (AD : Option Addr) (cD : Nat) (x : Ms) (AX : Option Addr) (cX : Nat) (A : Option Addr) (c : Nat) (data : List Int) (k : Int) (hk3 : k = 3) (w : World) (hr : Rd w s AL cL AM cM AK cK AB cB AD cD) (hc : Chk s) (hb : s.bals = []) (hd : Kd.C (Kd.int .u8) w A data.length data) :
    Calls Try.prog 8 #[.agg #[.int .i64 s.id,.int .i64 s.n,.int .i64 s.view,.int .i64 s.last,.int .i64 s.status,.slice AL s.log.length cL,.int .i64 s.commit,.slice AM s.mat.length cM,.slice AK s.marks.length cK,.bool s.sent,.slice AB s.bals.length cB,.int .i64 s.elapsed,.int .i64 s.timeout,.slice AD s.draws.length cD],.agg #[.int .i64 k,.int .i64 x.kind,.int .i64 x.fro,.int .i64 x.dst,.int .i64 x.view,.int .i64 x.last,.int .i64 x.prev,.slice AX x.log.length cX,.int .i64 x.commit,.int .i64 x.mat,.slice A data.length c]] w (StepRes w (reqE s data) (reqS s data) []):=by
  subst hk3
  exact Step_go.calls s (reqS s data) [] AL cL AM cM AK cK AB cB AD cD 3 x AX cX A c data 24 (reqE s data) w hr hc.fits ((check_iff s).2 hc) (by decide) (enters_of Try.func24 (by kernel_rfl) rfl) mex3 (fun w1 b gd P hB hM hP hg _=>request.calls b gd P s [] 3 x AX cX A c data w1 hM hP hg hc.okm (Kd.C_below hd hB) hb rfl)
set_option maxHeartbeats 1000000 in
/-- An answer that is taken. -/
theorem Step2p.calls (s : St) (AL : Option Addr) (cL : Nat) (AM : Option Addr) (cM : Nat) (AK : Option Addr) (cK : Nat) (AB : Option Addr) (cB : Nat) (AD : Option Addr) (cD : Nat) (x : Ms) (AX : Option Addr) (cX : Nat) (A : Option Addr) (c : Nat) (data : List Int) (k : Int) (hk2 : k = 2) (hx2 : x.kind = 2) (w : World) (hr : Rd w s AL cL AM cM AK cK AB cB AD cD) (hc : Chk s) (hx : MsgOk s.id s.n x) (hv : decide (x.view < s.view) = false) (hlog : Kd.C (Kd.slice 5 (Kd.int .u8)) w AX x.log.length x.log) :
    Calls Try.prog 8 #[.agg #[.int .i64 s.id,.int .i64 s.n,.int .i64 s.view,.int .i64 s.last,.int .i64 s.status,.slice AL s.log.length cL,.int .i64 s.commit,.slice AM s.mat.length cM,.slice AK s.marks.length cK,.bool s.sent,.slice AB s.bals.length cB,.int .i64 s.elapsed,.int .i64 s.timeout,.slice AD s.draws.length cD],.agg #[.int .i64 k,.int .i64 x.kind,.int .i64 x.fro,.int .i64 x.dst,.int .i64 x.view,.int .i64 x.last,.int .i64 x.prev,.slice AX x.log.length cX,.int .i64 x.commit,.int .i64 x.mat,.slice A data.length c]] w (StepRes w (prepE s x) (prepS s x) []):=by
  subst hk2
  refine Step_go.calls s (prepS s x) [] AL cL AM cM AK cK AB cB AD cD 2 x AX cX A c data 23 (prepE s x) w hr hc.fits ((check_iff s).2 hc) (by decide) (enters_of Try.func23 (by kernel_rfl) rfl) mex2 (fun w1 b gd P hB hM hP hg _=>?_)
  have hM0:=hM
  obtain ⟨hgl,AL,cL,AM,cM,AK,cK,AB,cB,AD,cD,AO,cO,hbl,_⟩:=hM0
  have hn:=hc.n
  refine hear_go.calls b _ s.id s.n s.view 48 (prepE s x) (fun w'=>Keeps w1 w' (fun k=>k = b∨P k)) (fun w'=>Mac w' b gd P (prepS s x) []) 2 x AX cX A c data w1 hbl rfl rfl rfl hn hx hv (Kd.C_below hlog hB) (enters_of Try.func48 (by kernel_rfl) rfl) (fun w=>by rw [hx2];exact mth2 _ w) (fun w2 hB2=>?_)
  have hf:=hx.fro
  rw [wi_iff] at hf
  refine(onPrepared.calls b gd P s [] x AX cX w2 (hM.below hB2) (fun k hk=>hP k (Nat.le_trans hB2.size hk)) hg hc.okm ⟨hf.1,by omega⟩).mono ?_
  rintro e w' ⟨h1,h2⟩
  exact⟨(Keeps.of_belows hB2 _).trans h1,h2⟩
end Go.Proofs.Ytojjnifbnppliaa.T
end
section
namespace Go.Proofs.Ytojjnifbnppliaa.T
open Go.RowKit Go.Proofs.YtojjnifbnppliaaW.PrintWords Go.Proofs.YtojjnifbnppliaaW.PrintLast Go.Proofs.YtojjnifbnppliaaW.PrintMore
attribute [local go_sem] max2_int min2_int max_two min_two max_three min_three max_four min_four
set_option linter.unusedVariables false
set_option linter.unusedSimpArgs false
/-- A handler on its way: w its first world, W the world at hand, g the box of its message. -/
structure HB (w W : World) (g b gd : Nat) (P : Nat→Prop) (x : Ms) (AX : Option Addr) (cX : Nat) (s : St) (out : List Ms) : Prop where
  keeps : Keeps w W (fun k=>k = b∨P k)
  mac : Mac W b gd (fun k=>P k∧k ≠ g) s out
  fresh : ∀ k,W.heap.size ≤ k→P k∧k ≠ g
  hg : ¬ (P gd∧gd ≠ g)∧gd ≠ b
  hPb : ¬ (P b∧b ≠ g)
  hne : b ≠ g
  box : W.heap[g]? = some (.cells #[.int .i64 x.kind,.int .i64 x.fro,.int .i64 x.dst,.int .i64 x.view,.int .i64 x.last,.int .i64 x.prev,.slice AX x.log.length cX,.int .i64 x.commit,.int .i64 x.mat] 37 (0,0))
  hX : ∀ W',Keeps W W' (fun k=>k = b∨(P k∧k ≠ g))→Kd.C (Kd.slice 5 (Kd.int .u8)) W' AX x.log.length x.log
  hcX : x.log.length ≤ cX
section
variable {w W W1 : World} {g b gd : Nat} {P : Nat→Prop} {x : Ms} {AX : Option Addr} {cX : Nat} {s s1 : St} {out out1 : List Ms}
theorem HB.init (hM : Mac w b gd P s out) (hP : ∀ k,w.heap.size ≤ k→P k) (hg : ¬ P gd∧gd ≠ b) (hPb : ¬ P b) (hX : ∀ W,Keeps w W (fun k=>k = b∨P k)→Kd.C (Kd.slice 5 (Kd.int .u8)) W AX x.log.length x.log) (hcX : x.log.length ≤ cX) : HB w (w.alloc (.cells #[.int .i64 x.kind,.int .i64 x.fro,.int .i64 x.dst,.int .i64 x.view,.int .i64 x.last,.int .i64 x.prev,.slice AX x.log.length cX,.int .i64 x.commit,.int .i64 x.mat] 37)) w.heap.size b gd P x AX cX s out where
  keeps:=(Keeps.refl w _).alloc _
  mac:=hM.box _
  fresh:=fun k hk=>⟨hP k (by simp at hk;omega),by simp at hk;omega⟩
  hg:=⟨fun h=>hg.1 h.1,hg.2⟩
  hPb:=fun h=>hPb h.1
  hne:=Nat.ne_of_lt hM.blt
  box:=heap_alloc_new w _
  hX:=fun W' hk=>hX W' (((Keeps.refl w _).alloc _).trans' hk (fun k h=>.inl (h.imp id (fun h=>h.1))))
  hcX:=hcX
theorem HB.step (h : HB w W g b gd P x AX cX s out) (hk : Keeps W W1 (fun k=>k = b∨(P k∧k ≠ g))) (hm : Mac W1 b gd (fun k=>P k∧k ≠ g) s1 out1) : HB w W1 g b gd P x AX cX s1 out1 where
  keeps:=h.keeps.trans' hk (fun k h=>.inl (h.imp id (fun h=>h.1)))
  mac:=hm
  fresh:=fun k hk'=>h.fresh k (Nat.le_trans hk.size hk')
  hg:=h.hg
  hPb:=h.hPb
  hne:=h.hne
  box:=blk_keeps h.box hk (fun h2=>h2.elim (fun e=>h.hne e.symm) (fun h3=>h3.2 rfl))
  hX:=fun W' hk'=>h.hX W' (hk.trans hk')
  hcX:=h.hcX
theorem HB.below (h : HB w W g b gd P x AX cX s out) (hb : Below W.heap.size W W1) : HB w W1 g b gd P x AX cX s out:=h.step (Keeps.of_belows hb _) (h.mac.below hb)
theorem HB.drew (h : HB w W g b gd P x AX cX s out) : HB w W.drew g b gd P x AX cX s out:=h.below (below_drew (Below.refl _ _))
theorem HB.drewN (h : HB w W g b gd P x AX cX s out) (m : Nat) : HB w (W.drewN m) g b gd P x AX cX s out:=h.below (pw_below_drewN (Below.refl _ _) m)
theorem HB.fin (h : HB w W g b gd P x AX cX s out) : Mac W b gd P s out:=h.mac.mono (fun _ hk=>hk.1)
theorem HB.xnow (h : HB w W g b gd P x AX cX s out) : Kd.C (Kd.slice 5 (Kd.int .u8)) W AX x.log.length x.log:=h.hX W (Keeps.refl W _)
theorem HB.view (h : HB w W g b gd P x AX cX s out) (v : Int) : HB w (W.setCell ⟨b,2,none⟩ (.int .i64 v)) g b gd P x AX cX (viewS s v) out:=h.step (Keeps.fld 2 _) (h.mac.set_view h.hg.2 v)
theorem HB.elapsed (h : HB w W g b gd P x AX cX s out) (v : Int) : HB w (W.setCell ⟨b,11,none⟩ (.int .i64 v)) g b gd P x AX cX (elS s v) out:=h.step (Keeps.fld 11 _) (h.mac.set_elapsed h.hg.2 v)
/-- The machine's cells. -/
theorem HB.cells (h : HB w W g b gd P x AX cX s out) : ∃ (AL : Option Addr) (cL : Nat) (AM : Option Addr) (cM : Nat) (AK : Option Addr) (cK : Nat) (AB : Option Addr) (cB : Nat) (AD : Option Addr) (cD : Nat) (AO : Option Addr) (cO : Nat),W.heap[b]? = some (.cells #[.int .i64 s.id,.int .i64 s.n,.int .i64 s.view,.int .i64 s.last,.int .i64 s.status,.slice AL s.log.length cL,.int .i64 s.commit,.slice AM s.mat.length cM,.slice AK s.marks.length cK,.bool s.sent,.slice AB s.bals.length cB,.int .i64 s.elapsed,.int .i64 s.timeout,.slice AD s.draws.length cD,.slice AO out.length cO] 61 (0,0))∧Kd.C (Kd.slice 5 (Kd.int .u8)) W AL s.log.length s.log∧s.log.length ≤ cL:=by
  obtain ⟨_,AL,cL,AM,cM,AK,cK,AB,cB,AD,cD,AO,cO,hb,h1,_⟩:=h.mac
  exact⟨AL,cL,AM,cM,AK,cK,AB,cB,AD,cD,AO,cO,hb,(Kd.R_reads' h1).2.2,(Kd.R_reads' h1).2.1⟩
end
theorem mayLog_fit {l : List (List Int)} (h : mayLogV l = true) : FitsL l∧l.length ≤ 512:=by
  obtain ⟨hl,hx⟩:=mayLogV_iff.1 h
  exact⟨⟨by omega,fun y hy=>by have:=hx y hy;omega⟩,by omega⟩
theorem Chk.enter {s : St} (h : Chk s) : EnterOk s:=⟨h.n,⟨h.id.1,by have:=h.id.2;omega⟩,h.commit,(mayLog_fit h.log).1,by have:=(mayLog_fit h.log).2;omega⟩
theorem wi_le {x lo hi : Int} (h : wi x lo hi = true) : lo ≤ x∧x ≤ hi:=wi_iff.1 h
end Go.Proofs.Ytojjnifbnppliaa.T
end
section
namespace Go.Proofs.Ytojjnifbnppliaa.T
open Go.RowKit Go.Proofs.YtojjnifbnppliaaW.PrintWords Go.Proofs.YtojjnifbnppliaaW.PrintLast Go.Proofs.YtojjnifbnppliaaW.PrintMore
attribute [local go_sem] max2_int min2_int max_two min_two max_three min_three max_four min_four
set_option linter.unusedVariables false
set_option linter.unusedSimpArgs false
def askM (s : St) (x : Ms) : Ms:={ kind:=7,fro:=0,dst:=x.fro,view:=0,last:=0,prev:=x.prev,log:=s.log.drop x.prev.toNat,commit:=s.commit,mat:=0 }
def onAskR (s : St) (x : Ms) : Except Int (St × List Ms):=if hereV s.status s.view x.view = true∧x.prev ≤ s.log.length then .ok (s,[tellM s (askM s x)]) else .ok (s,[])
set_option maxHeartbeats 8000000 in
set_option maxRecDepth 100000 in
theorem onAsk.mac (b gd : Nat) (P : Nat→Prop) (s : St) (x : Ms) (AX : Option Addr) (cX : Nat) (w : World) (hM : Mac w b gd P s []) (hP : ∀ k,w.heap.size ≤ k→P k) (hg : ¬ P gd∧gd ≠ b) (hPb : ¬ P b) (hc : Chk s) (hx : MsgOk s.id s.n x) (hv : s.view ≤ x.view) (hX : ∀ W,Keeps w W (fun k=>k = b∨P k)→Kd.C (Kd.slice 5 (Kd.int .u8)) W AX x.log.length x.log) (hcX : x.log.length ≤ cX) :
    Calls Try.prog 52 #[.pointer (some ⟨b,0,none⟩),.agg #[.int .i64 x.kind,.int .i64 x.fro,.int .i64 x.dst,.int .i64 x.view,.int .i64 x.last,.int .i64 x.prev,.slice AX x.log.length cX,.int .i64 x.commit,.int .i64 x.mat]] w fun e w'=>Keeps w w' (fun k=>k = b∨P k)∧EndsR (onAskR s x) e (fun s' ms=>Mac w' b gd P s' ms):=by
  have H0:=Aside0.mk (HB.init hM hP hg hPb hX hcX)
  have HQ:=Aside0.mk (And.intro hc (And.intro hx hv))
  have hu29:=Try.underlying29
  have hu25:=Try.underlying25
  have hu26:=Try.underlying26
  have hu27:=Try.underlying27
  have hu61:=Try.underlying61
  have hu37:=Try.underlying37
  have hu69:=Try.underlying69
  have hu23:=Try.underlying23
  have ne1 : ¬ (b = w.heap.size):=H0.out.hne
  have ne2 : ¬ (w.heap.size = b):=fun e=>H0.out.hne e.symm
  clear hM hP hg hPb hc hx hv hX hcX
  go_enter Try.func52,Try.ntmps52
  go_upto_region 1 with (fail)
  generalize hW0 : (w.alloc (.cells #[.int .i64 x.kind,.int .i64 x.fro,.int .i64 x.dst,.int .i64 x.view,.int .i64 x.last,.int .i64 x.prev,.slice AX x.log.length cX,.int .i64 x.commit,.int .i64 x.mat] 37)) = W0 at *
  clear hW0
  obtain ⟨AL,cL,AM,cM,AK,cK,AB,cB,AD,cD,AO,cO,kb,hCL,hcL⟩:=H0.out.cells
  have x2 : W0.cell? ⟨b,2,none⟩ = some (.int .i64 s.view):=(blk_cell kb 2).trans rfl
  have x4 : W0.cell? ⟨b,4,none⟩ = some (.int .i64 s.status):=(blk_cell kb 4).trans rfl
  have x5 : W0.cell? ⟨b,5,none⟩ = some (.slice AL s.log.length cL):=(blk_cell kb 5).trans rfl
  have x6 : W0.cell? ⟨b,6,none⟩ = some (.int .i64 s.commit):=(blk_cell kb 6).trans rfl
  clear kb
  have y0 : W0.cell? ⟨w.heap.size,0,none⟩ = some (.int .i64 x.kind):=(blk_cell H0.out.box 0).trans rfl
  have y1 : W0.cell? ⟨w.heap.size,1,none⟩ = some (.int .i64 x.fro):=(blk_cell H0.out.box 1).trans rfl
  have y2 : W0.cell? ⟨w.heap.size,2,none⟩ = some (.int .i64 x.dst):=(blk_cell H0.out.box 2).trans rfl
  have y3 : W0.cell? ⟨w.heap.size,3,none⟩ = some (.int .i64 x.view):=(blk_cell H0.out.box 3).trans rfl
  have y4 : W0.cell? ⟨w.heap.size,4,none⟩ = some (.int .i64 x.last):=(blk_cell H0.out.box 4).trans rfl
  have y5 : W0.cell? ⟨w.heap.size,5,none⟩ = some (.int .i64 x.prev):=(blk_cell H0.out.box 5).trans rfl
  have y6 : W0.cell? ⟨w.heap.size,6,none⟩ = some (.slice AX x.log.length cX):=(blk_cell H0.out.box 6).trans rfl
  have y7 : W0.cell? ⟨w.heap.size,7,none⟩ = some (.int .i64 x.commit):=(blk_cell H0.out.box 7).trans rfl
  have y8 : W0.cell? ⟨w.heap.size,8,none⟩ = some (.int .i64 x.mat):=(blk_cell H0.out.box 8).trans rfl
  cases hh : hereV s.status s.view x.view with
  | false =>
    have HH:=Aside0.mk hh
    clear hh
    refine regionC (fun i=>Cells (tbl [(1,[(⟨w.heap.size,0,none⟩,.int .i64 x.kind),(⟨w.heap.size,1,none⟩,.int .i64 x.fro),(⟨w.heap.size,2,none⟩,.int .i64 x.dst),(⟨w.heap.size,3,none⟩,.int .i64 x.view),(⟨w.heap.size,4,none⟩,.int .i64 x.last),(⟨w.heap.size,5,none⟩,.int .i64 x.prev),(⟨w.heap.size,6,none⟩,.slice AX x.log.length cX),(⟨w.heap.size,7,none⟩,.int .i64 x.commit),(⟨w.heap.size,8,none⟩,.int .i64 x.mat)])] i)) (by kernel_rfl) ?_
    refine takeC 0 (by kernel_rfl) (fun _ _ _ h=>h) (Or.inl ⟨by rfl,fun W hS=>by dsimp only [opAt];go_simp;(try with_reducible rfl)⟩) trivial ?_
    simp only [opAt,Act.put,List.setIfInBounds_toArray,List.set_cons_zero,List.set_cons_succ]
    refine takeC 1 (by kernel_rfl) (fun _ _ _ h=>h) (Or.inl ⟨by rfl,fun W hS=>by obtain ⟨h0,h1,h2,h3,h4,h5,h6,h7,h8,_⟩:=hS;dsimp only [opAt];dsimp only at h0 h1 h2 h3 h4 h5 h6 h7 h8;go_simp;(try with_reducible rfl)⟩) ⟨y0,y1,y2,y3,y4,y5,y6,y7,y8,trivial⟩ ?_
    simp only [opAt,Act.put,List.setIfInBounds_toArray,List.set_cons_zero,List.set_cons_succ]
    refine actC 2 (by kernel_rfl) rfl (fun K hK=>?_)
    dsimp only [opAt]
    refine wc_ Try.func64 (by kernel_rfl) rfl #[.pointer (some ⟨b,0,none⟩),.agg #[.int .i64 x.kind,.int .i64 x.fro,.int .i64 x.dst,.int .i64 x.view,.int .i64 x.last,.int .i64 x.prev,.slice AX x.log.length cX,.int .i64 x.commit,.int .i64 x.mat]] rfl (by simp only [List.map_toArray,List.map_cons,List.map_nil,Act.eval];rfl) ?_
    refine(here.calls b s.status s.view x (.slice AX x.log.length cX) W0.drew x2 x4 AX cX).mono ?_
    rw [HH.out]
    rintro e w1 ⟨rfl,hb1⟩
    refine⟨_,rfl,hK _ _ (presB hb1) ?_⟩
    clear hK K
    simp only [opAt,Act.put,List.setIfInBounds_toArray,List.set_cons_zero,List.set_cons_succ]
    have H1:=Aside0.mk (H0.out.drew.below hb1)
    clear hb1
    refine takeC 3 (by kernel_rfl) (fun _ _ _ h=>h) (Or.inl ⟨by rfl,fun W hS=>by dsimp only [opAt];go_simp;(try with_reducible rfl)⟩) trivial ?_
    simp only [opAt,Act.put,List.setIfInBounds_toArray,List.set_cons_zero,List.set_cons_succ]
    refine takeC 4 (by kernel_rfl) (fun _ _ _ h=>h) (Or.inr ⟨by rfl,rfl⟩) trivial ?_
    simp only [opAt,Act.put,List.setIfInBounds_toArray,List.set_cons_zero,List.set_cons_succ]
    refine takeC 5 (by kernel_rfl) (fun _ _ _ h=>h) (Or.inr ⟨by rfl,rfl⟩) trivial ?_
    simp only [opAt,Act.put,List.setIfInBounds_toArray,List.set_cons_zero,List.set_cons_succ]
    refine takeC 6 (by kernel_rfl) (fun _ _ _ h=>h) (Or.inr ⟨by rfl,rfl⟩) trivial ?_
    simp only [opAt,Act.put,List.setIfInBounds_toArray,List.set_cons_zero,List.set_cons_succ]
    refine takeC 7 (by kernel_rfl) (fun _ _ _ h=>h) (Or.inr ⟨by rfl,rfl⟩) trivial ?_
    simp only [opAt,Act.put,List.setIfInBounds_toArray,List.set_cons_zero,List.set_cons_succ]
    refine takeC 8 (by kernel_rfl) (fun _ _ _ h=>h) (Or.inr ⟨by rfl,rfl⟩) trivial ?_
    simp only [opAt,Act.put,List.setIfInBounds_toArray,List.set_cons_zero,List.set_cons_succ]
    refine takeC 9 (by kernel_rfl) (fun _ _ _ h=>h) (Or.inr ⟨by rfl,rfl⟩) trivial ?_
    simp only [opAt,Act.put,List.setIfInBounds_toArray,List.set_cons_zero,List.set_cons_succ]
    refine takeC 10 (by kernel_rfl) (fun _ _ _ h=>h) (Or.inr ⟨by rfl,rfl⟩) trivial ?_
    simp only [opAt,Act.put,List.setIfInBounds_toArray,List.set_cons_zero,List.set_cons_succ]
    refine takeC 11 (by kernel_rfl) (fun _ _ _ h=>h) (Or.inr ⟨by rfl,rfl⟩) trivial ?_
    simp only [opAt,Act.put,List.setIfInBounds_toArray,List.set_cons_zero,List.set_cons_succ]
    refine takeC 12 (by kernel_rfl) (fun _ _ _ h=>h) (Or.inr ⟨by rfl,rfl⟩) trivial ?_
    simp only [opAt,Act.put,List.setIfInBounds_toArray,List.set_cons_zero,List.set_cons_succ]
    refine takeC 13 (by kernel_rfl) (fun _ _ _ h=>h) (Or.inl ⟨by rfl,fun W hS=>by dsimp only [opAt];go_simp;(try with_reducible rfl)⟩) trivial ?_
    simp only [opAt,Act.put,List.setIfInBounds_toArray,List.set_cons_zero,List.set_cons_succ]
    refine doneC (by kernel_rfl) ?_ _
    go_wp2
    (first|go_end0|refine bodyPost_ret (results_none rfl _ _ _) rfl ?_)
    have e : onAskR s x = .ok (s,[]):=by unfold onAskR;rw [if_neg (by rw [HH.out];simp)]
    rw [e]
    exact⟨H1.out.keeps,rfl,H1.out.fin⟩
  | true =>
    have HH:=Aside0.mk hh
    clear hh
    by_cases hp : x.prev ≤ (s.log.length : Int)
    · have c1 : decide (x.prev ≤ (s.log.length : Int)) = true:=decide_eq_true hp
      have HP:=Aside0.mk hp
      clear hp
      go_region_held3 (fun W'=>W'.cell? ⟨b,5,none⟩ = some (.slice AL s.log.length cL)∧W'.cell? ⟨w.heap.size,0,none⟩ = some (.int .i64 x.kind)∧W'.cell? ⟨w.heap.size,1,none⟩ = some (.int .i64 x.fro)∧W'.cell? ⟨w.heap.size,2,none⟩ = some (.int .i64 x.dst)∧W'.cell? ⟨w.heap.size,3,none⟩ = some (.int .i64 x.view)∧W'.cell? ⟨w.heap.size,4,none⟩ = some (.int .i64 x.last)∧W'.cell? ⟨w.heap.size,5,none⟩ = some (.int .i64 x.prev)∧W'.cell? ⟨w.heap.size,6,none⟩ = some (.slice AX x.log.length cX)∧W'.cell? ⟨w.heap.size,7,none⟩ = some (.int .i64 x.commit)∧W'.cell? ⟨w.heap.size,8,none⟩ = some (.int .i64 x.mat)) (go_keep) ((first|(go_at_call 64;refine(here.calls b s.status s.view x (.slice AX x.log.length cX) W0.drew x2 x4 AX cX).mono ?_;rw [HH.out];rintro e w1 ⟨rfl,hb1⟩;have H1:=Aside0.mk (H0.out.drew.below hb1);have z5:=(hb1.cell (World.block_lt_of_cell? _ _ x5)).trans x5;have q0:=(hb1.cell (World.block_lt_of_cell? _ _ y0)).trans y0;have q1:=(hb1.cell (World.block_lt_of_cell? _ _ y1)).trans y1;have q2:=(hb1.cell (World.block_lt_of_cell? _ _ y2)).trans y2;have q3:=(hb1.cell (World.block_lt_of_cell? _ _ y3)).trans y3;have q4:=(hb1.cell (World.block_lt_of_cell? _ _ y4)).trans y4;have q5:=(hb1.cell (World.block_lt_of_cell? _ _ y5)).trans y5;have q6:=(hb1.cell (World.block_lt_of_cell? _ _ y6)).trans y6;have q7:=(hb1.cell (World.block_lt_of_cell? _ _ y7)).trans y7;have q8:=(hb1.cell (World.block_lt_of_cell? _ _ y8)).trans y8;clear hb1)))
      all_goals
        rename_i hHeld
        clear hHeld
        clear H0 x2 x4 x5 x6 y0 y1 y2 y3 y4 y5 y6 y7 y8 z5 q0 q1 q2 q3 q4 q5 q6 q7 q8
        clear hCL hcL
        obtain ⟨AL1,cL1,AM1,cM1,AK1,cK1,AB1,cB1,AD1,cD1,AO1,cO1,kb1,hCL1,hcL1⟩:=H1.out.cells
        have x5 : w1.cell? ⟨b,5,none⟩ = some (.slice AL1 s.log.length cL1):=(blk_cell kb1 5).trans rfl
        have x6 : w1.cell? ⟨b,6,none⟩ = some (.int .i64 s.commit):=(blk_cell kb1 6).trans rfl
        clear kb1
        have y1 : w1.cell? ⟨w.heap.size,1,none⟩ = some (.int .i64 x.fro):=(blk_cell H1.out.box 1).trans rfl
        have y5 : w1.cell? ⟨w.heap.size,5,none⟩ = some (.int .i64 x.prev):=(blk_cell H1.out.box 5).trans rfl
        have HL:=Aside0.mk (And.intro hCL1 hcL1)
        clear hCL1 hcL1
        obtain ⟨i0,hi0,_,hsz,_⟩:=info_parts info22
        have hpv:=wi_le HQ.out.2.1.prev
        have hfit:=mayLog_fit HQ.out.1.log
        have hcut:=cut_from (P:=Try.prog) 25 22 .i64 Try.underlying25 hi0 1 hsz AL1 s.log.length cL1 x.prev hpv.1 HP.out
        obtain ⟨ys,hys⟩ : ∃ ys,s.log.drop x.prev.toNat = ys:=⟨_,rfl⟩
        have hyl : s.log.length - x.prev.toNat = ys.length:=by rw [← hys,List.length_drop]
        obtain ⟨A9,hA9⟩ : ∃ A9,(if cL1 = x.prev.toNat then AL1 else AL1.map (·.add (x.prev.toNat * 1))) = A9:=⟨_,rfl⟩
        obtain ⟨c9,hc9⟩ : ∃ c9,cL1 - x.prev.toNat = c9:=⟨_,rfl⟩
        rw [hyl,hA9,hc9] at hcut
        have HY:=Aside0.mk (show Kd.C (Kd.slice 5 (Kd.int .u8)) w1 A9 ys.length ys∧FitsL ys∧tellM s (askM s x) = tellM s { kind:=7,fro:=0,dst:=x.fro,view:=0,last:=0,prev:=x.prev,log:=ys,commit:=s.commit,mat:=0 } from⟨by
            have:=Kd.C_drop (m:=x.prev.toNat) (c:=cL1) HL.out.1 (by have:=HP.out;omega) HL.out.2
            rw [hys] at this
            rw [← hA9]
            exact this,⟨by have:=hfit.1.1;omega,fun y hy=>hfit.1.2 y (by rw [← hys] at hy;exact List.mem_of_mem_drop hy)⟩,by unfold askM;rw [hys]⟩)
        clear hyl hA9 hc9 hys hi0 hsz hpv hfit HL
        go_upto_region 2 with (fail)
        go_region_held3 (fun W'=>W'.cell? ⟨b,5,none⟩ = some (.slice AL1 s.log.length cL1)∧W'.cell? ⟨b,6,none⟩ = some (.int .i64 s.commit)∧W'.cell? ⟨w.heap.size,1,none⟩ = some (.int .i64 x.fro)∧W'.cell? ⟨w.heap.size,5,none⟩ = some (.int .i64 x.prev)) (go_keep) ((first|(go_at_call 41;refine(cloneLog.calls A9 c9 ys _ (Kd.C_drew HY.out.1) HY.out.2.1.1 HY.out.2.1.2).mono ?_;rintro e w2 ⟨v,rfl,hR2,hb2⟩;obtain ⟨A2,c2,rfl⟩:=Kd.R_slice hR2;have H2:=Aside0.mk (H1.out.drew.below hb2);have q5:=(hb2.cell (World.block_lt_of_cell? _ _ x5)).trans x5;have q6:=(hb2.cell (World.block_lt_of_cell? _ _ x6)).trans x6;have r1:=(hb2.cell (World.block_lt_of_cell? _ _ y1)).trans y1;have r5:=(hb2.cell (World.block_lt_of_cell? _ _ y5)).trans y5;have C2:=Aside0.mk (Kd.R_mono (Kd.R_lower (Kd.R_bound hR2) (Nat.zero_le _)) (ok':=fun k=>P k∧k ≠ w.heap.size) (fun k hk=>H1.out.fresh k (by have:=hk.2.1;simpa using this)));clear hR2 hb2)|(go_at_call 46;refine(tell.calls2 b gd (fun k=>P k∧k ≠ w.heap.size) s [] { kind:=7,fro:=0,dst:=x.fro,view:=0,last:=0,prev:=x.prev,log:=ys,commit:=s.commit,mat:=0 } A2 c2 _ H2.out.mac H2.out.fresh H2.out.hg C2.out (by simp)).mono ?_;rintro e w4 ⟨rfl,⟨hk4,hc4⟩,hm4⟩;have H4:=Aside0.mk (H2.out.step hk4.tells hm4);have t5:=(hc4 5 (by decide)).trans q5;have t6:=(hc4 6 (by decide)).trans q6;have u1:=(blk_cell H4.out.box 1).trans (show _ = some (.int .i64 x.fro) from rfl);have u5:=(blk_cell H4.out.box 5).trans (show _ = some (.int .i64 x.prev) from rfl);clear hk4 hm4 hc4)))
        all_goals
          go_wp2
          (first|go_end0|refine bodyPost_ret (results_none rfl _ _ _) rfl ?_)
          have e : onAskR s x = .ok (s,[tellM s (askM s x)]):=by unfold onAskR;rw [if_pos ⟨HH.out,HP.out⟩]
          rw [e,HY.out.2.2]
          exact⟨H4.out.keeps,rfl,H4.out.fin⟩
    · have c1 : decide (x.prev ≤ (s.log.length : Int)) = false:=decide_eq_false hp
      have HP:=Aside0.mk hp
      clear hp
      go_region_held3 (fun W'=>W'.cell? ⟨b,5,none⟩ = some (.slice AL s.log.length cL)∧W'.cell? ⟨w.heap.size,0,none⟩ = some (.int .i64 x.kind)∧W'.cell? ⟨w.heap.size,1,none⟩ = some (.int .i64 x.fro)∧W'.cell? ⟨w.heap.size,2,none⟩ = some (.int .i64 x.dst)∧W'.cell? ⟨w.heap.size,3,none⟩ = some (.int .i64 x.view)∧W'.cell? ⟨w.heap.size,4,none⟩ = some (.int .i64 x.last)∧W'.cell? ⟨w.heap.size,5,none⟩ = some (.int .i64 x.prev)∧W'.cell? ⟨w.heap.size,6,none⟩ = some (.slice AX x.log.length cX)∧W'.cell? ⟨w.heap.size,7,none⟩ = some (.int .i64 x.commit)∧W'.cell? ⟨w.heap.size,8,none⟩ = some (.int .i64 x.mat)) (go_keep) ((first|(go_at_call 64;refine(here.calls b s.status s.view x (.slice AX x.log.length cX) W0.drew x2 x4 AX cX).mono ?_;rw [HH.out];rintro e w1 ⟨rfl,hb1⟩;have H1:=Aside0.mk (H0.out.drew.below hb1);have z5:=(hb1.cell (World.block_lt_of_cell? _ _ x5)).trans x5;have q0:=(hb1.cell (World.block_lt_of_cell? _ _ y0)).trans y0;have q1:=(hb1.cell (World.block_lt_of_cell? _ _ y1)).trans y1;have q2:=(hb1.cell (World.block_lt_of_cell? _ _ y2)).trans y2;have q3:=(hb1.cell (World.block_lt_of_cell? _ _ y3)).trans y3;have q4:=(hb1.cell (World.block_lt_of_cell? _ _ y4)).trans y4;have q5:=(hb1.cell (World.block_lt_of_cell? _ _ y5)).trans y5;have q6:=(hb1.cell (World.block_lt_of_cell? _ _ y6)).trans y6;have q7:=(hb1.cell (World.block_lt_of_cell? _ _ y7)).trans y7;have q8:=(hb1.cell (World.block_lt_of_cell? _ _ y8)).trans y8;clear hb1)))
      all_goals
        go_wp2
        (first|go_end0|refine bodyPost_ret (results_none rfl _ _ _) rfl ?_)
        have e : onAskR s x = .ok (s,[]):=by unfold onAskR;rw [if_neg (fun h=>by have:=HP.out;have:=h.2;omega)]
        rw [e]
        exact⟨H1.out.keeps,rfl,H1.out.fin⟩
end Go.Proofs.Ytojjnifbnppliaa.T
end
section
namespace Go.Proofs.Ytojjnifbnppliaa.T
open Go.RowKit Go.Proofs.YtojjnifbnppliaaW.PrintWords Go.Proofs.YtojjnifbnppliaaW.PrintLast Go.Proofs.YtojjnifbnppliaaW.PrintMore
attribute [local go_sem] max2_int min2_int max_two min_two max_three min_three max_four min_four
set_option linter.unusedVariables false
set_option linter.unusedSimpArgs false
section
variable {s : St}
theorem Chk.noleads (hs : s.status = 1) : leadsV s.id s.n s.view s.status = false:=by unfold leadsV;rw [hs];rfl
theorem Chk.marks1 (h : Chk s) (hs : s.status = 1) : (s.marks.length : Int) = s.n:=by
  have:=h.marks
  unfold szK at this
  rw [if_neg (by rw [Chk.noleads hs];simp),if_pos (by rw [hs];rfl)] at this
  exact this
theorem Chk.bals1 (h : Chk s) (hs : s.status = 1) (hp : primaryV s.id s.n s.view = true) : (s.bals.length : Int) = s.n:=by
  have:=h.bals
  unfold szB at this
  rw [if_neg (by rw [Chk.noleads hs];simp),if_pos (by rw [hs];rfl),if_pos hp] at this
  exact this
theorem Chk.bals0 (h : Chk s) (hp : s.status = 0∨primaryV s.id s.n s.view = false) : s.bals = []:=by
  have:=h.bals
  unfold szB at this
  refine List.eq_nil_of_length_eq_zero ?_
  split at this
  · omega
  · split at this
    · split at this
      · rcases hp with hp|hp
        · have e : (s.status == 1) = true:=by assumption
          rw [hp] at e
          cases e
        · have e : primaryV s.id s.n s.view = true:=by assumption
          rw [hp] at e
          cases e
      · omega
    · omega
theorem Chk.bfit (h : Chk s) : ∀ y ∈ s.bals,FitsL y.f2∧y.f2.length ≤ 1000000:=by
  intro q hq
  have hb:=h.balls q hq
  unfold mayNot mayV at hb
  split at hb
  · simp only [Bool.not_eq_false',Bool.and_eq_true] at hb
    have:=mayLog_fit hb.1
    exact⟨this.1,by have:=this.2;omega⟩
  · simp only [Bool.not_eq_false',Bool.and_eq_true,beq_iff_eq] at hb
    have h0 : q.f2.length = 0:=by have:=hb.2.1;omega
    have h00:=List.eq_nil_of_length_eq_zero h0
    exact⟨⟨by rw [h0];omega,fun x hx'=>by rw [h00] at hx';simp at hx'⟩,by omega⟩
theorem Chk.look (h : Chk s) (hs : s.status = 1) (l : List Int) : LookOk (marksS s l) where
  n:=h.n
  id:=⟨h.id.1,by have:=h.id.2;show s.id < s.n;omega⟩
  com:=h.commit
  fl:=h.enter.fl
  bals:=fun hp=>⟨h.bals1 hs hp,h.bfit⟩
end
/-- A row of one number. -/
theorem C_one {W : World} {g : Nat} {v : Int} (h : W.heap[g]? = some (.cells #[.int .i64 v] 3 (0,0))) : Kd.C (Kd.int .i64) W (some ⟨g,0,none⟩) [v].length [v]:=by
  refine⟨rfl,by show 1 ≤ 9223372036854775807;decide,fun _=>⟨⟨g,0,none⟩,rfl,fun j p hj=>?_⟩⟩
  rcases j with _|j
  · have e : v = p:=by simpa using hj
    subst e
    refine⟨[.int .i64 v],rfl,rfl,fun i u hu=>?_⟩
    rcases i with _|i
    · have e : Value.int .i64 v = u:=by simpa using hu
      subst e
      exact(blk_cell h 0).trans rfl
    · simp at hu
  · simp at hj
end Go.Proofs.Ytojjnifbnppliaa.T
end
section
namespace Go.Proofs.Ytojjnifbnppliaa.T
open Go.RowKit Go.Proofs.YtojjnifbnppliaaW.PrintWords Go.Proofs.YtojjnifbnppliaaW.PrintLast Go.Proofs.YtojjnifbnppliaaW.PrintMore
attribute [local go_sem] max2_int min2_int max_two min_two max_three min_three max_four min_four
set_option linter.unusedVariables false
set_option linter.unusedSimpArgs false
def onBeginsR (s : St) (x : Ms) : Except Int (St × List Ms):=if s.view < x.view then enterR s x.view [x.fro] else if s.status = 1 then lookR (marksS s [x.fro]) else .ok (s,[])
set_option maxHeartbeats 8000000 in
set_option maxRecDepth 100000 in
theorem onBegins.mac (b gd : Nat) (P : Nat→Prop) (s : St) (x : Ms) (AX : Option Addr) (cX : Nat) (w : World) (hM : Mac w b gd P s []) (hP : ∀ k,w.heap.size ≤ k→P k) (hg : ¬ P gd∧gd ≠ b) (hPb : ¬ P b) (hc : Chk s) (hx : MsgOk s.id s.n x) (hv : s.view ≤ x.view) (hX : ∀ W,Keeps w W (fun k=>k = b∨P k)→Kd.C (Kd.slice 5 (Kd.int .u8)) W AX x.log.length x.log) (hcX : x.log.length ≤ cX) :
    Calls Try.prog 49 #[.pointer (some ⟨b,0,none⟩),.agg #[.int .i64 x.kind,.int .i64 x.fro,.int .i64 x.dst,.int .i64 x.view,.int .i64 x.last,.int .i64 x.prev,.slice AX x.log.length cX,.int .i64 x.commit,.int .i64 x.mat]] w fun e w'=>Keeps w w' (fun k=>k = b∨P k)∧EndsR (onBeginsR s x) e (fun s' ms=>Mac w' b gd P s' ms):=by
  have H0:=Aside0.mk (HB.init hM hP hg hPb hX hcX)
  have HQ:=Aside0.mk (And.intro hc (And.intro hx hv))
  have hu29:=Try.underlying29
  have hu25:=Try.underlying25
  have hu26:=Try.underlying26
  have hu27:=Try.underlying27
  have hu61:=Try.underlying61
  have hu37:=Try.underlying37
  have hu69:=Try.underlying69
  have hu23:=Try.underlying23
  have ne1 : ¬ (b = w.heap.size):=H0.out.hne
  have ne2 : ¬ (w.heap.size = b):=fun e=>H0.out.hne e.symm
  clear hM hP hg hPb hc hx hv hX hcX
  go_enter Try.func49,Try.ntmps49
  go_upto_region 1 with (fail)
  generalize hW0 : (w.alloc (.cells #[.int .i64 x.kind,.int .i64 x.fro,.int .i64 x.dst,.int .i64 x.view,.int .i64 x.last,.int .i64 x.prev,.slice AX x.log.length cX,.int .i64 x.commit,.int .i64 x.mat] 37)) = W0 at *
  clear hW0
  obtain ⟨AL,cL,AM,cM,AK,cK,AB,cB,AD,cD,AO,cO,kb,hCL,hcL⟩:=H0.out.cells
  have x2 : W0.cell? ⟨b,2,none⟩ = some (.int .i64 s.view):=(blk_cell kb 2).trans rfl
  clear kb
  have y3 : W0.cell? ⟨w.heap.size,3,none⟩ = some (.int .i64 x.view):=(blk_cell H0.out.box 3).trans rfl
  clear hCL hcL
  by_cases hlt : s.view < x.view
  · have c1 : decide (s.view < x.view) = true:=decide_eq_true hlt
    have HLT:=Aside0.mk hlt
    clear hlt
    go_quiet (fail)
    go_upto_region 2 with (fail)
    have H1:=Aside0.mk (H0.out.drewN nq)
    clear H0 x2 y3
    generalize W0.drewN nq = W1 at *
    have y1 : W1.cell? ⟨w.heap.size,1,none⟩ = some (.int .i64 x.fro):=(blk_cell H1.out.box 1).trans rfl
    have y3 : W1.cell? ⟨w.heap.size,3,none⟩ = some (.int .i64 x.view):=(blk_cell H1.out.box 3).trans rfl
    have hv1:=wi_le HQ.out.2.1.fro
    have HM2:=Aside0.mk (show Mac (W1.alloc (.cells #[.int .i64 x.fro] 3)) b gd (fun k=>(P k∧k ≠ w.heap.size)∧k ≠ W1.heap.size) s []∧(∀ k,(W1.alloc (.cells #[.int .i64 x.fro] 3)).heap.size ≤ k→(P k∧k ≠ w.heap.size)∧k ≠ W1.heap.size)∧(¬ ((P gd∧gd ≠ w.heap.size)∧gd ≠ W1.heap.size)∧gd ≠ b)∧¬ ((P b∧b ≠ w.heap.size)∧b ≠ W1.heap.size)∧(∀ W',Keeps (W1.alloc (.cells #[.int .i64 x.fro] 3)) W' (fun k=>k = b∨((P k∧k ≠ w.heap.size)∧k ≠ W1.heap.size))→Kd.C (Kd.int .i64) W' (some ⟨W1.heap.size,0,none⟩) [x.fro].length [x.fro]) from⟨H1.out.mac.box _,fun k hk=>⟨H1.out.fresh k (by simp at hk;omega),by simp at hk;omega⟩,⟨fun h=>H1.out.hg.1 h.1,H1.out.hg.2⟩,fun h=>H1.out.hPb h.1,fun W' hk=>C_one (blk_keeps (heap_alloc_new W1 _) hk (fun h=>h.elim (fun e=>by have:=H1.out.mac.blt;omega) (fun h=>h.2 rfl)))⟩)
    have HK:=Aside0.mk (show Keeps w (W1.alloc (.cells #[.int .i64 x.fro] 3)) (fun k=>k = b∨P k) from H1.out.keeps.alloc _)
    clear hv1
    cases hr : enterR s x.view [x.fro] with
    | error code =>
      have HR:=Aside0.mk hr
      clear hr
      go_wp2_with ((go_at_call 45;refine(enter.mac b gd (fun k=>(P k∧k ≠ w.heap.size)∧k ≠ W1.heap.size) s [] x.view (some ⟨W1.heap.size,0,none⟩) 1 [x.fro] _ HM2.out.1 HM2.out.2.1 HM2.out.2.2.1 HM2.out.2.2.2.1 HQ.out.1.enter (Nat.zero_le _) HM2.out.2.2.2.2 (by simp) (fun i hi=>by have h1:=wi_le HQ.out.2.1.fro;have h2 : i = x.fro:=(by simpa using hi);rw [h2];exact⟨h1.1,by omega⟩)).mono ?_;rw [HR.out];rintro e w6 ⟨hk6,he⟩;have H6:=Aside0.mk hk6;have he2 : e = .panicked [{ v:=.iface 30 (.int .i64 code),recovered:=false }]:=he;subst he2;clear hk6 he))
      have e : onBeginsR s x = .error code:=by unfold onBeginsR;rw [if_pos HLT.out,HR.out]
      rw [e]
      exact⟨rfl,HK.out.trans' H6.out (fun k hk=>.inl (hk.imp id (fun h=>h.1.1))),rfl⟩
    | ok y =>
      have HR:=Aside0.mk hr
      clear hr
      go_wp2_with ((go_at_call 45;refine(enter.mac b gd (fun k=>(P k∧k ≠ w.heap.size)∧k ≠ W1.heap.size) s [] x.view (some ⟨W1.heap.size,0,none⟩) 1 [x.fro] _ HM2.out.1 HM2.out.2.1 HM2.out.2.2.1 HM2.out.2.2.2.1 HQ.out.1.enter (Nat.zero_le _) HM2.out.2.2.2.2 (by simp) (fun i hi=>by have h1:=wi_le HQ.out.2.1.fro;have h2 : i = x.fro:=(by simpa using hi);rw [h2];exact⟨h1.1,by omega⟩)).mono ?_;rw [HR.out];rintro e w6 ⟨hk6,he⟩;have H6:=Aside0.mk (And.intro hk6 he.2);have he2 : e = .returned (.tuple #[]):=he.1;subst he2;clear hk6 he))
      (first|go_end0|refine bodyPost_ret (results_none rfl _ _ _) rfl ?_)
      have e : onBeginsR s x = .ok y:=by unfold onBeginsR;rw [if_pos HLT.out,HR.out]
      rw [e]
      exact⟨HK.out.trans' H6.out.1 (fun k hk=>.inl (hk.imp id (fun h=>h.1.1))),rfl,H6.out.2.mono (fun k hk=>hk.1.1)⟩
  · have c1 : decide (s.view < x.view) = false:=decide_eq_false hlt
    have HLT:=Aside0.mk hlt
    clear hlt
    go_quiet (fail)
    go_upto_region 3 with (fail)
    have H1:=Aside0.mk (H0.out.drewN nq)
    clear H0 x2 y3
    generalize W0.drewN nq = W1 at *
    obtain ⟨AL1,cL1,AM1,cM1,AK1,cK1,AB1,cB1,AD1,cD1,AO1,cO1,kb1,hCL1,hcL1⟩:=H1.out.cells
    have x4 : W1.cell? ⟨b,4,none⟩ = some (.int .i64 s.status):=(blk_cell kb1 4).trans rfl
    clear kb1
    have y1 : W1.cell? ⟨w.heap.size,1,none⟩ = some (.int .i64 x.fro):=(blk_cell H1.out.box 1).trans rfl
    by_cases hst : s.status = 1
    · have c2 : (s.status == 1) = true:=beq_iff_eq.mpr hst
      have HST:=Aside0.mk hst
      have hm1:=HQ.out.1.marks1 hst
      clear hst
      have hv1:=wi_le HQ.out.2.1.fro
      obtain ⟨g,cap,y8,xg0,fg,hPg,hgb,cont⟩:=H1.out.mac.marks_cell H1.out.hg.1 H1.out.hPb x.fro hv1.1 (by omega)
      have x8 : W1.cell? ⟨b,8,none⟩ = some (.slice (some ⟨g,0,none⟩) s.marks.length cap):=y8
      have i0 : (0 ≤ x.fro) = True:=eq_true hv1.1
      have i1 : (x.fro < (s.marks.length : Int)) = True:=eq_true (by omega)
      obtain ⟨vb,xg⟩ : ∃ vb,W1.cell? ⟨g,x.fro.toNat,none⟩ = some (.bool vb):=⟨_,xg0⟩
      have H2:=Aside0.mk (H1.out.step (W1:=(W1.setCell ⟨g,x.fro.toNat,none⟩ (.bool true)).drew) (s1:=marksS s [x.fro]) (out1:=[]) (((Keeps.refl W1 _).setCell (p:=⟨g,x.fro.toNat,none⟩) (.inl (.inr hPg)) _).drew) ((cont true).below (below_drew (Below.refl _ _))))
      clear cont xg0 y8 hm1 hv1 hgb
      go_upto_region 4 with (fail)
      go_still_tail 8,(by kernel_rfl)
      change wpList _ _ _ _ _ W1.drew
      go_upto_region 5 with (fail)
      clear xg fg x8 x4 y1 i0 i1
      first|rw [show(W1.drew).setCell ⟨g,x.fro.toNat,none⟩ (.bool true) = (W1.setCell ⟨g,x.fro.toNat,none⟩ (.bool true)).drew from rfl]|skip
      generalize (W1.setCell ⟨g,x.fro.toNat,none⟩ (.bool true)).drew = W2 at *
      cases hr : lookR (marksS s [x.fro]) with
      | error code =>
        have HR:=Aside0.mk hr
        clear hr
        go_wp2_with ((go_at_call 63;refine(look.mac b gd (fun k=>P k∧k ≠ w.heap.size) (marksS s [x.fro]) [] _ H2.out.mac H2.out.fresh H2.out.hg H2.out.hPb (HQ.out.1.look HST.out [x.fro]) (Nat.zero_le _)).mono ?_;rw [HR.out];rintro e w6 ⟨hk6,he⟩;have H6:=Aside0.mk hk6;have he2 : e = .panicked [{ v:=.iface 30 (.int .i64 code),recovered:=false }]:=he;subst he2;clear hk6 he))
        have e : onBeginsR s x = .error code:=by unfold onBeginsR;rw [if_neg (by have:=HLT.out;omega),if_pos HST.out,HR.out]
        rw [e]
        exact⟨rfl,H2.out.keeps.trans' H6.out (fun k hk=>.inl (hk.imp id (fun h=>h.1))),rfl⟩
      | ok y =>
        have HR:=Aside0.mk hr
        clear hr
        go_wp2_with ((go_at_call 63;refine(look.mac b gd (fun k=>P k∧k ≠ w.heap.size) (marksS s [x.fro]) [] _ H2.out.mac H2.out.fresh H2.out.hg H2.out.hPb (HQ.out.1.look HST.out [x.fro]) (Nat.zero_le _)).mono ?_;rw [HR.out];rintro e w6 ⟨hk6,he⟩;have H6:=Aside0.mk (And.intro hk6 he.2);have he2 : e = .returned (.tuple #[]):=he.1;subst he2;clear hk6 he))
        (first|go_end0|refine bodyPost_ret (results_none rfl _ _ _) rfl ?_)
        have e : onBeginsR s x = .ok y:=by unfold onBeginsR;rw [if_neg (by have:=HLT.out;omega),if_pos HST.out,HR.out]
        rw [e]
        exact⟨H2.out.keeps.trans' H6.out.1 (fun k hk=>.inl (hk.imp id (fun h=>h.1))),rfl,H6.out.2.mono (fun k hk=>hk.1)⟩
    · have c2 : (s.status == 1) = false:=beq_eq_false_iff_ne.mpr hst
      have HST:=Aside0.mk hst
      clear hst
      go_wp2
      (first|go_end0|refine bodyPost_ret (results_none rfl _ _ _) rfl ?_)
      have e : onBeginsR s x = .ok (s,[]):=by unfold onBeginsR;rw [if_neg (by have:=HLT.out;omega),if_neg HST.out]
      rw [e]
      exact⟨H1.out.keeps,rfl,H1.out.fin⟩
end Go.Proofs.Ytojjnifbnppliaa.T
end
section
namespace Go.Proofs.Ytojjnifbnppliaa.T
open Go.RowKit Go.Proofs.YtojjnifbnppliaaW.PrintWords Go.Proofs.YtojjnifbnppliaaW.PrintLast Go.Proofs.YtojjnifbnppliaaW.PrintMore
attribute [local go_sem] max2_int min2_int max_two min_two max_three min_three max_four min_four
set_option linter.unusedVariables false
set_option linter.unusedSimpArgs false
def onStartR (s : St) (x : Ms) : Except Int (St × List Ms):=if x.view.tmod s.n = x.fro then(if(x.log.length : Int) < x.commit then .error 4 else if hereV s.status s.view x.view = true then .ok (s,[tellM s (ansM s x.fro)]) else match settledE (viewS s x.view) x.log with|some c=>.error c|none=>.ok (settledS (viewS s x.view) x.log x.commit,[tellM (settledS (viewS s x.view) x.log x.commit) (ansM (settledS (viewS s x.view) x.log x.commit) x.fro)])) else .error 9
set_option maxHeartbeats 8000000 in
set_option maxRecDepth 100000 in
theorem onStart.mac (b gd : Nat) (P : Nat→Prop) (s : St) (x : Ms) (AX : Option Addr) (cX : Nat) (w : World) (hM : Mac w b gd P s []) (hP : ∀ k,w.heap.size ≤ k→P k) (hg : ¬ P gd∧gd ≠ b) (hPb : ¬ P b) (hc : Chk s) (hx : MsgOk s.id s.n x) (hv : s.view ≤ x.view) (hX : ∀ W,Keeps w W (fun k=>k = b∨P k)→Kd.C (Kd.slice 5 (Kd.int .u8)) W AX x.log.length x.log) (hcX : x.log.length ≤ cX) :
    Calls Try.prog 51 #[.pointer (some ⟨b,0,none⟩),.agg #[.int .i64 x.kind,.int .i64 x.fro,.int .i64 x.dst,.int .i64 x.view,.int .i64 x.last,.int .i64 x.prev,.slice AX x.log.length cX,.int .i64 x.commit,.int .i64 x.mat]] w fun e w'=>Keeps w w' (fun k=>k = b∨P k)∧EndsR (onStartR s x) e (fun s' ms=>Mac w' b gd P s' ms):=by
  have H0:=Aside0.mk (HB.init hM hP hg hPb hX hcX)
  have HQ:=Aside0.mk (And.intro hc (And.intro hx hv))
  have hu29:=Try.underlying29
  have hu25:=Try.underlying25
  have hu26:=Try.underlying26
  have hu27:=Try.underlying27
  have hu61:=Try.underlying61
  have hu37:=Try.underlying37
  have hu69:=Try.underlying69
  have hu23:=Try.underlying23
  have ne1 : ¬ (b = w.heap.size):=H0.out.hne
  have ne2 : ¬ (w.heap.size = b):=fun e=>H0.out.hne e.symm
  clear hM hP hg hPb hc hx hv hX hcX
  have hn0 : s.n ≠ 0:=by have:=HQ.out.1.n;omega
  have c2b0 : (s.n == 0) = false:=beq_eq_false_iff_ne.mpr hn0
  have c2b1 : (s.n != 0) = true:=bne_iff_ne.mpr hn0
  go_enter Try.func51,Try.ntmps51
  go_upto_region 1 with (fail)
  generalize hW0 : (w.alloc (.cells #[.int .i64 x.kind,.int .i64 x.fro,.int .i64 x.dst,.int .i64 x.view,.int .i64 x.last,.int .i64 x.prev,.slice AX x.log.length cX,.int .i64 x.commit,.int .i64 x.mat] 37)) = W0 at *
  clear hW0
  obtain ⟨AL,cL,AM,cM,AK,cK,AB,cB,AD,cD,AO,cO,kb,hCL,hcL⟩:=H0.out.cells
  have x1 : W0.cell? ⟨b,1,none⟩ = some (.int .i64 s.n):=(blk_cell kb 1).trans rfl
  clear kb
  have y1 : W0.cell? ⟨w.heap.size,1,none⟩ = some (.int .i64 x.fro):=(blk_cell H0.out.box 1).trans rfl
  have y3 : W0.cell? ⟨w.heap.size,3,none⟩ = some (.int .i64 x.view):=(blk_cell H0.out.box 3).trans rfl
  clear hCL hcL
  have H1:=Aside0.mk H0.out.drew
  by_cases hp : x.view.tmod s.n = x.fro
  · have b0 : (x.view.tmod s.n == x.fro) = true:=beq_iff_eq.mpr hp
    have b1 : (x.view.tmod s.n != x.fro) = false:=by rw [bne,b0];rfl
    have HP:=Aside0.mk hp
    clear hp
    go_still_tail 12,(by kernel_rfl)
    change wpList _ _ _ _ _ W0.drew
    go_upto_region 2 with ((go_at_call_of 44 (Value.bool false);refine(fail_ok.calls _ _ _).mono ?_;rintro e w' ⟨rfl,hw'⟩;have hw':=hw'.symm;subst hw'))
    clear H0 x1 y1 y3
    generalize W0.drew = W1 at *
    obtain ⟨AL,cL,AM,cM,AK,cK,AB,cB,AD,cD,AO,cO,kb,hCL,hcL⟩:=H1.out.cells
    have x2 : W1.cell? ⟨b,2,none⟩ = some (.int .i64 s.view):=(blk_cell kb 2).trans rfl
    have x4 : W1.cell? ⟨b,4,none⟩ = some (.int .i64 s.status):=(blk_cell kb 4).trans rfl
    clear kb
    have y0 : W1.cell? ⟨w.heap.size,0,none⟩ = some (.int .i64 x.kind):=(blk_cell H1.out.box 0).trans rfl
    have y1 : W1.cell? ⟨w.heap.size,1,none⟩ = some (.int .i64 x.fro):=(blk_cell H1.out.box 1).trans rfl
    have y2 : W1.cell? ⟨w.heap.size,2,none⟩ = some (.int .i64 x.dst):=(blk_cell H1.out.box 2).trans rfl
    have y3 : W1.cell? ⟨w.heap.size,3,none⟩ = some (.int .i64 x.view):=(blk_cell H1.out.box 3).trans rfl
    have y4 : W1.cell? ⟨w.heap.size,4,none⟩ = some (.int .i64 x.last):=(blk_cell H1.out.box 4).trans rfl
    have y5 : W1.cell? ⟨w.heap.size,5,none⟩ = some (.int .i64 x.prev):=(blk_cell H1.out.box 5).trans rfl
    have y6 : W1.cell? ⟨w.heap.size,6,none⟩ = some (.slice AX x.log.length cX):=(blk_cell H1.out.box 6).trans rfl
    have y7 : W1.cell? ⟨w.heap.size,7,none⟩ = some (.int .i64 x.commit):=(blk_cell H1.out.box 7).trans rfl
    have y8 : W1.cell? ⟨w.heap.size,8,none⟩ = some (.int .i64 x.mat):=(blk_cell H1.out.box 8).trans rfl
    clear hCL hcL
    by_cases hcm : (x.log.length : Int) < x.commit
    · have d1 : decide ((x.log.length : Int) < x.commit) = true:=decide_eq_true hcm
      have HCM:=Aside0.mk hcm
      clear hcm
      go_wp2_with ((go_at_call_of 44 (Value.bool true);refine(fail_bad.calls _ _ _).mono ?_;rintro e w' ⟨rfl,hw'⟩;have hw':=hw'.symm;subst hw'))
      have e : onStartR s x = .error 4:=by unfold onStartR;rw [if_pos HP.out,if_pos HCM.out]
      rw [e]
      exact⟨rfl,H1.out.keeps,rfl⟩
    · have d1 : decide ((x.log.length : Int) < x.commit) = false:=decide_eq_false hcm
      have HCM:=Aside0.mk (show ¬ ((x.log.length : Int) < x.commit)∧True from⟨hcm,trivial⟩)
      clear hcm
      cases hh : hereV s.status s.view x.view with
      | true =>
        have HH:=Aside0.mk hh
        clear hh
        go_upto_region 6 with (first|(go_at_call_of 44 (Value.bool false);refine(fail_ok.calls _ _ _).mono ?_;rintro e w' ⟨rfl,hw'⟩;have hw':=hw'.symm;subst hw')|(go_at_call 64;refine(here.calls b s.status s.view x (.slice AX x.log.length cX) W1 x2 x4 AX cX).mono ?_;rw [HH.out];rintro e w1 ⟨rfl,hb1⟩;have H2:=Aside0.mk (H1.out.below hb1);clear hb1))
        clear x2 x4 y0 y1 y2 y3 y4 y5 y6 y7 y8
        have y1 : w1.cell? ⟨w.heap.size,1,none⟩ = some (.int .i64 x.fro):=(blk_cell H2.out.box 1).trans rfl
        go_wp2_with ((go_at_call 66;refine(answer.mac b gd (fun k=>P k∧k ≠ w.heap.size) (s) ([]) x.fro _ H2.out.mac H2.out.fresh H2.out.hg (by simp)).mono ?_;rintro e w9 ⟨rfl,hk9,hm9⟩;have H9:=Aside0.mk (H2.out.step hk9 hm9);clear hk9 hm9))
        (first|go_end0|refine bodyPost_ret (results_none rfl _ _ _) rfl ?_)
        have e : onStartR s x = .ok (s,[tellM s (ansM s x.fro)]):=by unfold onStartR;rw [if_pos HP.out,if_neg (by have:=HCM.out.1;omega),if_pos HH.out]
        rw [e]
        exact⟨H9.out.keeps,rfl,H9.out.fin⟩
      | false =>
        have HH:=Aside0.mk hh
        clear hh
        go_upto_region 4 with (first|(go_at_call_of 44 (Value.bool false);refine(fail_ok.calls _ _ _).mono ?_;rintro e w' ⟨rfl,hw'⟩;have hw':=hw'.symm;subst hw')|(go_at_call 64;refine(here.calls b s.status s.view x (.slice AX x.log.length cX) W1 x2 x4 AX cX).mono ?_;rw [HH.out];rintro e w1 ⟨rfl,hb1⟩;have H2:=Aside0.mk (H1.out.below hb1);clear hb1))
        clear x2 x4 y0 y1 y2 y3 y4 y5 y6 y7 y8
        obtain ⟨AL2,cL2,AM2,cM2,AK2,cK2,AB2,cB2,AD2,cD2,AO2,cO2,kb2,hCL2,hcL2⟩:=H2.out.cells
        have x2 : w1.cell? ⟨b,2,none⟩ = some (.int .i64 s.view):=(blk_cell kb2 2).trans rfl
        have fx2:=blk_frozen kb2 2
        clear kb2
        clear hCL2 hcL2
        have y3 : w1.cell? ⟨w.heap.size,3,none⟩ = some (.int .i64 x.view):=(blk_cell H2.out.box 3).trans rfl
        have H3:=Aside0.mk (H2.out.view x.view)
        go_upto_region 5 with (fail)
        clear x2 fx2 y3 H1 H2
        generalize w1.setCell ⟨b,2,none⟩ (.int .i64 x.view) = W3 at *
        have y6 : W3.cell? ⟨w.heap.size,6,none⟩ = some (.slice AX x.log.length cX):=(blk_cell H3.out.box 6).trans rfl
        have y7 : W3.cell? ⟨w.heap.size,7,none⟩ = some (.int .i64 x.commit):=(blk_cell H3.out.box 7).trans rfl
        cases hse : settledE (viewS s x.view) x.log with
        | some code =>
          have HSE:=Aside0.mk hse
          clear hse
          go_wp2_with ((go_at_call 68;refine(settled.mac b gd (fun k=>P k∧k ≠ w.heap.size) (viewS s x.view) [] AX cX x.log x.commit _ H3.out.mac H3.out.fresh H3.out.hg H3.out.xnow (mayLog_fit HQ.out.2.1.log).1 HQ.out.1.commit).mono ?_;rw [HSE.out];rintro e w6 ⟨hk6,he⟩;have H6:=Aside0.mk hk6;have he2 : e = .panicked [{ v:=.iface 30 (.int .i64 code),recovered:=false }]:=he;subst he2;clear hk6 he))
          have e : onStartR s x = .error code:=by unfold onStartR;rw [if_pos HP.out,if_neg (by have:=HCM.out.1;omega),if_neg (by rw [HH.out];simp),HSE.out]
          rw [e]
          exact⟨rfl,H3.out.keeps.trans' H6.out (fun k hk=>.inl (hk.imp id (fun h=>h.1))),rfl⟩
        | none =>
          have HSE:=Aside0.mk hse
          clear hse
          go_upto_region 6 with ((go_at_call 68;refine(settled.mac b gd (fun k=>P k∧k ≠ w.heap.size) (viewS s x.view) [] AX cX x.log x.commit _ H3.out.mac H3.out.fresh H3.out.hg H3.out.xnow (mayLog_fit HQ.out.2.1.log).1 HQ.out.1.commit).mono ?_;rw [HSE.out];rintro e w6 ⟨hk6,he⟩;have H6:=Aside0.mk (And.intro hk6 he.2);have he2 : e = .returned (.tuple #[]):=he.1;subst he2;clear hk6 he))
          have H7:=Aside0.mk (H3.out.step H6.out.1 H6.out.2)
          clear y6 y7 H3 H6
          have y1 : w6.cell? ⟨w.heap.size,1,none⟩ = some (.int .i64 x.fro):=(blk_cell H7.out.box 1).trans rfl
          go_wp2_with ((go_at_call 66;refine(answer.mac b gd (fun k=>P k∧k ≠ w.heap.size) (settledS (viewS s x.view) x.log x.commit) ([]) x.fro _ H7.out.mac H7.out.fresh H7.out.hg (by simp)).mono ?_;rintro e w9 ⟨rfl,hk9,hm9⟩;have H9:=Aside0.mk (H7.out.step hk9 hm9);clear hk9 hm9))
          (first|go_end0|refine bodyPost_ret (results_none rfl _ _ _) rfl ?_)
          have e : onStartR s x = .ok (settledS (viewS s x.view) x.log x.commit,[tellM (settledS (viewS s x.view) x.log x.commit) (ansM (settledS (viewS s x.view) x.log x.commit) x.fro)]):=by unfold onStartR;rw [if_pos HP.out,if_neg (by have:=HCM.out.1;omega),if_neg (by rw [HH.out];simp),HSE.out]
          rw [e]
          exact⟨H9.out.keeps,rfl,H9.out.fin⟩
  · have b0 : (x.view.tmod s.n == x.fro) = false:=beq_eq_false_iff_ne.mpr hp
    have b1 : (x.view.tmod s.n != x.fro) = true:=bne_iff_ne.mpr hp
    have HP:=Aside0.mk (show ¬ (x.view.tmod s.n = x.fro)∧True from⟨hp,trivial⟩)
    clear hp
    go_still_tail 12,(by kernel_rfl)
    change wpList _ _ _ _ _ W0.drew
    go_wp2_with ((go_at_call_of 44 (Value.bool true);refine(fail_bad.calls _ _ _).mono ?_;rintro e w' ⟨rfl,hw'⟩;have hw':=hw'.symm;subst hw'))
    have e : onStartR s x = .error 9:=by unfold onStartR;rw [if_neg HP.out.1]
    rw [e]
    exact⟨rfl,H1.out.keeps,rfl⟩
end Go.Proofs.Ytojjnifbnppliaa.T
end
section
namespace Go.Proofs.Ytojjnifbnppliaa.T
open Go.RowKit Go.Proofs.YtojjnifbnppliaaW.PrintWords Go.Proofs.YtojjnifbnppliaaW.PrintLast Go.Proofs.YtojjnifbnppliaaW.PrintMore
attribute [local go_sem] max2_int min2_int max_two min_two max_three min_three max_four min_four
set_option linter.unusedVariables false
set_option linter.unusedSimpArgs false
theorem startS_mid {s : St} (h : StartOk s) (h1 : (startS s).status = 1) : StartOk (startS s):=by
  unfold startS at h1 ⊢
  split at h1
  · have e : (agreeS (startS1 s)).status = 0:=rfl
    rw [e] at h1
    omega
  · rename_i hg
    rw [if_neg hg]
    exact h
theorem startR_ok {s : St} {y : St × List Ms} (h : startR s = .ok y) : y.1 = startS s∧y.2 = startM s:=by
  unfold startR ofEnds at h
  split at h
  · cases h
  · injection h with h
    subst h
    exact⟨rfl,rfl⟩
theorem startM_len {s : St} (hn : s.n ≤ 9) : (startM s).length ≤ 9:=by
  unfold startM
  split
  · have:=tellAllM_len (startS1 s) (startMsg (startS1 s)) s.n.toNat
    omega
  · exact Nat.zero_le _
theorem lookR_mid {s : St} (h : LookOk s) (hp : primaryV s.id s.n s.view = true) {y : St × List Ms} (hy : lookR s = .ok y) : (y.1.status = 1→StartOk y.1)∧y.2.length ≤ 9:=by
  unfold lookR at hy
  split at hy
  · first|rw [if_pos hp] at hy|skip
    obtain ⟨e1,e2⟩:=startR_ok hy
    rw [e1,e2]
    exact⟨startS_mid (h.bal hp),startM_len h.n.2⟩
  · injection hy with hy
    subst hy
    exact⟨fun _=>⟨h.n,h.id,(h.bals hp).1,h.com,(h.bals hp).2⟩,Nat.zero_le _⟩
theorem enterR_mid {s : St} (h : EnterOk s) {v : Int} {l : List Int} (hp : primaryV s.id s.n v = true) {y : St × List Ms} (hy : enterR s v l = .ok y) : (y.1.status = 1→StartOk y.1)∧y.2.length ≤ 18:=by
  unfold enterR preR at hy
  split at hy
  · cases hy
  · rename_i z hz
    injection hy with hy
    subst hy
    obtain ⟨h1,h2⟩:=lookR_mid (h.look v l) hp hz
    refine⟨h1,?_⟩
    have:=tellAllM_len (e1S s v) beginM s.n.toNat
    have:=h.n
    rw [List.length_append]
    omega
def putS (s : St) (x : Ms) : St:={ s with bals:=s.bals.set x.fro.toNat ⟨true,x.last,x.log,x.commit⟩ }
theorem StartOk.put {s : St} (h : StartOk s) {x : Ms} (hx : mayLogV x.log = true) : StartOk (putS s x) where
  n:=h.n
  id:=h.id
  len:=by show((s.bals.set _ _).length : Int) = s.n;rw [List.length_set];exact h.len
  com:=h.com
  fit:=fun y hy=>by
    rcases List.mem_or_eq_of_mem_set hy with h1|h1
    · exact h.fit y h1
    · subst h1;exact⟨(mayLog_fit hx).1,by have:=(mayLog_fit hx).2;show x.log.length ≤ 1000000;omega⟩
theorem startS_n (s : St) : (startS s).n = s.n∧(startS s).id = s.id:=by
  unfold startS
  split
  · exact⟨rfl,rfl⟩
  · exact⟨rfl,rfl⟩
theorem lookR_n {s : St} {y : St × List Ms} (hy : lookR s = .ok y) : y.1.n = s.n∧y.1.id = s.id:=by
  unfold lookR at hy
  split at hy
  · split at hy
    · rw [(startR_ok hy).1];exact startS_n _
    · injection hy with hy
      subst hy
      exact⟨rfl,rfl⟩
  · injection hy with hy
    subst hy
    exact⟨rfl,rfl⟩
theorem enterR_ni {s : St} {v : Int} {l : List Int} {y : St × List Ms} (hy : enterR s v l = .ok y) : y.1.n = s.n∧y.1.id = s.id:=by
  unfold enterR preR at hy
  split at hy
  · cases hy
  · rename_i z hz
    injection hy with hy
    subst hy
    exact(lookR_n (y:=z) hz : z.1.n = (marksS (e1S s v) l).n∧z.1.id = (marksS (e1S s v) l).id)
theorem enterR_n {s : St} {v : Int} {l : List Int} {y : St × List Ms} (hy : enterR s v l = .ok y) : y.1.n = s.n:=(enterR_ni hy).1
end Go.Proofs.Ytojjnifbnppliaa.T
end
