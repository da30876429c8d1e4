/- What a request makes of the machine. A region that draws its order: by a table of what each operation leaves in its slot. A region that draws its order: what reads is taken first, what writes comes in one order alone. tell: a message is appended. -/
import Derived.Deep.DeepCutAuto
import Derived.Deep.RegionHeld3
import Derived.StillTail
import Derived.StillTailTactics
import Derived.Test.YtojjnifbnppliaaQ02
import Derived.Test.YtojjnifbnppliaaQ03
section
namespace Go.Proofs.Ytojjnifbnppliaa.T
open Go.RowKit Go.Proofs.YtojjnifbnppliaaW.PrintWords Go.Proofs.YtojjnifbnppliaaW.PrintLast Go.Proofs.YtojjnifbnppliaaW.PrintMore
attribute [local go_sem] max2_int min2_int max_two min_two max_three min_three max_four min_four
set_option linter.unusedVariables false
set_option linter.unusedSimpArgs false
/-- What is known of a machine that was told. -/
structure Okm (s : St) : Prop where
  n : 1 ≤ s.n∧s.n ≤ 9
  id : 0 ≤ s.id∧s.id < s.n
  commit : 0 ≤ s.commit∧s.commit ≤ s.log.length
  log : s.log.length ≤ 512
  mat : leadsV s.id s.n s.view s.status = true→(s.mat.length : Int) = s.n
def reqS (s : St) (data : List Int) : St:={ s with log:=s.log ++ [data],mat:=s.mat.set s.id.toNat (s.log.length + 1),commit:=agreeV s.n (s.mat.set s.id.toNat (s.log.length + 1)) (s.log.length + 1) s.commit }
def reqE (s : St) (data : List Int) : Option Int:=if leadsV s.id s.n s.view s.status = true then(if(data.length : Int) > 256 then some 5 else if(s.log.length : Int) ≥ 512 then some 51 else none) else some 9
def Ends (r : Option Int) (e : Ending) (ok : Prop) : Prop:=match r with
  | some x=>e = .panicked [{ v:=.iface 30 (.int .i64 x),recovered:=false }]
  | none=>e = .returned (.tuple #[])∧ok
/-- call; literal; append; store, in a region that draws its order. -/
def RQ (W : World) (E Mid : Value→World→Prop) (Fin : World→Prop) (t : TypeId) (i8 i9 i10 i14 n34 n35 n36 : Nat) (l : Nat→Bool) (u : Nat→Value) (wx : World) : Prop :=
  (l i10 = false→Below W.heap.size W wx)∧(l i8 = true→l i9 = false→E (u n34) wx)∧(l i9 = true→l i10 = false→∃ W' : World,wx = W'.alloc (.cells #[u n34] t)∧Below W.heap.size W W'∧E (u n34) W'∧u n35 = .slice (some ⟨W'.heap.size,0,none⟩) 1 1)∧(l i10 = true→l i14 = false→Mid (u n36) wx)∧(l i14 = true→Fin wx)
section
variable {W : World} {E Mid : Value→World→Prop} {Fin : World→Prop} {t : TypeId} {i8 i9 i10 i14 n34 n35 n36 : Nat} {l : Nat→Bool} {u : Nat→Value} {wx : World}
theorem or_ne {l : Nat→Bool} {i m : Nat} (h : m ≠ i) : (l m || m == i) = l m:=by simp [h]
theorem or_at {l : Nat→Bool} {i : Nat} : (l i || i == i) = true:=by simp
theorem RQ.upd {i n : Nat} {v : Value} (h1 : i8 ≠ i) (h2 : i9 ≠ i) (h3 : i10 ≠ i) (h4 : i14 ≠ i) (m1 : n34 ≠ n) (m2 : n35 ≠ n) (m3 : n36 ≠ n) (h : RQ W E Mid Fin t i8 i9 i10 i14 n34 n35 n36 l u wx) : RQ W E Mid Fin t i8 i9 i10 i14 n34 n35 n36 (fun j=>l j || j == i) (T.upd u n v) wx:=by
  unfold RQ at h ⊢
  simp only [or_ne h1,or_ne h2,or_ne h3,or_ne h4,upd_ne m1,upd_ne m2,upd_ne m3]
  exact h
/-- The call. -/
theorem RQ.call {v : Value} {w2 : World} (h2 : i9 ≠ i8) (h3 : i10 ≠ i8) (h4 : i14 ≠ i8) (hl9 : l i9 = false) (hl10 : l i10 = false) (hl14 : l i14 = false) (hb : Below W.heap.size W w2) (he : E v w2) : RQ W E Mid Fin t i8 i9 i10 i14 n34 n35 n36 (fun j=>l j || j == i8) (T.upd u n34 v) w2:=by
  unfold RQ
  simp only [or_ne h2,or_ne h3,or_ne h4,or_at,upd_at]
  exact⟨fun _=>hb,fun _ _=>he,fun h=>absurd (hl9.symm.trans h) (by simp),fun h=>absurd (hl10.symm.trans h) (by simp),fun h=>absurd (hl14.symm.trans h) (by simp)⟩
/-- The literal. -/
theorem RQ.lit (m1 : n34 ≠ n35) (h3 : i10 ≠ i9) (h4 : i14 ≠ i9) (hl10 : l i10 = false) (hl14 : l i14 = false) (hb : Below W.heap.size W wx) (he : E (u n34) wx) : RQ W E Mid Fin t i8 i9 i10 i14 n34 n35 n36 (fun j=>l j || j == i9) (T.upd u n35 (.slice (some ⟨wx.heap.size,0,none⟩) 1 1)) (wx.alloc (.cells #[u n34] t)):=by
  unfold RQ
  simp only [or_ne h3,or_ne h4,or_at,upd_at,upd_ne m1]
  exact⟨fun _=>below_alloc hb _,fun _ h=>absurd h (by simp),fun _ _=>⟨wx,rfl,hb,he,rfl⟩,fun h=>absurd (hl10.symm.trans h) (by simp),fun h=>absurd (hl14.symm.trans h) (by simp)⟩
/-- The append. -/
theorem RQ.app {v : Value} {w3 : World} (h4 : i14 ≠ i10) (hl14 : l i14 = false) (hl9 : l i9 = true) (h5 : i9 ≠ i10) (hm : Mid v w3) : RQ W E Mid Fin t i8 i9 i10 i14 n34 n35 n36 (fun j=>l j || j == i10) (T.upd u n36 v) w3:=by
  unfold RQ
  simp only [or_ne h4,or_ne h5,or_at,upd_at]
  exact⟨fun h=>absurd h (by simp),fun _ h=>absurd (hl9.symm.trans h) (by simp),fun _ h=>absurd h (by simp),fun _ _=>hm,fun h=>absurd (hl14.symm.trans h) (by simp)⟩
/-- The store. -/
theorem RQ.store {w4 : World} (h4 : i10 ≠ i14) (h5 : i9 ≠ i14) (hl10 : l i10 = true) (hl9 : l i9 = true) (hf : Fin w4) : RQ W E Mid Fin t i8 i9 i10 i14 n34 n35 n36 (fun j=>l j || j == i14) u w4:=by
  unfold RQ
  simp only [or_ne h4,or_ne h5,or_at]
  exact⟨fun h=>absurd (hl10.symm.trans h) (by simp),fun _ h=>absurd (hl9.symm.trans h) (by simp),fun _ h=>absurd (hl10.symm.trans h) (by simp),fun _ h=>absurd h (by simp),fun _=>hf⟩
end
theorem R_over0 {α : Type} {d : Kd α} {e base : Nat} {ok : Nat→Prop} {W w1 : World} {v : Value} {xs : List α} {row : Option Nat} (hx : xs = []) (h : d.R e W base ok v xs) (hne : ∀ k,v.ownBlock = some k→some k ≠ row) (hg : W.grownBy w1 row) : d.R e w1 base ok v xs:=by
  subst hx
  obtain ⟨h0,inner,ho,hr⟩:=h
  exact⟨h0,inner,own_move ho (fun k hk=>hg.block k (own_lt ho k hk) (hne k hk)),hr.1,fun j p hj=>by simp at hj⟩
def rqF (b k0 : Nat) (vL vd : Value) (i : Nat) (u : Nat→Value) : Prop:=match i with
  | 0=>u 26 = .pointer (some ⟨b,0,none⟩)
  | 1=>u 27 = .pointer (some ⟨b,0,none⟩)
  | 2=>u 28 = .pointer (some ⟨b,0,none⟩)
  | 3=>u 29 = .pointer (some ⟨b,0,none⟩)
  | 4=>u 30 = .pointer (some ⟨b,5,none⟩)
  | 5=>u 31 = vL
  | 6=>u 32 = .pointer (some ⟨k0,10,none⟩)
  | 7=>u 33 = vd
  | 11=>u 37 = .pointer (some ⟨b,0,none⟩)
  | 12=>u 38 = .pointer (some ⟨b,0,none⟩)
  | 13=>u 39 = .pointer (some ⟨b,5,none⟩)
  | _=>True
theorem rqF.upd {b k0 : Nat} {vL vd : Value} {i : Nat} {u u' : Nat→Value} (hu : ∀ n,[26,27,28,29,30,31,32,33,34,35,36,37,38,39,99][i]? = some n→u' n = u n) (h : rqF b k0 vL vd i u) : rqF b k0 vL vd i u':=by
  rcases i with _|_|_|_|_|_|_|_|_|_|_|_|_|_|i
  · show u' 26 = _;rw [hu 26 rfl];exact h
  · show u' 27 = _;rw [hu 27 rfl];exact h
  · show u' 28 = _;rw [hu 28 rfl];exact h
  · show u' 29 = _;rw [hu 29 rfl];exact h
  · show u' 30 = _;rw [hu 30 rfl];exact h
  · show u' 31 = _;rw [hu 31 rfl];exact h
  · show u' 32 = _;rw [hu 32 rfl];exact h
  · show u' 33 = _;rw [hu 33 rfl];exact h
  · trivial
  · trivial
  · trivial
  · show u' 37 = _;rw [hu 37 rfl];exact h
  · show u' 38 = _;rw [hu 38 rfl];exact h
  · show u' 39 = _;rw [hu 39 rfl];exact h
  · trivial
set_option maxHeartbeats 8000000 in
set_option maxRecDepth 100000 in
theorem request.calls (b gd : Nat) (P : Nat→Prop) (s : St) (out : List Ms) (k : Int) (x : Ms) (AX : Option Addr) (cX : Nat) (A : Option Addr) (c : Nat) (data : List Int) (w : World) (hM : Mac w b gd P s out) (hP : ∀ k,w.heap.size ≤ k→P k) (hg : ¬ P gd∧gd ≠ b) (hk : Okm s) (hd : Kd.C (Kd.int .u8) w A data.length data) (hbals : s.bals = []) (hout : out = []) :
    Calls Try.prog 24 #[.pointer (some ⟨b,0,none⟩),.agg #[.int .i64 k,.int .i64 x.kind,.int .i64 x.fro,.int .i64 x.dst,.int .i64 x.view,.int .i64 x.last,.int .i64 x.prev,.slice AX x.log.length cX,.int .i64 x.commit,.int .i64 x.mat,.slice A data.length c]] w fun e w'=>Keeps w w' (fun k=>k = b∨P k)∧Ends (reqE s data) e (Mac w' b gd P (reqS s data) out):=by
  obtain ⟨hgl,AL,cL,AM,cM,AK,cK,AB,cB,AD,cD,AO,cO,hb,h1,h2,h3,h4,h5,h6,h7⟩:=hM
  have hu:=Try.underlying39
  have hu61:=Try.underlying61
  have hu29:=Try.underlying29
  have hu25:=Try.underlying25
  have hu23:=Try.underlying23
  have hlb : b < w.heap.size:=blk_lt hb
  have hn0 : s.n ≠ 0:=by have:=hk.n;omega
  have HK:=Aside0.mk (blk_alloc hb (.cells #[.int .i64 k,.int .i64 x.kind,.int .i64 x.fro,.int .i64 x.dst,.int .i64 x.view,.int .i64 x.last,.int .i64 x.prev,.slice AX x.log.length cX,.int .i64 x.commit,.int .i64 x.mat,.slice A data.length c] 39))
  have HQ:=Aside0.mk (And.intro hP (And.intro hg (And.intro hgl (And.intro hlb hk))))
  have HD:=Aside0.mk hd
  have HKP:=Aside0.mk (Keeps.alloc (Keeps.refl w (fun k=>k = b∨P k)) (.cells #[.int .i64 k,.int .i64 x.kind,.int .i64 x.fro,.int .i64 x.dst,.int .i64 x.view,.int .i64 x.last,.int .i64 x.prev,.slice AX x.log.length cX,.int .i64 x.commit,.int .i64 x.mat,.slice A data.length c] 39))
  have HE:=Aside0.mk (And.intro hbals hout)
  have HR:=Aside0.mk (And.intro h1 (And.intro h2 (And.intro h3 (And.intro h4 (And.intro h5 (And.intro h6 h7))))))
  clear h1 h2 h3 h4 h5 h6 h7 hP hg hgl hk hd hbals hout
  have x0 : (w.alloc (.cells #[.int .i64 k,.int .i64 x.kind,.int .i64 x.fro,.int .i64 x.dst,.int .i64 x.view,.int .i64 x.last,.int .i64 x.prev,.slice AX x.log.length cX,.int .i64 x.commit,.int .i64 x.mat,.slice A data.length c] 39)).cell? ⟨b,0,none⟩ = some (.int .i64 s.id):=(blk_cell HK.out 0).trans rfl
  have x1 : (w.alloc (.cells #[.int .i64 k,.int .i64 x.kind,.int .i64 x.fro,.int .i64 x.dst,.int .i64 x.view,.int .i64 x.last,.int .i64 x.prev,.slice AX x.log.length cX,.int .i64 x.commit,.int .i64 x.mat,.slice A data.length c] 39)).cell? ⟨b,1,none⟩ = some (.int .i64 s.n):=(blk_cell HK.out 1).trans rfl
  have x2 : (w.alloc (.cells #[.int .i64 k,.int .i64 x.kind,.int .i64 x.fro,.int .i64 x.dst,.int .i64 x.view,.int .i64 x.last,.int .i64 x.prev,.slice AX x.log.length cX,.int .i64 x.commit,.int .i64 x.mat,.slice A data.length c] 39)).cell? ⟨b,2,none⟩ = some (.int .i64 s.view):=(blk_cell HK.out 2).trans rfl
  have x4 : (w.alloc (.cells #[.int .i64 k,.int .i64 x.kind,.int .i64 x.fro,.int .i64 x.dst,.int .i64 x.view,.int .i64 x.last,.int .i64 x.prev,.slice AX x.log.length cX,.int .i64 x.commit,.int .i64 x.mat,.slice A data.length c] 39)).cell? ⟨b,4,none⟩ = some (.int .i64 s.status):=(blk_cell HK.out 4).trans rfl
  have x5 : (w.alloc (.cells #[.int .i64 k,.int .i64 x.kind,.int .i64 x.fro,.int .i64 x.dst,.int .i64 x.view,.int .i64 x.last,.int .i64 x.prev,.slice AX x.log.length cX,.int .i64 x.commit,.int .i64 x.mat,.slice A data.length c] 39)).cell? ⟨b,5,none⟩ = some (.slice AL s.log.length cL):=(blk_cell HK.out 5).trans rfl
  have x7 : (w.alloc (.cells #[.int .i64 k,.int .i64 x.kind,.int .i64 x.fro,.int .i64 x.dst,.int .i64 x.view,.int .i64 x.last,.int .i64 x.prev,.slice AX x.log.length cX,.int .i64 x.commit,.int .i64 x.mat,.slice A data.length c] 39)).cell? ⟨b,7,none⟩ = some (.slice AM s.mat.length cM):=(blk_cell HK.out 7).trans rfl
  clear hb hlb
  cases hl : leadsV s.id s.n s.view s.status with
  | false =>
    have e : reqE s data = some 9:=by unfold reqE;rw [hl,if_neg (by simp)]
    rw [e]
    clear e
    go_enter Try.func24,Try.ntmps24
    go_wp2_with (first|(go_at_call 16;refine(leads.calls b s.id s.n s.view s.status hn0 _ x0 x1 x2 x4).mono ?_;rw [hl];rintro e w' ⟨rfl,⟨m,rfl⟩⟩;replace HKP:=Aside0.mk (HKP.out.drewN m))|(go_at_call_of 44 (Value.bool true);refine(fail_bad.calls _ _ _).mono ?_;rintro e w' ⟨rfl,rfl⟩))
    exact⟨rfl,HKP.out,rfl⟩
  | true =>
    by_cases hd1 : (data.length : Int) > 256
    · have d1 : decide (256 < (data.length : Int)) = true:=decide_eq_true hd1
      have d2 : decide (256 < data.length) = true:=decide_eq_true (by omega)
      have e : reqE s data = some 5:=by unfold reqE;rw [hl,if_pos rfl,if_pos hd1]
      rw [e]
      clear e hd1
      go_enter Try.func24,Try.ntmps24
      go_wp2_with (first|(go_at_call 16;refine(leads.calls b s.id s.n s.view s.status hn0 _ x0 x1 x2 x4).mono ?_;rw [hl];rintro e w' ⟨rfl,⟨m,rfl⟩⟩;replace HKP:=Aside0.mk (HKP.out.drewN m))|(go_at_call_of 44 (Value.bool false);refine(fail_ok.calls _ _ _).mono ?_;rintro e w' ⟨rfl,rfl⟩)|(go_at_call_of 44 (Value.bool true);refine(fail_bad.calls _ _ _).mono ?_;rintro e w' ⟨rfl,rfl⟩))
      exact⟨rfl,HKP.out,rfl⟩
    · have d1 : decide (256 < (data.length : Int)) = false:=decide_eq_false hd1
      have d2 : decide (256 < data.length) = false:=decide_eq_false (by omega)
      by_cases hd3 : (s.log.length : Int) ≥ 512
      · have d3 : decide (512 ≤ (s.log.length : Int)) = true:=decide_eq_true hd3
        have d4 : decide (512 ≤ s.log.length) = true:=decide_eq_true (by omega)
        have e : reqE s data = some 51:=by unfold reqE;rw [hl,if_pos rfl,if_neg hd1,if_pos hd3]
        rw [e]
        clear e hd1 hd3
        go_enter Try.func24,Try.ntmps24
        go_wp2_with (first|(go_at_call 16;refine(leads.calls b s.id s.n s.view s.status hn0 _ x0 x1 x2 x4).mono ?_;rw [hl];rintro e w' ⟨rfl,⟨m,rfl⟩⟩;replace HKP:=Aside0.mk (HKP.out.drewN m))|(go_at_call_of 44 (Value.bool false);refine(fail_ok.calls _ _ _).mono ?_;rintro e w' ⟨rfl,rfl⟩)|(go_at_call_of 44 (Value.bool true);refine(fail_bad.calls _ _ _).mono ?_;rintro e w' ⟨rfl,rfl⟩))
        exact⟨rfl,HKP.out,rfl⟩
      · have d3 : decide (512 ≤ (s.log.length : Int)) = false:=decide_eq_false hd3
        have d4 : decide (512 ≤ s.log.length) = false:=decide_eq_false (by omega)
        have e : reqE s data = none:=by unfold reqE;rw [hl,if_pos rfl,if_neg hd1,if_neg hd3]
        rw [e]
        have HLL:=Aside0.mk (And.intro (show s.log.length < 512 by omega) (And.intro (show data.length ≤ 256 by omega) hl))
        clear e hd1 hd3 x7
        go_enter Try.func24,Try.ntmps24
        go_upto_region 4 with (first|(go_at_call 16;refine(leads.calls b s.id s.n s.view s.status hn0 _ x0 x1 x2 x4).mono ?_;rw [hl];rintro e w' ⟨rfl,⟨m,rfl⟩⟩;replace HKP:=Aside0.mk (HKP.out.drewN m))|(go_at_call_of 44 (Value.bool false);refine(fail_ok.calls _ _ _).mono ?_;rintro e w' ⟨rfl,rfl⟩))
        have HB1 : Below w.heap.size w ((w.alloc (.cells #[.int .i64 k,.int .i64 x.kind,.int .i64 x.fro,.int .i64 x.dst,.int .i64 x.view,.int .i64 x.last,.int .i64 x.prev,.slice AX x.log.length cX,.int .i64 x.commit,.int .i64 x.mat,.slice A data.length c] 39)).drewN m):=pw_below_drewN (below_alloc (Below.refl _ _) _) m
        have KB : ((w.alloc (.cells #[.int .i64 k,.int .i64 x.kind,.int .i64 x.fro,.int .i64 x.dst,.int .i64 x.view,.int .i64 x.last,.int .i64 x.prev,.slice AX x.log.length cX,.int .i64 x.commit,.int .i64 x.mat,.slice A data.length c] 39)).drewN m).heap[w.heap.size]? = some (.cells #[.int .i64 k,.int .i64 x.kind,.int .i64 x.fro,.int .i64 x.dst,.int .i64 x.view,.int .i64 x.last,.int .i64 x.prev,.slice AX x.log.length cX,.int .i64 x.commit,.int .i64 x.mat,.slice A data.length c] 39 (0,0)):=heap_alloc_new w _
        have hsz : ((w.alloc (.cells #[.int .i64 k,.int .i64 x.kind,.int .i64 x.fro,.int .i64 x.dst,.int .i64 x.view,.int .i64 x.last,.int .i64 x.prev,.slice AX x.log.length cX,.int .i64 x.commit,.int .i64 x.mat,.slice A data.length c] 39)).drewN m).heap.size = w.heap.size + 1:=by simp
        have HK1 : ((w.alloc (.cells #[.int .i64 k,.int .i64 x.kind,.int .i64 x.fro,.int .i64 x.dst,.int .i64 x.view,.int .i64 x.last,.int .i64 x.prev,.slice AX x.log.length cX,.int .i64 x.commit,.int .i64 x.mat,.slice A data.length c] 39)).drewN m).heap[b]? = some (.cells #[.int .i64 s.id,.int .i64 s.n,.int .i64 s.view,.int .i64 s.last,.int .i64 s.status,.slice AL s.log.length cL,.int .i64 s.commit,.slice AM s.mat.length cM,.slice AK s.marks.length cK,.bool s.sent,.slice AB s.bals.length cB,.int .i64 s.elapsed,.int .i64 s.timeout,.slice AD s.draws.length cD,.slice AO out.length cO] 61 (0,0)):=HK.out
        generalize ((w.alloc (.cells #[.int .i64 k,.int .i64 x.kind,.int .i64 x.fro,.int .i64 x.dst,.int .i64 x.view,.int .i64 x.last,.int .i64 x.prev,.slice AX x.log.length cX,.int .i64 x.commit,.int .i64 x.mat,.slice A data.length c] 39)).drewN m) = W at *
        have HKP1:=HKP
        have x5 : W.cell? ⟨b,5,none⟩ = some (.slice AL s.log.length cL):=(blk_cell HK1 5).trans rfl
        have xd : W.cell? ⟨w.heap.size,10,none⟩ = some (.slice A data.length c):=(blk_cell KB 10).trans rfl
        have HB2:=Aside0.mk (And.intro HB1 (And.intro HK1 hsz))
        have HDW:=Aside0.mk (Kd.C_below HD.out HB1)
        clear HB1 KB HK1 hsz x0 x1 x2 x4
        go_cut [3] (fun s3 wx=>Aside0 (Mac wx b gd P { s with log:=s.log ++ [data] } out∧Keeps w wx (fun k=>k = b∨P k)))
        case first=>as_aux_lemma =>
          obtain ⟨hB1,hK1,hsz⟩:=HB2.out
          refine region_invL (fun u=>⟨#[.pointer (some ⟨b,0,none⟩),.agg #[.int .i64 k,.int .i64 x.kind,.int .i64 x.fro,.int .i64 x.dst,.int .i64 x.view,.int .i64 x.last,.int .i64 x.prev,.slice AX x.log.length cX,.int .i64 x.commit,.int .i64 x.mat,.slice A data.length c],undef,.pointer (some ⟨w.heap.size,0,none⟩),.pointer (some ⟨b,0,none⟩),.pointer (some ⟨b,0,none⟩),.pointer (some ⟨b,0,none⟩),.pointer (some ⟨b,0,none⟩),.bool true,.bool false,.tuple #[],.pointer (some ⟨b,0,none⟩),.pointer (some ⟨w.heap.size,10,none⟩),.slice A data.length c,.int .i64 data.length,.bool false,.tuple #[],.pointer (some ⟨b,0,none⟩),.pointer (some ⟨b,0,none⟩),.pointer (some ⟨b,0,none⟩),.pointer (some ⟨b,0,none⟩),.pointer (some ⟨b,5,none⟩),.slice AL s.log.length cL,.int .i64 s.log.length,.bool false,.tuple #[],u 26,u 27,u 28,u 29,u 30,u 31,u 32,u 33,u 34,u 35,u 36,u 37,u 38,u 39,undef,undef,undef,undef,undef,undef,undef,undef,undef,undef,undef,undef,undef,undef,undef,undef,undef,undef,undef],[]⟩) (fun _=>undef) (RQ W (fun v w=>∃ (A2 : Option Addr) (c2 : Nat),v = .slice A2 data.length c2∧(Kd.int .u8).R 5 w 0 (fun k=>W.heap.size ≤ k) v data) (fun v w=>∃ (A2 : Option Addr) (c2 : Nat),v = .slice A2 (s.log ++ [data]).length c2∧(Kd.slice 5 (Kd.int .u8)).R 22 w 0 P v (s.log ++ [data])∧(Kd.int .i64).R 3 w 0 P (.slice AM s.mat.length cM) s.mat∧Kd.bool.R 4 w 0 P (.slice AK s.marks.length cK) s.marks∧k69.R 69 w 0 P (.slice AB s.bals.length cB) s.bals∧kMs.R 37 w 0 P (.slice AO out.length cO) out∧Kd.F (Kd.int .i64) w (fun k=>k = gd) AD s.draws.length s.draws∧w.heap[b]? = some (.cells #[.int .i64 s.id,.int .i64 s.n,.int .i64 s.view,.int .i64 s.last,.int .i64 s.status,.slice AL s.log.length cL,.int .i64 s.commit,.slice AM s.mat.length cM,.slice AK s.marks.length cK,.bool s.sent,.slice AB s.bals.length cB,.int .i64 s.elapsed,.int .i64 s.timeout,.slice AD s.draws.length cD,.slice AO out.length cO] 61 (0,0))∧Keeps W w (fun k=>k = b∨P k)) (fun w=>Mac w b gd P { s with log:=s.log ++ [data] } out∧Keeps W w (fun k=>k = b∨P k)) 22 8 9 10 14 34 35 36) (fun i u _=>rqF b w.heap.size (.slice AL s.log.length cL) (.slice A data.length c) i u) rfl (by kernel_rfl) rfl ?g0 ?step ?done
          case g0=>exact⟨fun _=>below_drew (Below.refl _ _),fun h=>by simp at h,fun h=>by simp at h,fun h=>by simp at h,fun h=>by simp at h⟩
          case step =>
            intro l u wx i o hx hG hF ho hl hn
            rcases i with _|_|_|_|_|_|_|_|_|_|_|_|_|_|_|i
            · obtain rfl:=Option.some.inj (show some _ = some o from ho)
              refine value_ (v:=.pointer (some ⟨b,0,none⟩)) rfl rfl (by go_simp;with_reducible rfl) ?_
              exact⟨upd u 26 (.pointer (some ⟨b,0,none⟩)),rfl,RQ.upd (by decide) (by decide) (by decide) (by decide) (by decide) (by decide) (by decide) hG,rfl,fun j hj hji hlj=>rqF.upd (fun m hm=>upd_ne (fun e=>by subst e;exact hji ((by decide : ∀ j,j < 15→∀ i,i < 15→([26,27,28,29,30,31,32,33,34,35,36,37,38,39,99] : List Nat)[j]? = ([26,27,28,29,30,31,32,33,34,35,36,37,38,39,99] : List Nat)[i]?→j = i) j hj 0 (by decide) (hm.trans rfl)))) (hF j hj hlj)⟩
            · obtain rfl:=Option.some.inj (show some _ = some o from ho)
              refine value_ (v:=.pointer (some ⟨b,0,none⟩)) rfl rfl (by go_simp;with_reducible rfl) ?_
              exact⟨upd u 27 (.pointer (some ⟨b,0,none⟩)),rfl,RQ.upd (by decide) (by decide) (by decide) (by decide) (by decide) (by decide) (by decide) hG,rfl,fun j hj hji hlj=>rqF.upd (fun m hm=>upd_ne (fun e=>by subst e;exact hji ((by decide : ∀ j,j < 15→∀ i,i < 15→([26,27,28,29,30,31,32,33,34,35,36,37,38,39,99] : List Nat)[j]? = ([26,27,28,29,30,31,32,33,34,35,36,37,38,39,99] : List Nat)[i]?→j = i) j hj 1 (by decide) (hm.trans rfl)))) (hF j hj hlj)⟩
            · obtain rfl:=Option.some.inj (show some _ = some o from ho)
              have e27 : u 27 = _:=hF 1 (by decide) (hn 1 (by decide))
              refine value_ (v:=.pointer (some ⟨b,0,none⟩)) rfl rfl (by go_simp;with_reducible rfl) ?_
              exact⟨upd u 28 (.pointer (some ⟨b,0,none⟩)),rfl,RQ.upd (by decide) (by decide) (by decide) (by decide) (by decide) (by decide) (by decide) hG,rfl,fun j hj hji hlj=>rqF.upd (fun m hm=>upd_ne (fun e=>by subst e;exact hji ((by decide : ∀ j,j < 15→∀ i,i < 15→([26,27,28,29,30,31,32,33,34,35,36,37,38,39,99] : List Nat)[j]? = ([26,27,28,29,30,31,32,33,34,35,36,37,38,39,99] : List Nat)[i]?→j = i) j hj 2 (by decide) (hm.trans rfl)))) (hF j hj hlj)⟩
            · obtain rfl:=Option.some.inj (show some _ = some o from ho)
              have e28 : u 28 = _:=hF 2 (by decide) (hn 2 (by decide))
              refine value_ (v:=.pointer (some ⟨b,0,none⟩)) rfl rfl (by go_simp;with_reducible rfl) ?_
              exact⟨upd u 29 (.pointer (some ⟨b,0,none⟩)),rfl,RQ.upd (by decide) (by decide) (by decide) (by decide) (by decide) (by decide) (by decide) hG,rfl,fun j hj hji hlj=>rqF.upd (fun m hm=>upd_ne (fun e=>by subst e;exact hji ((by decide : ∀ j,j < 15→∀ i,i < 15→([26,27,28,29,30,31,32,33,34,35,36,37,38,39,99] : List Nat)[j]? = ([26,27,28,29,30,31,32,33,34,35,36,37,38,39,99] : List Nat)[i]?→j = i) j hj 3 (by decide) (hm.trans rfl)))) (hF j hj hlj)⟩
            · obtain rfl:=Option.some.inj (show some _ = some o from ho)
              have e29 : u 29 = _:=hF 3 (by decide) (hn 3 (by decide))
              refine value_ (v:=.pointer (some ⟨b,5,none⟩)) rfl rfl (by go_simp;with_reducible rfl) ?_
              exact⟨upd u 30 (.pointer (some ⟨b,5,none⟩)),rfl,RQ.upd (by decide) (by decide) (by decide) (by decide) (by decide) (by decide) (by decide) hG,rfl,fun j hj hji hlj=>rqF.upd (fun m hm=>upd_ne (fun e=>by subst e;exact hji ((by decide : ∀ j,j < 15→∀ i,i < 15→([26,27,28,29,30,31,32,33,34,35,36,37,38,39,99] : List Nat)[j]? = ([26,27,28,29,30,31,32,33,34,35,36,37,38,39,99] : List Nat)[i]?→j = i) j hj 4 (by decide) (hm.trans rfl)))) (hF j hj hlj)⟩
            · obtain rfl:=Option.some.inj (show some _ = some o from ho)
              have e30 : u 30 = _:=hF 4 (by decide) (hn 4 (by decide))
              have hnb : l 10 = false:=Bool.eq_false_iff.2 (fun h=>nomatch (hx 10 _ rfl h 5 (by decide)).symm.trans hl)
              have y5:=((hG.1 hnb).cell (World.block_lt_of_cell? _ _ x5)).trans x5
              refine value_ (v:=.slice AL s.log.length cL) rfl rfl (by go_simp;with_reducible rfl) ?_
              exact⟨upd u 31 (.slice AL s.log.length cL),rfl,RQ.upd (by decide) (by decide) (by decide) (by decide) (by decide) (by decide) (by decide) hG,rfl,fun j hj hji hlj=>rqF.upd (fun m hm=>upd_ne (fun e=>by subst e;exact hji ((by decide : ∀ j,j < 15→∀ i,i < 15→([26,27,28,29,30,31,32,33,34,35,36,37,38,39,99] : List Nat)[j]? = ([26,27,28,29,30,31,32,33,34,35,36,37,38,39,99] : List Nat)[i]?→j = i) j hj 5 (by decide) (hm.trans rfl)))) (hF j hj hlj)⟩
            · obtain rfl:=Option.some.inj (show some _ = some o from ho)
              refine value_ (v:=.pointer (some ⟨w.heap.size,10,none⟩)) rfl rfl (by go_simp;with_reducible rfl) ?_
              exact⟨upd u 32 (.pointer (some ⟨w.heap.size,10,none⟩)),rfl,RQ.upd (by decide) (by decide) (by decide) (by decide) (by decide) (by decide) (by decide) hG,rfl,fun j hj hji hlj=>rqF.upd (fun m hm=>upd_ne (fun e=>by subst e;exact hji ((by decide : ∀ j,j < 15→∀ i,i < 15→([26,27,28,29,30,31,32,33,34,35,36,37,38,39,99] : List Nat)[j]? = ([26,27,28,29,30,31,32,33,34,35,36,37,38,39,99] : List Nat)[i]?→j = i) j hj 6 (by decide) (hm.trans rfl)))) (hF j hj hlj)⟩
            · obtain rfl:=Option.some.inj (show some _ = some o from ho)
              have e32 : u 32 = _:=hF 6 (by decide) (hn 6 (by decide))
              have hnb : l 10 = false:=Bool.eq_false_iff.2 (fun h=>nomatch (hx 8 _ rfl (hx 9 _ rfl (hx 10 _ rfl h 9 (by decide)) 8 (by decide)) 7 (by decide)).symm.trans hl)
              have yd:=((hG.1 hnb).cell (World.block_lt_of_cell? _ _ xd)).trans xd
              refine value_ (v:=.slice A data.length c) rfl rfl (by go_simp;with_reducible rfl) ?_
              exact⟨upd u 33 (.slice A data.length c),rfl,RQ.upd (by decide) (by decide) (by decide) (by decide) (by decide) (by decide) (by decide) hG,rfl,fun j hj hji hlj=>rqF.upd (fun m hm=>upd_ne (fun e=>by subst e;exact hji ((by decide : ∀ j,j < 15→∀ i,i < 15→([26,27,28,29,30,31,32,33,34,35,36,37,38,39,99] : List Nat)[j]? = ([26,27,28,29,30,31,32,33,34,35,36,37,38,39,99] : List Nat)[i]?→j = i) j hj 7 (by decide) (hm.trans rfl)))) (hF j hj hlj)⟩
            · obtain rfl:=Option.some.inj (show some _ = some o from ho)
              have e33 : u 33 = _:=hF 7 (by decide) (hn 7 (by decide))
              have h9 : l 9 = false:=Bool.eq_false_iff.2 (fun h=>nomatch (hx 9 _ rfl h 8 (by decide)).symm.trans hl)
              have h10 : l 10 = false:=Bool.eq_false_iff.2 (fun h=>nomatch (hx 10 _ rfl h 9 (by decide)).symm.trans h9)
              have h14 : l 14 = false:=Bool.eq_false_iff.2 (fun h=>nomatch (hx 14 _ rfl h 10 (by decide)).symm.trans h10)
              have hBx:=hG.1 h10
              refine goes_ Try.func54 (by kernel_rfl) rfl #[.slice A data.length c] rfl rfl rfl (by simp only [List.map_toArray,List.map_cons,List.map_nil,Act.eval];rw [← e33];rfl) ?_
              refine(bytes_Clone.calls A c data wx (Kd.C_below HDW.out hBx) (by have:=HLL.out;omega)).mono ?_
              rintro e w2 ⟨v2,rfl,hR2,hb2⟩
              obtain ⟨A2,c2,rfl⟩:=Kd.R_slice hR2
              exact⟨_,rfl,upd u 34 (.slice A2 data.length c2),rfl,RQ.call (by decide) (by decide) (by decide) h9 h10 h14 (hBx.trans (hb2.mono hBx.size)) ⟨A2,c2,rfl,Kd.R_lower (Kd.R_mono (Kd.R_bound hR2) (fun k hk=>Nat.le_trans hBx.size hk.2.1)) (Nat.zero_le _)⟩,trivial,fun j hj hji hlj=>rqF.upd (fun m hm=>upd_ne (fun e=>by subst e;exact hji ((by decide : ∀ j,j < 15→∀ i,i < 15→([26,27,28,29,30,31,32,33,34,35,36,37,38,39,99] : List Nat)[j]? = ([26,27,28,29,30,31,32,33,34,35,36,37,38,39,99] : List Nat)[i]?→j = i) j hj 8 (by decide) (hm.trans rfl)))) (hF j hj hlj)⟩
            · obtain rfl:=Option.some.inj (show some _ = some o from ho)
              have h8 : l 8 = true:=hn 8 (by decide)
              have h10 : l 10 = false:=Bool.eq_false_iff.2 (fun h=>nomatch (hx 10 _ rfl h 9 (by decide)).symm.trans hl)
              have h14 : l 14 = false:=Bool.eq_false_iff.2 (fun h=>nomatch (hx 14 _ rfl h 10 (by decide)).symm.trans h10)
              have hBx:=hG.1 h10
              have hE:=hG.2.1 h8 hl
              obtain ⟨A2,c2,e34,hR2⟩:=hE
              have hlit:=RQ.lit (W:=W) (E:=(fun v w=>∃ (A2 : Option Addr) (c2 : Nat),v = .slice A2 data.length c2∧(Kd.int .u8).R 5 w 0 (fun k=>W.heap.size ≤ k) v data)) (Mid:=(fun v w=>∃ (A2 : Option Addr) (c2 : Nat),v = .slice A2 (s.log ++ [data]).length c2∧(Kd.slice 5 (Kd.int .u8)).R 22 w 0 P v (s.log ++ [data])∧(Kd.int .i64).R 3 w 0 P (.slice AM s.mat.length cM) s.mat∧Kd.bool.R 4 w 0 P (.slice AK s.marks.length cK) s.marks∧k69.R 69 w 0 P (.slice AB s.bals.length cB) s.bals∧kMs.R 37 w 0 P (.slice AO out.length cO) out∧Kd.F (Kd.int .i64) w (fun k=>k = gd) AD s.draws.length s.draws∧w.heap[b]? = some (.cells #[.int .i64 s.id,.int .i64 s.n,.int .i64 s.view,.int .i64 s.last,.int .i64 s.status,.slice AL s.log.length cL,.int .i64 s.commit,.slice AM s.mat.length cM,.slice AK s.marks.length cK,.bool s.sent,.slice AB s.bals.length cB,.int .i64 s.elapsed,.int .i64 s.timeout,.slice AD s.draws.length cD,.slice AO out.length cO] 61 (0,0))∧Keeps W w (fun k=>k = b∨P k))) (Fin:=(fun w=>Mac w b gd P { s with log:=s.log ++ [data] } out∧Keeps W w (fun k=>k = b∨P k))) (t:=22) (i8:=8) (i9:=9) (i10:=10) (i14:=14) (n34:=34) (n35:=35) (n36:=36) (l:=l) (u:=u) (wx:=wx) (by decide) (by decide) (by decide) h10 h14 hBx ⟨A2,c2,e34,hR2⟩
              rw [e34] at hlit
              refine value_ (v:=.slice (some ⟨wx.heap.size,0,none⟩) 1 1) (w1:=wx.alloc (.cells #[.slice A2 data.length c2] 22)) rfl rfl (by first|(go_simp;done)|(go_simp;with_reducible rfl)|(go_simp;rfl)) ?_
              exact⟨upd u 35 (.slice (some ⟨wx.heap.size,0,none⟩) 1 1),rfl,hlit,trivial,fun j hj hji hlj=>rqF.upd (fun m hm=>upd_ne (fun e=>by subst e;exact hji ((by decide : ∀ j,j < 15→∀ i,i < 15→([26,27,28,29,30,31,32,33,34,35,36,37,38,39,99] : List Nat)[j]? = ([26,27,28,29,30,31,32,33,34,35,36,37,38,39,99] : List Nat)[i]?→j = i) j hj 9 (by decide) (hm.trans rfl)))) (hF j hj hlj)⟩
            · obtain rfl:=Option.some.inj (show some _ = some o from ho)
              have h9 : l 9 = true:=hn 9 (by decide)
              have h14 : l 14 = false:=Bool.eq_false_iff.2 (fun h=>nomatch (hx 14 _ rfl h 10 (by decide)).symm.trans hl)
              have e31 : u 31 = _:=hF 5 (by decide) (hn 5 (by decide))
              obtain ⟨W',rfl,hBW,⟨A2,c2,e34,hR2⟩,e35⟩:=hG.2.2.1 h9 hl
              rw [e34] at hR2
              obtain ⟨r1,r2,r3,r4,r5,r6,r7⟩:=HR.out
              have hzz:=hB1.size
              have hB2 : Below w.heap.size w W':=hB1.trans (hBW.mono hzz)
              have hKb:=blk_below hK1 hBW
              have q1:=Kd.R_below r1 hB2
              rw [show W'.alloc (.cells #[u 34] 22) = W'.alloc (.cells ([.slice A2 data.length c2] : List Value).toArray 22) from by rw [e34]]
              refine Kd.R_append_step (Kd.slice 5 (Kd.int .u8)) (w0:=W') 0 rfl (.tmp 31) (.tmp 35) 25 22 (.slice none 0 0) 24 rfl Try.underlying25 info22 rfl (by decide) (by omega) (.slice AL s.log.length cL) s.log data [.slice A2 data.length c2] P (fun k=>W.heap.size ≤ k) e31 e35 ⟨_,rfl,hR2⟩ (fun k hk=>⟨HQ.out.1 k (by omega),fun e=>by have h1:=Kd.R_lt r1 k e.symm;omega⟩) (fun k hk=>HQ.out.1 k (by have:=hBW.size;omega)) q1 (Below.refl _ _) (Nat.zero_le _) (by have:=HLL.out;omega) ?_
              intro v1 w3 ho hb3 hg3 hat
              obtain ⟨A3,c3,rfl⟩:=Kd.R_slice ho
              have hown : ∀ k,(Value.slice AL s.log.length cL).ownBlock = some k→P k:=r1.1
              have hgd : some gd ≠ (Value.slice AL s.log.length cL).ownBlock:=fun e=>HQ.out.2.1.1 (hown gd e.symm)
              have hty:=Kd.R_typed q1
              have hnb':=Kd.R_ne q1 hKb (by decide)
              exact⟨upd u 36 (.slice A3 (s.log ++ [data]).length c3),rfl,RQ.app (by decide) h14 h9 (by decide) ⟨A3,c3,rfl,ho,Kd.R_over' (Kd.R_below r2 hB2) hty (by decide) hg3,Kd.R_over' (Kd.R_below r3 hB2) hty (by decide) hg3,R_over0 HE.out.1 (Kd.R_below r4 hB2) (fun k hk e=>by obtain ⟨c,hc⟩:=Kd.R_typed (Kd.R_below r4 hB2) k hk;obtain ⟨c',hc'⟩:=hty k e.symm;rw [hc] at hc';exact absurd hc' (by simp)) hg3,R_over0 HE.out.2 (Kd.R_below r5 hB2) (fun k hk e=>by obtain ⟨c,hc⟩:=Kd.R_typed (Kd.R_below r5 hB2) k hk;obtain ⟨c',hc'⟩:=hty k e.symm;rw [hc] at hc';exact absurd hc' (by simp)) hg3,Kd.F_step r7 (fun k hk hl=>by subst hk;exact(hg3.block k (Nat.lt_of_lt_of_le hl hB2.size) hgd).trans (hB2.block k hl)),blk_grown hKb hg3 hnb',(Keeps.of_belows hBW _).grown hg3 (fun k hk=>.inl (.inr (hown k hk)))⟩,trivial,fun j hj hji hlj=>rqF.upd (fun m hm=>upd_ne (fun e=>by subst e;exact hji ((by decide : ∀ j,j < 15→∀ i,i < 15→([26,27,28,29,30,31,32,33,34,35,36,37,38,39,99] : List Nat)[j]? = ([26,27,28,29,30,31,32,33,34,35,36,37,38,39,99] : List Nat)[i]?→j = i) j hj 10 (by decide) (hm.trans rfl)))) (hF j hj hlj)⟩
            · obtain rfl:=Option.some.inj (show some _ = some o from ho)
              have e26 : u 26 = _:=hF 0 (by decide) (hn 0 (by decide))
              refine value_ (v:=.pointer (some ⟨b,0,none⟩)) rfl rfl (by go_simp;with_reducible rfl) ?_
              exact⟨upd u 37 (.pointer (some ⟨b,0,none⟩)),rfl,RQ.upd (by decide) (by decide) (by decide) (by decide) (by decide) (by decide) (by decide) hG,rfl,fun j hj hji hlj=>rqF.upd (fun m hm=>upd_ne (fun e=>by subst e;exact hji ((by decide : ∀ j,j < 15→∀ i,i < 15→([26,27,28,29,30,31,32,33,34,35,36,37,38,39,99] : List Nat)[j]? = ([26,27,28,29,30,31,32,33,34,35,36,37,38,39,99] : List Nat)[i]?→j = i) j hj 11 (by decide) (hm.trans rfl)))) (hF j hj hlj)⟩
            · obtain rfl:=Option.some.inj (show some _ = some o from ho)
              have e37 : u 37 = _:=hF 11 (by decide) (hn 11 (by decide))
              refine value_ (v:=.pointer (some ⟨b,0,none⟩)) rfl rfl (by go_simp;with_reducible rfl) ?_
              exact⟨upd u 38 (.pointer (some ⟨b,0,none⟩)),rfl,RQ.upd (by decide) (by decide) (by decide) (by decide) (by decide) (by decide) (by decide) hG,rfl,fun j hj hji hlj=>rqF.upd (fun m hm=>upd_ne (fun e=>by subst e;exact hji ((by decide : ∀ j,j < 15→∀ i,i < 15→([26,27,28,29,30,31,32,33,34,35,36,37,38,39,99] : List Nat)[j]? = ([26,27,28,29,30,31,32,33,34,35,36,37,38,39,99] : List Nat)[i]?→j = i) j hj 12 (by decide) (hm.trans rfl)))) (hF j hj hlj)⟩
            · obtain rfl:=Option.some.inj (show some _ = some o from ho)
              have e38 : u 38 = _:=hF 12 (by decide) (hn 12 (by decide))
              refine value_ (v:=.pointer (some ⟨b,5,none⟩)) rfl rfl (by go_simp;with_reducible rfl) ?_
              exact⟨upd u 39 (.pointer (some ⟨b,5,none⟩)),rfl,RQ.upd (by decide) (by decide) (by decide) (by decide) (by decide) (by decide) (by decide) hG,rfl,fun j hj hji hlj=>rqF.upd (fun m hm=>upd_ne (fun e=>by subst e;exact hji ((by decide : ∀ j,j < 15→∀ i,i < 15→([26,27,28,29,30,31,32,33,34,35,36,37,38,39,99] : List Nat)[j]? = ([26,27,28,29,30,31,32,33,34,35,36,37,38,39,99] : List Nat)[i]?→j = i) j hj 13 (by decide) (hm.trans rfl)))) (hF j hj hlj)⟩
            · obtain rfl:=Option.some.inj (show some _ = some o from ho)
              have h10 : l 10 = true:=hn 10 (by decide)
              have h9 : l 9 = true:=hx 10 _ rfl h10 9 (by decide)
              have e39 : u 39 = _:=hF 13 (by decide) (hn 13 (by decide))
              obtain ⟨A3,c3,e36,m1,m2,m3,m4,m5,m6,m7,m8⟩:=hG.2.2.2.1 h10 hl
              rw [e36] at m1
              have z0 : wx.cell? ⟨b,5,none⟩ = some (.slice AL s.log.length cL):=(blk_cell m7 5).trans rfl
              have z1:=blk_frozen m7 5
              refine skip_ (w1:=wx.setCell ⟨b,5,none⟩ (.slice A3 (s.log ++ [data]).length c3)) rfl rfl (by first|(go_simp;done)|(go_simp;with_reducible rfl)) ?_
              refine⟨u,rfl,RQ.store (by decide) (by decide) h10 h9 ⟨⟨Nat.lt_of_lt_of_le (Nat.lt_of_lt_of_le HQ.out.2.2.1 (Nat.le_trans hB1.size m8.size)) (by simp),A3,c3,AM,cM,AK,cK,AB,cB,AD,cD,AO,cO,blk_put m7 5 (.slice A3 (s.log ++ [data]).length c3) rfl,Kd.R_set m1 m7 (by decide) 5 _,Kd.R_set m2 m7 (by decide) 5 _,Kd.R_set m3 m7 (by decide) 5 _,Kd.R_set m4 m7 (by decide) 5 _,Kd.R_set m5 m7 (by decide) 5 _,HR.out.2.2.2.2.2.1,Kd.F_step m6 (fun k hk _=>Below.heap_setCell wx _ _ k (by subst hk;exact HQ.out.2.1.2))⟩,m8.setCell (p:=⟨b,5,none⟩) (.inl (.inl rfl)) _⟩,trivial,fun j hj hji hlj=>hF j hj hlj⟩
            · exact absurd ho (by simp)
          case done =>
            intro l u wx hall hG hF
            have hfin:=hG.2.2.2.2 (hall 14 (by decide))
            dsimp only
            go_wp2_with fail
            go_meet
            case rel=>exact Aside0.mk ⟨hfin.1,HKP.out.trans hfin.2⟩
        case rest=>as_aux_lemma =>
          obtain ⟨hM2,hKp⟩:=hcut.out
          clear hcut x5 xd
          obtain ⟨L2,hL2⟩ : ∃ L2,L2 = s.log ++ [data]:=⟨_,rfl⟩
          rw [← hL2] at hM2
          obtain ⟨hgl2,AL,cL,AM,cM,AK,cK,AB,cB,AD,cD,AO,cO,hb,h1,h2,h3,h4,h5,h6,h7⟩:=hM2
          dsimp only at hb h1 h2 h3 h4 h5 h6 h7
          have hk:=HQ.out.2.2.2.2
          have hml : (s.mat.length : Int) = s.n:=hk.mat HLL.out.2.2
          obtain ⟨g,cap,hv,_,hgl,hcells⟩:=Kd.R_form h2 (by have:=hk.n;omega)
          have hv1 : AM = some ⟨g,0,none⟩:=by injection hv
          subst hv1
          have y0 : wc.cell? ⟨b,0,none⟩ = some (.int .i64 s.id):=(blk_cell hb 0).trans rfl
          have y5 : wc.cell? ⟨b,5,none⟩ = some (.slice AL L2.length cL):=(blk_cell hb 5).trans rfl
          have y7 : wc.cell? ⟨b,7,none⟩ = some (.slice (some ⟨g,0,none⟩) s.mat.length cM):=(blk_cell hb 7).trans rfl
          have i0 : (0 ≤ s.id) = True:=eq_true hk.id.1
          have i1 : (s.id < (s.mat.length : Int)) = True:=eq_true (by have:=hk.id.2;omega)
          have xg : wc.cell? ⟨g,s.id.toNat,none⟩ = some (.int .i64 (s.mat.getD s.id.toNat 0)):=by
            obtain ⟨c,hc,hM,hcell,_⟩:=Kd.R_elem h2 (0 : Int) s.id hk.id.1 (by have:=hk.id.2;omega)
            have h0 : c = [.int .i64 (s.mat.getD s.id.toNat 0)]:=hM
            have:=hcell 0 _ (by rw [h0];rfl)
            simpa [Kd.int,Kd.scalar,List.getD_eq_getElem?_getD] using this
          have fg:=(by obtain ⟨_,_,_,_,hf⟩:=Kd.R_elem h2 (0 : Int) s.id hk.id.1 (by have:=hk.id.2;omega);simpa [Kd.int,Kd.scalar] using hf 0 : wc.frozen? ⟨g,s.id.toNat,none⟩ = false)
          have hgb : g ≠ b:=fun e=>by obtain ⟨cells,hc⟩:=hcells;rw [e,hb] at hc;cases hc
          have hPg : P g:=h2.1 g rfl
          have Z:=Aside0.mk (And.intro hb (And.intro h1 (And.intro h2 (And.intro h3 (And.intro h4 (And.intro h5 (And.intro h6 (And.intro h7 (And.intro hKp (And.intro hgl2 (And.intro hgb (And.intro hPg (And.intro hcells hL2)))))))))))))
          clear hb h1 h2 h3 h4 h5 h6 h7 hKp hgl2 hgb hPg hcells hk hml hgl hv hL2
          go_upto_region 5 with fail
          go_still_tail 16,(by kernel_rfl)
          change wpList _ _ _ _ _ wc.drew
          go_wp2_with (go_at_call 55;refine Aside0.out ?_)
          refine Aside0.mk ?_
          obtain ⟨hb,h1,h2,h3,h4,h5,h6,h7,hKp,hgl2,hgb,hPg,hcells,hL2⟩:=Z.out
          have hk:=HQ.out.2.2.2.2
          obtain ⟨gc,hgc⟩:=hcells
          have k2 : (wc.setCell ⟨g,s.id.toNat,none⟩ (.int .i64 L2.length)).heap[b]? = _:=blk_far hb (p:=⟨g,s.id.toNat,none⟩) (fun e=>hgb e.symm) _
          have m2:=Kd.R_putn h2 s.id (L2.length : Int)
          have m1:=Kd.R_set h1 hgc (by decide) s.id.toNat (.int .i64 L2.length)
          have m3:=Kd.R_set h3 hgc (by decide) s.id.toNat (.int .i64 L2.length)
          have m4:=Kd.R_set h4 hgc (by decide) s.id.toNat (.int .i64 L2.length)
          have m5:=Kd.R_set h5 hgc (by decide) s.id.toNat (.int .i64 L2.length)
          have m7:=Kd.F_step h7 (W1:=wc.setCell ⟨g,s.id.toNat,none⟩ (.int .i64 L2.length)) (fun k hk2 _=>Below.heap_setCell wc ⟨g,s.id.toNat,none⟩ _ k (fun e=>by have e2 : k = g:=e;exact HQ.out.2.1.1 (by rw [← hk2,e2];exact hPg)))
          have mk:=hKp.setCell (p:=⟨g,s.id.toNat,none⟩) (.inl (.inr hPg)) (.int .i64 L2.length)
          refine(agree.calls b 61 #[.int .i64 s.id,.int .i64 s.n,.int .i64 s.view,.int .i64 s.last,.int .i64 s.status,.slice AL L2.length cL,.int .i64 s.commit,.slice (some ⟨g,0,none⟩) s.mat.length cM,.slice AK s.marks.length cK,.bool s.sent,.slice AB s.bals.length cB,.int .i64 s.elapsed,.int .i64 s.timeout,.slice AD s.draws.length cD,.slice AO out.length cO] s.n s.commit AL cL L2 (some ⟨g,0,none⟩) cM (s.mat.set s.id.toNat (L2.length : Int)) _ ?kb rfl rfl rfl (by rw [List.length_set];rfl) hk.n (by have:=hk.commit;rw [hL2,List.length_append,List.length_singleton];omega) (by have:=HLL.out.1;rw [hL2,List.length_append,List.length_singleton];omega) ?kM).mono ?_
          case kb=>exact k2
          case kM=>exact fun W hW=>by have:=Kd.R_reads' (Kd.R_keeps (Kd.R_drew (Kd.R_types m2 k2 (by decide))) hW (fun k hk3=>hk3.2));rw [List.length_set] at *;exact this.2.2
          rintro e w9 ⟨rfl,hb9,hk9⟩
          go_wp2
          go_end0
          have hll : L2.length = s.log.length + 1:=by rw [hL2,List.length_append,List.length_singleton]
          have hS : reqS s data = { s with log:=L2,mat:=(s.mat.set s.id.toNat (L2.length : Int)),commit:=agreeV s.n (s.mat.set s.id.toNat (L2.length : Int)) L2.length s.commit }:=by unfold reqS;rw [hll,← hL2];simp
          have mv : ∀ k,k ≠ b→k < (wc.setCell ⟨g,s.id.toNat,none⟩ (.int .i64 L2.length)).heap.size→w9.heap[k]? = (wc.setCell ⟨g,s.id.toNat,none⟩ (.int .i64 L2.length)).heap[k]?:=fun k hk3 hl3=>hk9.block k hl3 hk3
          refine⟨(mk.drew).trans (hk9.mono (fun k hk3=>.inl hk3)),rfl,?_⟩
          rw [hS]
          have n2:=Kd.R_mono (Kd.R_step (Kd.R_types m2 k2 (by decide)) (fun k hk3 hl3=>mv k hk3.2 hl3)) (fun _ hk3=>hk3.1)
          rw [show(Value.slice (some ⟨g,0,none⟩) s.mat.length cM) = .slice (some ⟨g,0,none⟩) (s.mat.set s.id.toNat (L2.length : Int)).length cM from by rw [List.length_set]] at n2
          refine⟨Nat.lt_of_lt_of_le (by simpa using hgl2) hk9.size,AL,cL,some ⟨g,0,none⟩,cM,AK,cK,AB,cB,AD,cD,AO,cO,?_,Kd.R_mono (Kd.R_step (Kd.R_types m1 k2 (by decide)) (fun k hk3 hl3=>mv k hk3.2 hl3)) (fun _ hk3=>hk3.1),n2,Kd.R_mono (Kd.R_step (Kd.R_types m3 k2 (by decide)) (fun k hk3 hl3=>mv k hk3.2 hl3)) (fun _ hk3=>hk3.1),Kd.R_mono (Kd.R_step (Kd.R_types m4 k2 (by decide)) (fun k hk3 hl3=>mv k hk3.2 hl3)) (fun _ hk3=>hk3.1),Kd.R_mono (Kd.R_step (Kd.R_types m5 k2 (by decide)) (fun k hk3 hl3=>mv k hk3.2 hl3)) (fun _ hk3=>hk3.1),h6,Kd.F_step m7 (fun k hk3 hl3=>mv k (by rw [hk3];exact HQ.out.2.1.2) hl3)⟩
          show w9.heap[b]? = some (.cells #[.int .i64 s.id,.int .i64 s.n,.int .i64 s.view,.int .i64 s.last,.int .i64 s.status,.slice AL L2.length cL,.int .i64 (agreeV s.n (s.mat.set s.id.toNat (L2.length : Int)) L2.length s.commit),.slice (some ⟨g,0,none⟩) (s.mat.set s.id.toNat (L2.length : Int)).length cM,.slice AK s.marks.length cK,.bool s.sent,.slice AB s.bals.length cB,.int .i64 s.elapsed,.int .i64 s.timeout,.slice AD s.draws.length cD,.slice AO out.length cO] 61 (0,0))
          rw [List.length_set]
          exact hb9
end Go.Proofs.Ytojjnifbnppliaa.T
end
section
namespace Go.Proofs.Ytojjnifbnppliaa.T
open Go.RowKit Go.Proofs.YtojjnifbnppliaaW.PrintWords Go.Proofs.YtojjnifbnppliaaW.PrintLast Go.Proofs.YtojjnifbnppliaaW.PrintMore
attribute [local go_sem] max2_int min2_int max_two min_two max_three min_three max_four min_four
set_option linter.unusedVariables false
set_option linter.unusedSimpArgs false
def updO (u : Nat→Value) (d : Option Nat) (v : Value) : Nat→Value:=match d with
  | some n=>upd u n v
  | none=>u
def dstOf (ops : Array Oper) (i : Nat) : Option Nat:=(ops[i]?).bind (·.dst)
def dstsB (ops : Array Oper) : Bool:=(List.range ops.size).all fun i=>(List.range ops.size).all fun j=>i == j || (match dstOf ops i,dstOf ops j with
  | some n,some m=>n != m
  | _,_=>true)
theorem dsts_ne {ops : Array Oper} (h : dstsB ops = true) {i j n : Nat} (hi : i < ops.size) (hj : j < ops.size) (hij : i ≠ j) (h1 : dstOf ops i = some n) : dstOf ops j ≠ some n:=by
  intro h2
  have h3:=List.all_eq_true.1 (List.all_eq_true.1 h i (List.mem_range.2 hi)) j (List.mem_range.2 hj)
  rw [h1,h2] at h3
  simp [hij] at h3
section
variable {P : Program} {ops : Array Oper} {Q : Exit→Act→World→Prop}
/-- V i: what operation i leaves in its slot; G: what holds of the world, by what is done. No operation of the region is guarded. -/
theorem region_tab {id : Nat} {a0 : Act} {w0 : World} (act : (Nat→Value)→Act) (u0 : Nat→Value) (V : Nat→Value→Prop) (G : (Nat→Bool)→(Nat→Value)→World→Prop)
    (hm : P.follows .mixedOrders = true) (he : Go.Proofs.YtojjnifbnppliaaW.Ri.earlierB .any ops = true) (hd : dstsB ops = true) (ha : act u0 = a0) (hG : G (fun _=>false) u0 w0.drew)
    (hput : ∀ (i : Nat) (o : Oper),ops[i]? = some o→∀ u v,(act u).put o.dst v = act (updO u o.dst v))
    (hg : ∀ (i : Nat) (o : Oper),ops[i]? = some o→o.guard = none)
    (step : ∀ (l : Nat→Bool) (u : Nat→Value) (w : World) (i : Nat) (o : Oper),(∀ j oj,ops[j]? = some oj→l j = true→∀ m ∈ needsOf .any oj,l m = true)→G l u w→(∀ j,j < ops.size→l j = true→∀ n,dstOf ops j = some n→V j (u n))→ops[i]? = some o→l i = false→(∀ j ∈ needsOf .any o,l j = true) →
      o.wp P (act u) w (fun a' w'=>∃ v,a' = (act u).put o.dst v∧V i v∧G (fun j=>l j || j == i) (updO u o.dst v) w') Q)
    (done : ∀ (l : Nat→Bool) (u : Nat→Value) (w : World),(∀ j,j < ops.size→l j = true)→G l u w→(∀ j,j < ops.size→∀ n,dstOf ops j = some n→V j (u n))→Q .normal (act u) w) : (Code.region id ops true).wp P Q a0 w0:=by
  refine region_invL act u0 G (fun j u _=>∀ n,dstOf ops j = some n→V j (u n)) hm he ha hG ?_ ?_
  · intro l u w i o hx hG hF ho hl hn
    have hw : Region.wanted o (yielded ops (act u).tmps) = true:=by unfold Region.wanted;rw [hg i o ho]
    rw [if_pos hw]
    refine Oper.wp_mono ?_ (step l u w i o hx hG hF ho hl hn)
    rintro a' w' ⟨v,rfl,hv,hG'⟩
    have hi : i < ops.size:=(Array.getElem?_eq_some_iff.1 ho).1
    have hdi : dstOf ops i = o.dst:=by unfold dstOf;rw [ho];rfl
    refine⟨_,hput i o ho u v,hG',fun n h=>?_,fun j hj hji hlj n h=>?_⟩
    · rw [hdi] at h
      rw [h]
      show V i (upd u n v n)
      rw [upd_at];exact hv
    · have h2:=hF j hj hlj n h
      cases hod : o.dst with
      | none=>exact h2
      | some m =>
        have hne : n ≠ m:=fun e=>dsts_ne hd hj hi hji h (by rw [hdi,hod,e])
        show V j (upd u m v n)
        rw [upd_ne hne];exact h2
  · intro l u w hall hG hF
    exact done l u w hall hG hF
/-- The same, with one call among the operations (k, its slot s): what stands in the other slots may be told by what the call left. -/
theorem region_tab1 {id : Nat} {a0 : Act} {w0 : World} (act : (Nat→Value)→Act) (u0 : Nat→Value) (k s : Nat) (V : Nat→Value→Value→Prop) (G : (Nat→Bool)→(Nat→Value)→World→Prop)
    (hm : P.follows .mixedOrders = true) (he : Go.Proofs.YtojjnifbnppliaaW.Ri.earlierB .any ops = true) (hd : dstsB ops = true) (hks : dstOf ops k = some s) (ha : act u0 = a0) (hG : G (fun _=>false) u0 w0.drew)
    (hput : ∀ (i : Nat) (o : Oper),ops[i]? = some o→∀ u v,(act u).put o.dst v = act (updO u o.dst v))
    (hg : ∀ (i : Nat) (o : Oper),ops[i]? = some o→o.guard = none)
    (hk : ∀ l : Nat→Bool,(∀ j oj,ops[j]? = some oj→l j = true→∀ m ∈ needsOf .any oj,l m = true)→∀ j,j < ops.size→j ≠ k→l j = true→l k = false→∀ a b v,V j a v→V j b v)
    (step : ∀ (l : Nat→Bool) (u : Nat→Value) (w : World) (i : Nat) (o : Oper),(∀ j oj,ops[j]? = some oj→l j = true→∀ m ∈ needsOf .any oj,l m = true)→G l u w→(∀ j,j < ops.size→l j = true→∀ n,dstOf ops j = some n→V j (u s) (u n))→ops[i]? = some o→l i = false→(∀ j ∈ needsOf .any o,l j = true) →
      o.wp P (act u) w (fun a' w'=>∃ v,a' = (act u).put o.dst v∧V i (updO u o.dst v s) v∧G (fun j=>l j || j == i) (updO u o.dst v) w') Q)
    (done : ∀ (l : Nat→Bool) (u : Nat→Value) (w : World),(∀ j,j < ops.size→l j = true)→G l u w→(∀ j,j < ops.size→∀ n,dstOf ops j = some n→V j (u s) (u n))→Q .normal (act u) w) : (Code.region id ops true).wp P Q a0 w0:=by
  refine region_invL act u0 G (fun j u _=>∀ n,dstOf ops j = some n→V j (u s) (u n)) hm he ha hG ?_ ?_
  · intro l u w i o hx hG hF ho hl hn
    have hw : Region.wanted o (yielded ops (act u).tmps) = true:=by unfold Region.wanted;rw [hg i o ho]
    rw [if_pos hw]
    refine Oper.wp_mono ?_ (step l u w i o hx hG hF ho hl hn)
    rintro a' w' ⟨v,rfl,hv,hG'⟩
    have hi : i < ops.size:=(Array.getElem?_eq_some_iff.1 ho).1
    have hkl : k < ops.size:=by
      unfold dstOf at hks
      cases h : ops[k]? with
      | none=>rw [h] at hks;cases hks
      | some ok=>exact(Array.getElem?_eq_some_iff.1 h).1
    have hdi : dstOf ops i = o.dst:=by unfold dstOf;rw [ho];rfl
    refine⟨_,hput i o ho u v,hG',fun n h=>?_,fun j hj hji hlj n h=>?_⟩
    · rw [hdi] at h
      have h2 : updO u o.dst v n = v:=by rw [h];exact upd_at
      rw [h2];exact hv
    · have h2:=hF j hj hlj n h
      cases hod : o.dst with
      | none=>exact h2
      | some m =>
        have hne : n ≠ m:=fun e=>dsts_ne hd hj hi hji h (by rw [hdi,hod,e])
        show V j (upd u m v s) (upd u m v n)
        rw [upd_ne hne]
        by_cases hsm : s = m
        · have hik : i = k:=Decidable.byContradiction (fun hne2=>dsts_ne hd hi hkl hne2 (by rw [hdi,hod]) (by rw [hks,hsm]))
          exact hk l hx j hj (fun e=>hji (e.trans hik.symm)) hlj (by rw [← hik];exact hl) _ _ _ h2
        · rw [upd_ne hsm];exact h2
  · intro l u w hall hG hF
    exact done l u w hall hG hF
end
section
variable {P : Program} {Q : Exit→Act→World→Prop} {K : Act→World→Prop} {o : Oper} {a : Act} {w w1 : World}
theorem wv_ {v : Value} (hrun : (execOp a.eval o).run P w = .ok (.value v) w1) (h : K (a.put o.dst v) w1) : Oper.wp P o a w K Q:=by
  unfold Oper.wp
  rw [hrun]
  exact h
theorem ws_ (hrun : (execOp a.eval o).run P w = .ok .skip w1) (h : K (a.put o.dst undef) w1) : Oper.wp P o a w K Q:=by
  unfold Oper.wp
  rw [hrun]
  exact h
/-- A call of a function of the program. -/
theorem wc_ {f : FuncId} {fn : Func} {az : Array Operand} {ts : Array TypeId} (hf : P.funcs[f]? = some fn) (hname : (fn.name == "runtime.NumGoroutine") = false) (hb : fn.body.isSome = true) (args : Array Value)
    (hop : o.op = .call { callee:=.value (.func f),args:=az,argTypes:=ts }) (hargs : az.map a.eval = args)
    (h : Calls P f args w fun e w'=>∃ v,e = .returned v∧K (a.put o.dst v) w') : Oper.wp P o a w K Q:=by
  have he:=enters_ hf hname hb args w
  have hrun : (execOp a.eval o).run P w = .ok (.enter f args) w:=by
    unfold execOp
    simp [hop,resolve,Deferred.ofValue,invoke,Act.eval,hargs,he]
  unfold Oper.wp
  rw [hrun,Oper.upon_enter]
  refine h.mono fun e w'' hh=>?_
  obtain ⟨v,rfl,hk⟩:=hh
  exact hk
end
end Go.Proofs.Ytojjnifbnppliaa.T
end
section
namespace Go.Proofs.Ytojjnifbnppliaa.T
open Go.RowKit Go.Proofs.YtojjnifbnppliaaW.PrintWords Go.Proofs.YtojjnifbnppliaaW.PrintLast Go.Proofs.YtojjnifbnppliaaW.PrintMore
attribute [local go_sem] max2_int min2_int max_two min_two max_three min_three max_four min_four
set_option linter.unusedVariables false
set_option linter.unusedSimpArgs false
section
variable {P : Program} {ops : Array Oper} {Q : Exit→Act→World→Prop} {md : Region.Mode} {S : Nat→World→Prop}
/-- Whatever order is picked; behind operation j what the operations that j does not wait for ask of the world (S) stands as it stood. -/
def wpAnyC (P : Program) (md : Region.Mode) (ops : Array Oper) (Q : Exit→Act→World→Prop) (S : Nat→World→Prop) : Nat→Array Bool→Act→World→Prop
  | 0,listed,a,w=>Region.ready md ops listed = []∧Q .normal a w
  | fuel + 1,listed,a,w=>(Region.ready md ops listed = []→Q .normal a w)∧∀ j ∈ Region.ready md ops listed,wpOp P ops Q j (fun a' w'=>(∀ i,Region.waitsFor md ops j i = false→S i w→S i w')∧wpAnyC P md ops Q S fuel (listed.setIfInBounds j true) a' w') a w
theorem wpAny_of_C : ∀ (fuel : Nat) (listed : Array Bool) (a : Act) (w : World),wpAnyC P md ops Q S fuel listed a w→wpAny P md ops Q fuel listed a w
  | 0,_,_,_,h=>h
  | fuel + 1,_,_,_,h=>⟨h.1,fun i hi=>wpOp_mono (fun a' w' h'=>wpAny_of_C fuel _ a' w' h'.2) (h.2 i hi)⟩
theorem waits_no {j i : Nat} {oj : Oper} (hj : ops[j]? = some oj) (h : ∀ e ∈ oj.after,Region.binds md e = true→e.on ≠ i) : Region.waitsFor md ops j i = false:=by
  unfold Region.waitsFor
  rw [hj]
  refine Bool.eq_false_iff.2 (fun hc=>?_)
  obtain ⟨e,he,hb⟩:=Array.any_eq_true'.1 hc
  simp only [Bool.and_eq_true,beq_iff_eq] at hb
  exact h e he hb.1 hb.2
theorem wpAnyC_first {i : Nat} {oi : Oper} {v : Value} (hi : ops[i]? = some oi) (hsel : ∀ (j : Nat) (o : Oper) cs b,ops[j]? = some o→o.op ≠ .select cs b) (hQ : ∀ c a w,Q (.panic c) (a.put oi.dst v) w→Q (.panic c) a w) :
    ∀ (fuel : Nat) (listed : Array Bool) (a : Act) (w : World),(∀ j oj,ops[j]? = some oj→j ≠ i→listed.getD j true = false→(∀ e ∈ oj.after,Region.binds md e = true→e.on ≠ i)→oi.apart ops oj = true)→i ∈ Region.ready md ops listed→YieldsIf P ops (S i) oi v a→S i w→wpAnyC P md ops Q S fuel (listed.setIfInBounds i true) (a.put oi.dst v) w→wpAnyC P md ops Q S (fuel + 1) listed a w:=by
  intro fuel
  induction fuel with
  | zero =>
    intro listed a w _ hr hy hS H
    refine⟨fun h=>(by rw [h] at hr;cases hr),fun j hj=>?_⟩
    by_cases hji : j = i
    · subst hji;exact hy.wpOp hi hS ⟨fun _ _ h=>h,H⟩
    · have:=ready_mono hj hji
      rw [H.1] at this
      cases this
  | succ fuel ih =>
    intro listed a w hfree hr hy hS H
    refine⟨fun h=>(by rw [h] at hr;cases hr),fun j hj=>?_⟩
    by_cases hji : j = i
    · subst hji;exact hy.wpOp hi hS ⟨fun _ _ h=>h,H⟩
    · have h1:=H.2 j (ready_mono hj hji)
      obtain ⟨hjun,oj,hoj,hall⟩:=mem_ready.1 hj
      have hnot : ∀ e ∈ oj.after,Region.binds md e = true→e.on ≠ i:=fun e he hb heq=>by
        have h1:=hall e he hb
        have h0:=(mem_ready.1 hr).1
        rw [heq] at h1
        rcases Nat.lt_or_ge i listed.size with h'|h'
        · simp [h'] at h0 h1;rw [h0] at h1;cases h1
        · simp [Array.getElem?_eq_none h'] at h1
      have h2:=wpOp_putIf hoj (hfree j oj hoj hji hjun hnot) (fun cs b=>hsel i oi cs b hi) (fun cs b=>hsel j oj cs b hoj) hQ hy h1
      have hfree' : ∀ k ok,ops[k]? = some ok→k ≠ i→(listed.setIfInBounds j true).getD k true = false→(∀ e ∈ ok.after,Region.binds md e = true→e.on ≠ i)→oi.apart ops ok = true:=fun k ok hk hki hun hno=>by
        refine hfree k ok hk hki ?_ hno
        by_cases hjk : j = k
        · subst hjk;exact hjun
        · rw [getD_set_ne true hjk] at hun;exact hun
      refine wpOp_mono (fun a' w' h3=>⟨h3.2.1,ih (listed.setIfInBounds j true) a' w' hfree' (ready_mono hr (Ne.symm hji)) h3.1 (h3.2.1 i (waits_no hoj hnot) hS) ?_⟩) h2
      rw [Array.setIfInBounds_comm _ _ hji]
      exact h3.2.2
/-- May number i be taken first? -/
def mayTake (md : Region.Mode) (ops : Array Oper) (listed : Array Bool) (i : Nat) : Bool:=Region.noSelect ops && (Region.free md ops listed i && (Region.ready md ops listed).contains i)
def noOp : Oper := { dst := none, op := .move (.tmp 0), type := 0, pos := "", after := #[], guard := none }
def opAt : List Oper→Nat→Oper
  | [],_=>noOp
  | o :: _,0=>o
  | _ :: r,i + 1=>opAt r i
theorem opAt_at : ∀ {l : List Oper} {i : Nat},i < l.length→l[i]? = some (opAt l i)
  | [],_,h=>absurd h (Nat.not_lt_zero _)
  | _ :: _,0,_=>rfl
  | _ :: r,i + 1,h=>by
    rw [List.getElem?_cons_succ]
    exact opAt_at (l:=r) (Nat.lt_of_succ_lt_succ h)
theorem ready_lt {i : Nat} {listed : Array Bool} (h : i ∈ Region.ready md ops listed) : i < ops.size:=by
  obtain ⟨_,o,ho,_⟩:=mem_ready.1 h
  exact(Array.getElem?_eq_some_iff.1 ho).1
theorem opAt_ops {l : List Oper} {i : Nat} (h : i < l.toArray.size) : l.toArray[i]? = some (opAt l i):=by
  rw [List.getElem?_toArray]
  exact opAt_at (by simpa using h)
/-- Take number i first. -/
theorem takeC {l : List Oper} (i : Nat) {v : Value} {fuel : Nat} {listed : Array Bool} {a : Act} {w : World} (hm : mayTake md l.toArray listed i = true) (hQ : ∀ c a w,Q (.panic c) (a.put (opAt l i).dst v) w→Q (.panic c) a w) (hy : YieldsIf P l.toArray (S i) (opAt l i) v a) (hS : S i w) (h : wpAnyC P md l.toArray Q S fuel (listed.setIfInBounds i true) (a.put (opAt l i).dst v) w) : wpAnyC P md l.toArray Q S (fuel + 1) listed a w:=by
  unfold mayTake at hm
  simp only [Bool.and_eq_true] at hm
  have hr : i ∈ Region.ready md l.toArray listed:=by simpa using hm.2.2
  have hi:=opAt_ops (ready_lt hr)
  exact wpAnyC_first hi (Region.noSelect_spec hm.1) hQ fuel listed a w (Region.free_spec hi hm.2.1) hr hy hS h
/-- Number k alone may come up. -/
theorem actC {l : List Oper} (k : Nat) {fuel : Nat} {listed : Array Bool} {a : Act} {w : World} (hr : Region.ready md l.toArray listed = [k]) (hg : (opAt l k).guard = none) (h : ∀ K : Act→World→Prop,(∀ a' w',(∀ i,Region.waitsFor md l.toArray k i = false→S i w→S i w')→wpAnyC P md l.toArray Q S fuel (listed.setIfInBounds k true) a' w'→K a' w')→Oper.wp P (opAt l k) a w K Q) : wpAnyC P md l.toArray Q S (fuel + 1) listed a w:=by
  have hi:=opAt_ops (ready_lt (i:=k) (by rw [hr];exact List.mem_singleton.2 rfl))
  refine⟨fun h0=>(by rw [hr] at h0;cases h0),fun j hj=>?_⟩
  rw [hr] at hj
  have e : j = k:=by simpa using hj
  subst e
  unfold wpOp
  rw [hi]
  have hw : Region.wanted (opAt l j) (yielded l.toArray a.tmps) = true:=by unfold Region.wanted;rw [hg]
  simp only [hw,if_true]
  exact .inl (h _ (fun _ _ h1 h2=>⟨h1,h2⟩))
theorem unif {o : Oper} {a : Act} {X Y : Prop} (hg : o.guard = none) (h : if Region.wanted o (yielded #[] a.tmps) = true then X else Y) : X:=by
  rw [if_pos (by unfold Region.wanted;rw [hg])] at h
  exact h
theorem doneC {listed : Array Bool} {a : Act} {w : World} (hr : Region.ready md ops listed = []) (h : Q .normal a w) : ∀ fuel,wpAnyC P md ops Q S fuel listed a w
  | 0=>⟨hr,h⟩
  | _ + 1=>⟨fun _=>h,by rw [hr];simp⟩
theorem regionC (S : Nat→World→Prop) {id : Nat} {a : Act} {w : World} (hm : P.follows .mixedOrders = true) (h : wpAnyC P .any ops Q S ops.size (Array.replicate ops.size false) a w.drew) : (Code.region id ops true).wp P Q a w:=wp_region_any hm (wpAny_of_C _ _ _ _ h)
end
/-- Cells that hold values. -/
def Cells : List (Addr × Value)→World→Prop
  | [],_=>True
  | e :: r,w=>w.cell? e.1 = some e.2∧Cells r w
theorem Cells.below {w w' : World} (hb : Below w.heap.size w w') : ∀ {l : List (Addr × Value)},Cells l w→Cells l w'
  | [],_=>trivial
  | e :: r,h=>⟨(hb.cell (World.block_lt_of_cell? _ _ h.1)).trans h.1,Cells.below hb h.2⟩
/-- What makes memory alone leaves them. -/
theorem presB {T : Nat→List (Addr × Value)} {md : Region.Mode} {ops : Array Oper} {k : Nat} {w w' : World} (hb : Below w.heap.size w w') : ∀ i,Region.waitsFor md ops k i = false→Cells (T i) w→Cells (T i) w':=fun _ _ h=>Cells.below hb h
/-- The cells that each operation reads. -/
def tbl : List (Nat × List (Addr × Value))→Nat→List (Addr × Value)
  | [],_=>[]
  | p :: r,i=>bif p.1 == i then p.2 else tbl r i
theorem Cells.imp {w w' : World} : ∀ {l : List (Addr × Value)},(∀ e ∈ l,w.cell? e.1 = some e.2→w'.cell? e.1 = some e.2)→Cells l w→Cells l w'
  | [],_,_=>trivial
  | e :: r,h,hc=>⟨h e List.mem_cons_self hc.1,Cells.imp (fun q hq=>h q (List.mem_cons_of_mem _ hq)) hc.2⟩
def Off (row : Option Nat) : List (Addr × Value)→Prop
  | []=>True
  | e :: r=>some e.1.block ≠ row∧Off row r
def OffT (row : Option Nat) : List (Nat × List (Addr × Value))→Prop
  | []=>True
  | p :: r=>Off row p.2∧OffT row r
theorem Off.mem {row : Option Nat} : ∀ {l : List (Addr × Value)},Off row l→∀ e ∈ l,some e.1.block ≠ row
  | [],_,_,h=>nomatch h
  | e :: r,h,q,hq=>(List.mem_cons.1 hq).elim (fun h2=>h2 ▸ h.1) (fun h2=>Off.mem h.2 q h2)
def AllT : List (Nat × List (Addr × Value))→World→Prop
  | [],_=>True
  | p :: r,w=>Cells p.2 w∧AllT r w
theorem AllT.at {w : World} : ∀ {L : List (Nat × List (Addr × Value))},AllT L w→∀ i,Cells (tbl L i) w
  | [],_,_=>trivial
  | p :: r,h,i=>by
    unfold tbl
    cases p.1 == i with
    | true=>exact h.1
    | false=>exact AllT.at h.2 i
theorem AllT.grown {w w' : World} {row : Option Nat} (hg : w.grownBy w' row) : ∀ {L : List (Nat × List (Addr × Value))},OffT row L→AllT L w→AllT L w'
  | [],_,_=>trivial
  | p :: r,hn,h=>⟨Cells.imp (fun e he hc=>by
      have:=hg.block e.1.block (World.block_lt_of_cell? w e.1 hc) (fun h=>hn.1.mem e he h)
      simpa [World.cell?,this] using hc) h.1,AllT.grown hg hn.2 h.2⟩
/-- What grows a row leaves the cells of other blocks. -/
theorem presG {L : List (Nat × List (Addr × Value))} {md : Region.Mode} {ops : Array Oper} {k : Nat} {w0 w w' : World} {row : Option Nat} (hg : w0.grownBy w' row) (hA : AllT L w0) (hn : OffT row L) : ∀ i,Region.waitsFor md ops k i = false→Cells (tbl L i) w→Cells (tbl L i) w':=fun i _ _=>(AllT.grown hg hn hA).at i
theorem presA {L : List (Nat × List (Addr × Value))} {md : Region.Mode} {ops : Array Oper} {k : Nat} {w w' : World} (hA : AllT L w') : ∀ i,Region.waitsFor md ops k i = false→Cells (tbl L i) w→Cells (tbl L i) w':=fun i _ _=>hA.at i
/-- What waits for all that read. -/
def waitsAll (md : Region.Mode) (ops : Array Oper) (k : Nat) (rd : List Nat) : Bool:=rd.all fun i=>Region.waitsFor md ops k i
theorem tbl_none : ∀ {L : List (Nat × List (Addr × Value))} {i : Nat},i ∉ L.map (·.1)→tbl L i = []
  | [],_,_=>rfl
  | p :: r,i,h=>by
    unfold tbl
    have h1 : (p.1 == i) = false:=beq_eq_false_iff_ne.mpr (fun e=>h (by rw [← e];simp))
    rw [h1]
    exact tbl_none (fun h2=>h (by simp only [List.map_cons,List.mem_cons];exact .inr h2))
theorem presW {L : List (Nat × List (Addr × Value))} {md : Region.Mode} {ops : Array Oper} {k : Nat} {w w' : World} (hw : waitsAll md ops k (L.map (·.1)) = true) : ∀ i,Region.waitsFor md ops k i = false→Cells (tbl L i) w→Cells (tbl L i) w':=fun i h _=>by
  by_cases hi : i ∈ L.map (·.1)
  · have:=List.all_eq_true.1 hw i hi
    rw [h] at this
    cases this
  · rw [tbl_none hi];trivial
end Go.Proofs.Ytojjnifbnppliaa.T
end
section
namespace Go.Proofs.Ytojjnifbnppliaa.T
open Go.RowKit Go.Proofs.YtojjnifbnppliaaW.PrintWords Go.Proofs.YtojjnifbnppliaaW.PrintLast Go.Proofs.YtojjnifbnppliaaW.PrintMore
attribute [local go_sem] max2_int min2_int max_two min_two max_three min_three max_four min_four
set_option linter.unusedVariables false
set_option linter.unusedSimpArgs false
/-- By types: the rows inside are not that row. -/
theorem R_apartT {α β : Type} {d : Kd α} {d' : Kd β} {e e' base base' : Nat} {ok ok' : Nat→Prop} {w : World} {v v' : Value} {xs : List α} {ys : List β} (h : d.R e w base ok v xs) (h' : d'.R e' w base' ok' v' ys) (ht : ∀ q,q ∈ e :: d.E→q ≠ e') : d.R e w base (fun k=>ok k∧some k ≠ v'.ownBlock) v xs :=
  Kd.R_mono (Kd.R_bound h) (fun k hk=>⟨hk.1,fun e=>by
    obtain ⟨c',hc'⟩:=Kd.R_typed h' k e.symm
    obtain ⟨_,_,_,q,hq,c,hc⟩:=hk
    rw [hc] at hc'
    injection hc' with hc'
    injection hc' with _ hc'
    exact ht q hq hc'⟩)
theorem info37 : (Try.prog.info? 37).map (fun i=>(i.zero,i.size,i.bytes)) = some (some (.agg #[.int .i64 0,.int .i64 0,.int .i64 0,.int .i64 0,.int .i64 0,.int .i64 0,.slice none 0 0,.int .i64 0,.int .i64 0]),9,88):=by kernel_rfl
theorem kMs_mkM {w : World} {base : Nat} {ok : Nat→Prop} {x : Ms} {v : Value} (h : (Kd.slice 5 (Kd.int .u8)).R 22 w base ok v x.log) : kMs.M w base ok x [.int .i64 x.kind,.int .i64 x.fro,.int .i64 x.dst,.int .i64 x.view,.int .i64 x.last,.int .i64 x.prev,v,.int .i64 x.commit,.int .i64 x.mat] :=
  ⟨[_],[_,_,_,_,_,_,_,_],rfl,rfl,[_],[_,_,_,_,_,_,_],rfl,rfl,[_],[_,_,_,_,_,_],rfl,rfl,[_],[_,_,_,_,_],rfl,rfl,[_],[_,_,_,_],rfl,rfl,[_],[_,_,_],rfl,rfl,[_],[_,_],rfl,⟨v,rfl,h⟩,[_],[_],rfl,rfl,rfl⟩
def tellM (s : St) (x : Ms) : Ms:={ x with fro:=s.id,view:=s.view }
/-- What a tell may write: the machine's block, and the row of messages. -/
def Tells (w : World) (b : Nat) (P : Nat→Prop) (k : Nat) : Prop:=k = b∨(P k∧∃ c a,w.heap[k]? = some (.cells c 37 a))
set_option maxHeartbeats 8000000 in
set_option maxRecDepth 100000 in
theorem tell.calls2 (b gd : Nat) (P : Nat→Prop) (s : St) (out : List Ms) (x : Ms) (AX : Option Addr) (cX : Nat) (w : World) (hM : Mac w b gd P s out) (hP : ∀ k,w.heap.size ≤ k→P k) (hg : ¬ P gd∧gd ≠ b) (hX : (Kd.slice 5 (Kd.int .u8)).R 22 w 0 P (.slice AX x.log.length cX) x.log) (hlen : out.length ≤ 1000) :
    Calls Try.prog 46 #[.pointer (some ⟨b,0,none⟩),.agg #[.int .i64 x.kind,.int .i64 x.fro,.int .i64 x.dst,.int .i64 x.view,.int .i64 x.last,.int .i64 x.prev,.slice AX x.log.length cX,.int .i64 x.commit,.int .i64 x.mat]] w fun e w'=>e = .returned (.tuple #[])∧(Keeps w w' (Tells w b P)∧∀ i,i ≠ 14→w'.cell? ⟨b,i,none⟩ = w.cell? ⟨b,i,none⟩)∧Mac w' b gd P s (out ++ [tellM s x]):=by
  obtain ⟨hgl,AL,cL,AM,cM,AK,cK,AB,cB,AD,cD,AO,cO,hb,h1,h2,h3,h4,h5,h6,h7⟩:=hM
  have hu37:=Try.underlying37
  have hu61:=Try.underlying61
  have hu29:=Try.underlying29
  have hu33:=Try.underlying33
  have hlb : b < w.heap.size:=blk_lt hb
  have hlb' : ¬ (b = w.heap.size):=by omega
  have x0 : w.cell? ⟨b,0,none⟩ = some (.int .i64 s.id):=(blk_cell hb 0).trans rfl
  have x2 : w.cell? ⟨b,2,none⟩ = some (.int .i64 s.view):=(blk_cell hb 2).trans rfl
  have HB:=Aside0.mk hb
  have HR:=Aside0.mk (And.intro h1 (And.intro h2 (And.intro h3 (And.intro h4 (And.intro h5 (And.intro h6 h7))))))
  have HQ:=Aside0.mk (And.intro hP (And.intro hg (And.intro hgl (And.intro hX hlen))))
  clear hb h1 h2 h3 h4 h5 h6 h7 hP hg hgl hX hlen
  go_enter Try.func46,Try.ntmps46
  go_wp2_with fail
  go_region_held3 (fun W'=>W'.cell? ⟨b,0,none⟩ = some (.int .i64 s.id)∧W'.cell? ⟨b,2,none⟩ = some (.int .i64 s.view)) (go_keep) (fail)
  rename_i hHeld
  go_wp2_with fail
  -- REG2
  refine regionC (fun i=>Cells (tbl [(4,[(⟨b,14,none⟩,.slice AO out.length cO)]),(5,[(⟨w.heap.size,0,none⟩,.int .i64 x.kind),(⟨w.heap.size,1,none⟩,.int .i64 s.id),(⟨w.heap.size,2,none⟩,.int .i64 x.dst),(⟨w.heap.size,3,none⟩,.int .i64 s.view),(⟨w.heap.size,4,none⟩,.int .i64 x.last),(⟨w.heap.size,5,none⟩,.int .i64 x.prev),(⟨w.heap.size,6,none⟩,.slice AX x.log.length cX),(⟨w.heap.size,7,none⟩,.int .i64 x.commit),(⟨w.heap.size,8,none⟩,.int .i64 x.mat)])] i)) (by kernel_rfl) ?_
  have kb : ((w.alloc (.cells #[.int .i64 x.kind,.int .i64 s.id,.int .i64 x.dst,.int .i64 s.view,.int .i64 x.last,.int .i64 x.prev,.slice AX x.log.length cX,.int .i64 x.commit,.int .i64 x.mat] 37)).drew.drew).heap[b]? = some (.cells #[.int .i64 s.id,.int .i64 s.n,.int .i64 s.view,.int .i64 s.last,.int .i64 s.status,.slice AL s.log.length cL,.int .i64 s.commit,.slice AM s.mat.length cM,.slice AK s.marks.length cK,.bool s.sent,.slice AB s.bals.length cB,.int .i64 s.elapsed,.int .i64 s.timeout,.slice AD s.draws.length cD,.slice AO out.length cO] 61 (0,0)):=blk_alloc HB.out _
  have kx : ((w.alloc (.cells #[.int .i64 x.kind,.int .i64 s.id,.int .i64 x.dst,.int .i64 s.view,.int .i64 x.last,.int .i64 x.prev,.slice AX x.log.length cX,.int .i64 x.commit,.int .i64 x.mat] 37)).drew.drew).heap[w.heap.size]? = some (.cells #[.int .i64 x.kind,.int .i64 s.id,.int .i64 x.dst,.int .i64 s.view,.int .i64 x.last,.int .i64 x.prev,.slice AX x.log.length cX,.int .i64 x.commit,.int .i64 x.mat] 37 (0,0)):=heap_alloc_new w _
  have hbl : Below w.heap.size w ((w.alloc (.cells #[.int .i64 x.kind,.int .i64 s.id,.int .i64 x.dst,.int .i64 s.view,.int .i64 x.last,.int .i64 x.prev,.slice AX x.log.length cX,.int .i64 x.commit,.int .i64 x.mat] 37)).drew.drew):=below_drew (below_drew (below_alloc (Below.refl _ _) _))
  have hsz : ((w.alloc (.cells #[.int .i64 x.kind,.int .i64 s.id,.int .i64 x.dst,.int .i64 s.view,.int .i64 x.last,.int .i64 x.prev,.slice AX x.log.length cX,.int .i64 x.commit,.int .i64 x.mat] 37)).drew.drew).heap.size = w.heap.size + 1:=by simp
  clear hHeld x0 x2
  generalize (w.alloc (.cells #[.int .i64 x.kind,.int .i64 s.id,.int .i64 x.dst,.int .i64 s.view,.int .i64 x.last,.int .i64 x.prev,.slice AX x.log.length cX,.int .i64 x.commit,.int .i64 x.mat] 37)).drew.drew = W at *
  have z0 : W.cell? ⟨w.heap.size,0,none⟩ = some (.int .i64 x.kind):=(blk_cell kx 0).trans rfl
  have z1 : W.cell? ⟨w.heap.size,1,none⟩ = some (.int .i64 s.id):=(blk_cell kx 1).trans rfl
  have z2 : W.cell? ⟨w.heap.size,2,none⟩ = some (.int .i64 x.dst):=(blk_cell kx 2).trans rfl
  have z3 : W.cell? ⟨w.heap.size,3,none⟩ = some (.int .i64 s.view):=(blk_cell kx 3).trans rfl
  have z4 : W.cell? ⟨w.heap.size,4,none⟩ = some (.int .i64 x.last):=(blk_cell kx 4).trans rfl
  have z5 : W.cell? ⟨w.heap.size,5,none⟩ = some (.int .i64 x.prev):=(blk_cell kx 5).trans rfl
  have z6 : W.cell? ⟨w.heap.size,6,none⟩ = some (.slice AX x.log.length cX):=(blk_cell kx 6).trans rfl
  have z7 : W.cell? ⟨w.heap.size,7,none⟩ = some (.int .i64 x.commit):=(blk_cell kx 7).trans rfl
  have z8 : W.cell? ⟨w.heap.size,8,none⟩ = some (.int .i64 x.mat):=(blk_cell kx 8).trans rfl
  have y14 : W.cell? ⟨b,14,none⟩ = some (.slice AO out.length cO):=(blk_cell kb 14).trans rfl
  obtain ⟨h1,h2,h3,h4,h5,h6,h7⟩:=HR.out
  have q1:=Kd.R_below h1 hbl
  have q2:=Kd.R_below h2 hbl
  have q3:=Kd.R_below h3 hbl
  have q4:=Kd.R_below h4 hbl
  have q5:=Kd.R_below h5 hbl
  have q7:=Kd.F_below h7 hbl
  have qx:=R_apartT (Kd.R_below HQ.out.2.2.2.1 hbl) q5 (by decide)
  have HX:=Aside0.mk (kMs_mkM (x:=tellM s x) qx)
  have H5:=Aside0.mk q5
  have HW:=Aside0.mk (And.intro kb (And.intro q1 (And.intro q2 (And.intro q3 (And.intro q4 (And.intro q7 (And.intro hbl hsz)))))))
  have HFR:=Aside0.mk (show ∀ k,W.heap.size ≤ k→P k from fun k hk=>HQ.out.1 k (by have:=hbl.size;omega))
  have hlW : b < W.heap.size:=blk_lt kb
  have hlW' : ¬ (b = W.heap.size):=by omega
  have KX:=Aside0.mk (And.intro kx (show some w.heap.size ≠ (Value.slice AO out.length cO).ownBlock from fun e=>by have:=Kd.R_lt h5 _ e.symm;omega))
  have NB:=Aside0.mk (Kd.R_ne q5 kb (by decide))
  clear h1 h2 h3 h4 h5 h6 h7 q1 q2 q3 q4 q5 q7 qx kb kx hbl hsz
  -- REGION 2
  refine takeC 0 (by kernel_rfl) (fun _ _ _ h=>h) (Or.inl ⟨by rfl,fun W hS=>by dsimp only [opAt];go_simp;(try with_reducible rfl)⟩) trivial ?_
  simp only [opAt,Act.put,List.setIfInBounds_toArray,List.set_cons_zero,List.set_cons_succ]
  refine takeC 1 (by kernel_rfl) (fun _ _ _ h=>h) (Or.inl ⟨by rfl,fun W hS=>by dsimp only [opAt];go_simp;(try with_reducible rfl)⟩) trivial ?_
  simp only [opAt,Act.put,List.setIfInBounds_toArray,List.set_cons_zero,List.set_cons_succ]
  refine takeC 2 (by kernel_rfl) (fun _ _ _ h=>h) (Or.inl ⟨by rfl,fun W hS=>by dsimp only [opAt];go_simp;(try with_reducible rfl)⟩) trivial ?_
  simp only [opAt,Act.put,List.setIfInBounds_toArray,List.set_cons_zero,List.set_cons_succ]
  refine takeC 3 (by kernel_rfl) (fun _ _ _ h=>h) (Or.inl ⟨by rfl,fun W hS=>by dsimp only [opAt];go_simp;(try with_reducible rfl)⟩) trivial ?_
  simp only [opAt,Act.put,List.setIfInBounds_toArray,List.set_cons_zero,List.set_cons_succ]
  refine takeC 4 (by kernel_rfl) (fun _ _ _ h=>h) (Or.inl ⟨by rfl,fun W hS=>by obtain ⟨h0,_⟩:=hS;dsimp only [opAt];dsimp only at h0;go_simp;(try with_reducible rfl)⟩) ⟨y14,trivial⟩ ?_
  simp only [opAt,Act.put,List.setIfInBounds_toArray,List.set_cons_zero,List.set_cons_succ]
  refine takeC 5 (by kernel_rfl) (fun _ _ _ h=>h) (Or.inl ⟨by rfl,fun W hS=>by obtain ⟨h0,h1,h2,h3,h4,h5,h6,h7,h8,_⟩:=hS;dsimp only [opAt];dsimp only at h0 h1 h2 h3 h4 h5 h6 h7 h8;go_simp;(try with_reducible rfl)⟩) ⟨z0,z1,z2,z3,z4,z5,z6,z7,z8,trivial⟩ ?_
  simp only [opAt,Act.put,List.setIfInBounds_toArray,List.set_cons_zero,List.set_cons_succ]
  refine actC 6 (by kernel_rfl) rfl (fun K hK=>?_)
  dsimp only [opAt]
  refine wv_ (v:=.slice (some ⟨W.heap.size,0,none⟩) 1 1) (w1:=W.alloc (.cells #[.int .i64 x.kind,.int .i64 s.id,.int .i64 x.dst,.int .i64 s.view,.int .i64 x.last,.int .i64 x.prev,.slice AX x.log.length cX,.int .i64 x.commit,.int .i64 x.mat] 37)) (by first|(go_simp;done)|(go_simp;with_reducible rfl)|(go_simp;rfl)) (hK _ _ (presB (below_alloc (Below.refl _ _) _)) ?_)
  clear hK K
  simp only [opAt,Act.put,List.setIfInBounds_toArray,List.set_cons_zero,List.set_cons_succ]
  refine actC 7 (by kernel_rfl) rfl (fun K hK=>?_)
  dsimp only [opAt]
  refine unif rfl (Kd.R_append_step kMs (w0:=W) 0 (by rfl) (.tmp 20) (.tmp 22) 33 37 (.agg #[.int .i64 0,.int .i64 0,.int .i64 0,.int .i64 0,.int .i64 0,.int .i64 0,.slice none 0 0,.int .i64 0,.int .i64 0]) 88 (by rfl) Try.underlying33 info37 rfl (by decide) (by omega) (.slice AO out.length cO) out (tellM s x) [.int .i64 x.kind,.int .i64 s.id,.int .i64 x.dst,.int .i64 s.view,.int .i64 x.last,.int .i64 x.prev,.slice AX x.log.length cX,.int .i64 x.commit,.int .i64 x.mat] P (fun k=>P k∧some k ≠ (Value.slice AO out.length cO).ownBlock) (by rfl) (by rfl) HX.out (fun k hk=>hk) HFR.out H5.out (Below.refl _ _) (Nat.zero_le _) (by have:=HQ.out.2.2.2.2;omega) ?_)
  intro v1 w1 ho hb1 hg1 hat
  obtain ⟨A1,c1,rfl⟩:=Kd.R_slice ho
  have kb1:=blk_grown HW.out.1 hg1 NB.out
  refine hK _ _ (presG hg1 ⟨⟨y14,trivial⟩,⟨z0,z1,z2,z3,z4,z5,z6,z7,z8,trivial⟩,trivial⟩ ⟨⟨NB.out,trivial⟩,⟨KX.out.2,KX.out.2,KX.out.2,KX.out.2,KX.out.2,KX.out.2,KX.out.2,KX.out.2,KX.out.2,trivial⟩,trivial⟩) ?_
  clear hK K
  simp only [opAt,Act.put,List.setIfInBounds_toArray,List.set_cons_zero,List.set_cons_succ]
  have s14 : w1.cell? ⟨b,14,none⟩ = some (.slice AO out.length cO):=(blk_cell kb1 14).trans rfl
  have f14:=blk_frozen kb1 14
  have AP:=Aside0.mk (And.intro ho (And.intro hb1 (And.intro hg1 (And.intro hat kb1))))
  clear ho hb1 hg1 hat kb1
  refine takeC 8 (by kernel_rfl) (fun _ _ _ h=>h) (Or.inl ⟨by rfl,fun W hS=>by dsimp only [opAt];go_simp;(try with_reducible rfl)⟩) trivial ?_
  simp only [opAt,Act.put,List.setIfInBounds_toArray,List.set_cons_zero,List.set_cons_succ]
  refine takeC 9 (by kernel_rfl) (fun _ _ _ h=>h) (Or.inl ⟨by rfl,fun W hS=>by dsimp only [opAt];go_simp;(try with_reducible rfl)⟩) trivial ?_
  simp only [opAt,Act.put,List.setIfInBounds_toArray,List.set_cons_zero,List.set_cons_succ]
  refine actC 10 (by kernel_rfl) rfl (fun K hK=>?_)
  dsimp only [opAt]
  refine ws_ (w1:=w1.setCell ⟨b,14,none⟩ (.slice A1 (out ++ [tellM s x]).length c1)) (by go_simp) (hK _ _ (presW (by kernel_rfl)) ?_)
  clear hK K
  simp only [opAt,Act.put,List.setIfInBounds_toArray,List.set_cons_zero,List.set_cons_succ]
  refine doneC (by kernel_rfl) ?_ _
  go_end0
  obtain ⟨ho,hb1,hg1,hat,kb1⟩:=AP.out
  obtain ⟨kb,q1,q2,q3,q4,q7,hbl,hsz⟩:=HW.out
  have hty:=Kd.R_typed H5.out
  have hown : ∀ k,(Value.slice AO out.length cO).ownBlock = some k→P k:=H5.out.1
  have hgd : some gd ≠ (Value.slice AO out.length cO).ownBlock:=fun e=>HQ.out.2.1.1 (hown gd e.symm)
  have hl : (out ++ [tellM s x]).length = out.length + 1:=by simp
  rw [hl] at ho
  refine⟨rfl,⟨((Keeps.of_belows hbl _).grown hg1 (fun k hk=>.inl (.inr ⟨hown k hk,by obtain ⟨c',hc'⟩:=Kd.R_typed HR.out.2.2.2.2.1 k hk;exact⟨_,_,hc'⟩⟩))).setCell (p:=⟨b,14,none⟩) (.inl (.inl rfl)) _,fun i hi=>((World.cell?_setCell_other _ _ _ _ (fun e=>hi (by injection e with _ e2;first|exact e2|exact e2.symm))).trans (blk_cell kb1 i)).trans (blk_cell HB.out i).symm⟩,?_⟩
  refine⟨Nat.lt_of_lt_of_le HQ.out.2.2.1 (Nat.le_trans hbl.size (Nat.le_trans hg1.size (by simp))),AL,cL,AM,cM,AK,cK,AB,cB,AD,cD,A1,c1,?_,Kd.R_set (Kd.R_over' q1 hty (by decide) hg1) kb1 (by decide) 14 _,Kd.R_set (Kd.R_over' q2 hty (by decide) hg1) kb1 (by decide) 14 _,Kd.R_set (Kd.R_over' q3 hty (by decide) hg1) kb1 (by decide) 14 _,Kd.R_set (Kd.R_over' q4 hty (by decide) hg1) kb1 (by decide) 14 _,?_,HR.out.2.2.2.2.2.1,?_⟩
  · rw [hl];exact blk_put kb1 14 (.slice A1 (out.length + 1) c1) rfl
  · rw [hl];exact Kd.R_set ho kb1 (by decide) 14 _
  · exact Kd.F_step (Kd.F_step q7 (fun k hk hlt=>by subst hk;exact hg1.block k hlt hgd)) (fun k hk _=>Below.heap_setCell w1 _ _ k (by subst hk;exact HQ.out.2.1.2))
theorem tell.calls (b gd : Nat) (P : Nat→Prop) (s : St) (out : List Ms) (x : Ms) (AX : Option Addr) (cX : Nat) (w : World) (hM : Mac w b gd P s out) (hP : ∀ k,w.heap.size ≤ k→P k) (hg : ¬ P gd∧gd ≠ b) (hX : (Kd.slice 5 (Kd.int .u8)).R 22 w 0 P (.slice AX x.log.length cX) x.log) (hlen : out.length ≤ 1000) :
    Calls Try.prog 46 #[.pointer (some ⟨b,0,none⟩),.agg #[.int .i64 x.kind,.int .i64 x.fro,.int .i64 x.dst,.int .i64 x.view,.int .i64 x.last,.int .i64 x.prev,.slice AX x.log.length cX,.int .i64 x.commit,.int .i64 x.mat]] w fun e w'=>e = .returned (.tuple #[])∧Keeps w w' (Tells w b P)∧Mac w' b gd P s (out ++ [tellM s x]) :=
  (tell.calls2 b gd P s out x AX cX w hM hP hg hX hlen).mono (fun e w' h=>⟨h.1,h.2.1.1,h.2.2⟩)
end Go.Proofs.Ytojjnifbnppliaa.T
end
